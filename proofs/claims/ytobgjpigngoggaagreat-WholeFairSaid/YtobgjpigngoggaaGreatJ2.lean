/- The functions of the scheduler, layer by layer, proved operation by operation for all arguments, under the conditions that each theorem states: part 2. -/
import Derived.Test.YtobgjpigngoggaaGreatProg
import Derived.Shelf.SortM.Plain
import Derived.Shelf.SortM.SortNone
import Derived.Ground.SlgmProg
import Derived.Test.YtobgjpigngoggaaGreatJ1
set_option linter.unusedVariables false
set_option linter.unusedSimpArgs false
set_option maxHeartbeats 4000000
set_option maxRecDepth 100000
namespace Go.Proofs.YtobgjpigngoggaaGreat.V
open Go
section
variable{P:Program}{n:Nat}{env:aT}{w0:World}{S:E6}{H:List aI}{ops:Zb}{o:Oper}{K:Wy}
theorem Yp{α:Type}(enc:α→Za)(d0:α)(d:Nat){t e:TypeId}{x y:Operand}{z:Value}{sz by_:Nat}(len:Nat)(hb:by_*len≤281474976710656)(hm:len≤maxLen)(hs: ∀x,(enc x).length=sz)(H':Nat→List aI)
  (h: ∀b,V.A n ((d,.slice (some ⟨b,0,none⟩) (List.replicate len d0).length len)::env) w0 S (H' b) K)(hH: ∀b,H++[sl (some ⟨b,0,none⟩) (List.replicate len d0).length len e sz (aP enc<|List.replicate len d0)]=H' b:=by intro _;rfl)
  (hok:ff ops n env o (some d)=true:=by kernel_rfl)(ho:o.op= .makeSlice t x y:=by rfl)(hx:ev env x=some (.int .i64 (len:Int)):=by kernel_rfl)(hy:ev env y=some (.int .i64 (len:Int)):=by kernel_rfl)
  (ht:P.underlying t=some (.slice e):=by kernel_rfl)(hinf:(P.info? e).map (λi=>(i.zero,i.size,i.bytes))=some (some z,sz,by_):=by kernel_rfl)(hzs:z.cells.size=sz:=by rfl)(hd0:enc d0=z.cells.toList:=by rfl):V.A n env w0 S H (cz P ops o K):=by
 refine Yw enc d0 d len hok ho hx hy ht hinf hzs hd0 hb (Nat.le_trans hm<|by decide) _ (λ_=>rfl) λb=>?_
 have hl:(aP enc<|List.replicate len d0).length=len*sz:=by
  have: ∀m:Nat,(aP enc<|List.replicate m d0).length=m*sz:=λm=>by
   induction m with
   |zero=>simp[aP]
   |succ m ih=>simp only[List.replicate_succ,aP,List.flatMap_cons,List.length_append,hs] at ih⊢;rw[ih,Nat.succ_mul];omega
  exact this len
 refine yU H.length (b:=b) (t:=e) (cs:=aP enc<|List.replicate len d0) len sz (H' b) (by simp) hl hm ?_ ?_
 ·rw[←hH b];simp
 ·have:=h b
  rw[List.length_replicate] at this
  exact this
end
section
variable{P:Program}{Q:Exit→Wy}{n:Nat}{env:aT}{w0:World}{S:E6}{H:List aI}{ops:Zb}{rest:List Oper}{K:Wy}
theorem Yt(hs:List Hn)(ii:E6)(E:Nat→Nat→Nat→aT)(H':Nat→Nat→Nat→List aI)(l:Nat→Nat→Nat→E6)(C:Nat→Nat→Nat→Cx→Prop)(hx: ∀b c d,(nb hs,X P ops n ii hs (rest.take<|kn hs) [b,c,d] env [] H true)=(3,some ⟨E b c d,H' b c d,oN<|l b c d,C b c d⟩))(hc: ∀b c d,C b c d ⟨P,w0,S,H⟩)(h: ∀b c d,A n (E b c d) w0 S (H' b c d)<|wpList P ops Q<|rest.drop<|kn hs):A n env w0 S H (wpList P ops Q rest):=
 tX (m:=3) (k:=kn hs) hs ii (λbs=>E (bs.getD 0 0) (bs.getD 1 0)<|bs.getD 2 0) (λbs=>H' (bs.getD 0 0) (bs.getD 1 0)<|bs.getD 2 0) (λbs=>l (bs.getD 0 0) (bs.getD 1 0)<|bs.getD 2 0) (λbs=>C (bs.getD 0 0) (bs.getD 1 0)<|bs.getD 2 0) (λbs hb=>by
  match bs,hb with
  |[b,c,d],_=>exact hx b c d) (λ_ _=>hc _ _ _) (λ_ _=>h _ _ _)
end
end Go.Proofs.YtobgjpigngoggaaGreat.V
namespace Go.Proofs.YtobgjpigngoggaaGreat
open Go V
structure Pk where
 qi:Int
 qn:Int
 qa:Int
 qb:Int
 qc:Int
 qd:Int
 deriving Inhabited,DecidableEq
def gm(x:Pk):List Value:=[(u_ x.qi),(i_ x.qn),(w_ x.qa),(w_ x.qb),(w_ x.qc),(w_ x.qd)]
theorem tK(x:Pk):(gm x).length=6:=rfl
theorem UG(br:Nat)(ar:k0)(sx:List Pk)(cp f n:Nat)(w:World)(r0:(aA br [.slice ar sx.length cp,i_ (f:Int),i_ (n:Int)] 315).holds w):
  CW 143 #[p_ br] w (i_ (n:Int)):=by
 refine aU Tryz.func143 rfl (HS.nil w) (aE []<|aD<|aE [(4,b_ false)]<|bM<|aO<|dF [.rd [i_ (n:Int)]] [(2,i_ (n:Int))] (o1<|ro ⟨br,2,none⟩ (vs:=[i_ (n:Int)])<|cE r0 rfl)<|aF<|bJ [i_ (n:Int)] ?_)
 rfl
abbrev UH(p0)(p1):=(sl (some ⟨p0,0,none⟩) ((List.replicate p1 (default:Pk)).length) p1 45 6 (V.aP gm<|List.replicate p1 (default:Pk)):V.aI)
theorem UI(m:Nat)(h1:1≤m)(h2:m≤64):
  CS 144 #[i_ (m:Int)] [] (λ((br,al'):Nat×(k0))=>(.tuple #[p_ br,i_ 0])) (λ_=>True) λ(br,al')=>[aA br [.slice al' ((List.replicate m (default:Pk)).length) m,i_ 0,i_ 0] 315,sl al' ((List.replicate m (default:Pk)).length) m 45 6<|V.aP gm<|List.replicate m (default:Pk)]:=by
 intro w hs
 refine aU Tryz.func144 rfl hs (aE []<|bS<|bB [.o,.cl] [(9,b_<|(decide ((m:Int)<1))||(decide ((m:Int)>64)))]<|aL rfl (λe1=>?_) (λe1=>?_))
 ·exact absurd e1<|by(intro h_;simp at h_;omega)
 refine aO<|aC<|cV [.p] [(10,i_ (m:Int))]<|aG<|Yp gm (default:Pk) 11 (sz:=6) (by_:=24) (z:=(.agg #[u_ 0,i_ 0,w_ 0,w_ 0,w_ 0,w_ 0])) m (by omega) (by unfold maxLen;omega) tK (λb1=>[UH b1 m]) ?_
 intro b1
 refine dM [.al] [] (λb2=>[(2,p_ b2),(3,i_ 0)]) (λ_=>[]) (λb2=>aA b2 [.slice (some ⟨b1,0,none⟩) ((List.replicate m (default:Pk)).length) m,i_ 0,i_ 0] 315) ?_
 intro b2
 refine aF<|bR [1,0] [p_ b2,i_ 0] (b2,some ⟨b1,0,none⟩) ?_ ?_
 ·rfl
 trivial
abbrev Ea(p0)(p1)(p2:List Pk):=(i_ (((p0:Int)+(p1:Int)).tmod (p2.length:Int)):Value)
abbrev Eb(p0)(p1)(p2:List Pk)(p3)(p4)(p5):=(aA p0 [.slice p1 p2.length p3,i_ (p4:Int),i_ (p5:Int)] 315:V.aI)
theorem DX(br:Nat)(ar:k0)(sx:List Pk)(cp f n:Nat)(i:Nat)(hf:f<sx.length)(hn:n≤sx.length)(hl:sx.length≤64)(hi:i≤64)(w:World)(r0:(Eb br ar sx cp f n).holds w):
  CW 195 #[p_ br,i_ (i:Int)] w (i_ (((f+i)%sx.length:Nat):Int)):=by
 refine aU Tryz.func195 rfl (HS.nil w) (aE []<|aD<|bY [] 13<|eR 2 [.rd [i_ (f:Int)],.w<|(f:Int)+(i:Int),.rd [.slice ar sx.length cp]] (rg 0 11) [(10,i_<|(f:Int)+(i:Int)),(15,i_ (sx.length:Int))] (oc (ro ⟨br,1,none⟩ (vs:=[i_ (f:Int)])<|cE r0 rfl)<|oc (wj ((f:Int)+(i:Int))<|by omega)<|o1<|ro ⟨br,0,none⟩ (vs:=[.slice ar sx.length cp])<|cE r0 rfl)<|lG 11 (some 16) (Ea f i sx) rfl (by kernel_rfl) (by kernel_rfl) (UB rfl rfl rfl (by omega)) (cQ 0 [] [12] [(4,Ea f i sx)]<|eN<|aF<|bJ [Ea f i sx] ?_))
 rfl
abbrev Ec(p0:Pk):=(.agg #[u_ p0.qi,i_ p0.qn,w_ p0.qa,w_ p0.qb,w_ p0.qc,w_ p0.qd]:Value)
theorem Rx(br:Nat)(ar:k0)(sx:List Pk)(cp f n:Nat)(p:Pk)(hn:n=sx.length)(w:World)(r0:(Eb br ar sx cp f n).holds w)(r1:(sl ar (sx.length) cp 45 6<|V.aP gm sx).holds w):
  CW 145 #[p_ br,Ec p] w (i_ 5):=by
 refine aU Tryz.func145 rfl (HS.nil w) (aC<|dL [.al] [] (λb1=>[(3,p_ b1)]) (λb1=>aA b1 [u_ p.qi,i_ p.qn,w_ p.qa,w_ p.qb,w_ p.qc,w_ p.qd] 45) ?_)
 intro b1
 refine aD<|aR<|aE [(5,b_ false)]<|bM<|aC<|cV [.p] [(9,p_ br)]<|aG<|eM (some 10) [p_ br] Tryz.func194 rfl (aE []<|aD<|aE [(4,b_ false)]<|bM<|az<|jw [.rd [.slice ar sx.length cp],.rd [i_ (n:Int)],.w<|(sx.length:Int)-(n:Int)] (rg 0 11) [] [(2,i_<|(sx.length:Int)-(n:Int))] (oc (ro ⟨br,0,none⟩ (vs:=[.slice ar sx.length cp])<|cE r0 rfl)<|oc (ro ⟨br,2,none⟩ (vs:=[i_ (n:Int)])<|cE r0 rfl)<|o1<|wj ((sx.length:Int)-(n:Int))<|by omega)<|aF<|d6 [i_<|(sx.length:Int)-(n:Int)]<|aQ [(3,p_ b1),(8,b_<|((sx.length:Int)-(n:Int))==0)]<|aL rfl (λe1=>?_) (λe1=>?_))
 ·refine aE [(4,i_ 5)]<|aF<|bJ [i_ 5] ?_
  rfl
 exact absurd e1<|by(intro h_;simp at h_;omega)
theorem Ry(br:Nat)(ar:k0)(sx:List Pk)(cp f n:Nat)(p:Pk)(hf:f<sx.length)(hn:n<sx.length)(hl:sx.length≤64):
  CS 145 #[p_ br,Ec p] [Eb br ar sx cp f n,sl ar (sx.length) cp 45 6<|V.aP gm sx] (λ(zz:Unit)=>(i_ 0)) (λ_=>True) λ_=>[aA br [.slice ar ((sx.set ((f+n)%sx.length) p).length) cp,i_ (f:Int),i_ ((n+1:Nat):Int)] 315,sl ar ((sx.set ((f+n)%sx.length) p).length) cp 45 6<|V.aP gm<|sx.set ((f+n)%sx.length) p]:=by
 intro w hs
 have hm_:=Nat.mod_lt (f+n) (show 0<sx.length by omega)
 refine aU Tryz.func145 rfl hs (aC<|dL [.al] [] (λb1=>[(3,p_ b1)]) (λb1=>aA b1 [u_ p.qi,i_ p.qn,w_ p.qa,w_ p.qb,w_ p.qc,w_ p.qd] 45) ?_)
 intro b1
 refine aD<|aR<|aE [(5,b_ false)]<|bM<|aC<|cV [.p] [(9,p_ br)]<|aG<|eM (some 10) [p_ br] Tryz.func194 rfl (aE []<|aD<|aE [(4,b_ false)]<|bM<|aO<|(aD<|jw [.ld 0,.ld 0,.w<|(sx.length:Int)-(n:Int)] (rg 0 11) [] [(2,i_<|(sx.length:Int)-(n:Int))] (o1<|wj ((sx.length:Int)-(n:Int))<|by omega)<|aF<|d6 [i_<|(sx.length:Int)-(n:Int)]<|aQ [(3,p_ b1),(8,b_<|((sx.length:Int)-(n:Int))==0)]<|aL rfl (λe1=>?_) (λe1=>?_)))
 ·exact absurd e1<|by(intro h_;simp at h_;omega)
 refine aO<|aD<|bY [12] 13<|eR 1 [.ld 0,.ld 0,.cq<|i_ (((f+n)%sx.length:Nat):Int),.ld 2,.ix] (rg 0 12) [(22,Ec p),(23,.pointer<|some<|(au ar).add (((f+n)%sx.length:Nat)*6))] (oc (qo<|λw s=>DX br ar sx cp f n n ‹_› (by omega) ‹_› (by omega) w (s.mem (i:=0) rfl))<|o1<|jV 1 ((f+n)%sx.length:Nat) tK rfl (by omega))<|bF 12 rfl (Gn 1 ((f+n)%sx.length:Nat) p rfl tK (by omega) (cb<|eN<|aC<|gJ [.ld 0,.w<|(n:Int)+1,.st 0] [] [] [(0,aA br [.slice ar sx.length cp,i_ (f:Int),i_<|(n:Int)+1] 315)] (o1<|wj ((n:Int)+1)<|by omega)<|aE [(4,i_ 0)]<|aF<|ca 0 (aA br [.slice ar ((sx.set ((f+n)%sx.length) p).length) cp,i_ (f:Int),i_ ((n+1:Nat):Int)] 315) rfl (gx<|cc (congrArg (λz_:Nat=>Value.slice ar z_ cp) (by simp:sx.length=(sx.set ((f+n)%sx.length) p).length))<|cc rfl (cc (congrArg i_ (by rfl:(n:Int)+1=((n+1:Nat):Int))) rfl)) (ca 1 (sl ar ((sx.set ((f+n)%sx.length) p).length) cp 45 6<|V.aP gm<|sx.set ((f+n)%sx.length) p) rfl (eJ (by rfl:(sx.set ((f+n)%sx.length:Nat) p)=(sx.set ((f+n)%sx.length) p))) (bR [0,0] [i_ 0] () ?_ ?_))))
 ·rfl
 trivial
abbrev KW(p0:List Pk)(p1)(p2):=((.tuple #[.agg #[u_<|(p0.getD ((p1+p2)%p0.length) default).qi,i_<|(p0.getD ((p1+p2)%p0.length) default).qn,w_<|(p0.getD ((p1+p2)%p0.length) default).qa,w_<|(p0.getD ((p1+p2)%p0.length) default).qb,w_<|(p0.getD ((p1+p2)%p0.length) default).qc,w_<|(p0.getD ((p1+p2)%p0.length) default).qd],i_ 0]):Value)
theorem MZ(br:Nat)(ar:k0)(sx:List Pk)(cp f n:Nat)(i:Nat)(hf:f<sx.length)(hn:n≤sx.length)(hl:sx.length≤64)(hi:i<n)(w:World)(r0:(aA br [.slice ar sx.length cp,i_ (f:Int),i_ (n:Int)] 315).holds w)(r1:dR w ar (V.aP gm sx)):
  CW 253 #[p_ br,i_ (i:Int)] w (KW sx f i):=by
 have hm_:=Nat.mod_lt (f+i) (show 0<sx.length by omega)
 refine aU Tryz.func253 rfl (HS.nil w) (aC<|dL [.al] [] (λb1=>[(4,p_ b1)]) (λb1=>aA b1 [u_ 0,i_ 0,w_ 0,w_ 0,w_ 0,w_ 0] 45) ?_)
 intro b1
 refine aC<|dL [.al] [] (λb2=>[(6,p_ b2)]) (λb2=>aA b2 [u_ 0,i_ 0,w_ 0,w_ 0,w_ 0,w_ 0] 45) ?_
 intro b2
 refine aD<|aR<|aE [(7,b_ false)]<|bM<|dF [.o,.rd [i_ (n:Int)],.cl] [(11,b_<|(decide ((i:Int)<0))||(decide ((i:Int)≥(n:Int))))] (o1<|go (true&&((decide ((i:Int)<0))==false)) λh_=>(ro ⟨br,2,none⟩ (vs:=[i_ (n:Int)])<|cE r0 rfl))<|aL rfl (λe1=>?_) (λe1=>?_)
 ·exact absurd e1<|by(intro h_;simp at h_;omega)
 refine aO<|aD<|bY [9] 11 ?_
 obtain⟨x3,hx3⟩: ∃x,(sx)[((f+i)%sx.length:Nat)]? =some x:=⟨_,Ze<|by omega⟩
 refine eR 2 [.rd [.slice ar sx.length cp],.cq<|i_ (((f+i)%sx.length:Nat):Int),.ix,.rd [u_ x3.qi,i_ x3.qn,w_ x3.qa,w_ x3.qb,w_ x3.qc,w_ x3.qd]] (rg 0 9) [(31,.agg #[u_ x3.qi,i_ x3.qn,w_ x3.qa,w_ x3.qb,w_ x3.qc,w_ x3.qd])] (oc (ro ⟨br,0,none⟩ (vs:=[.slice ar sx.length cp])<|cE r0 rfl)<|oc (qo<|λww ss=>DX br ar sx cp f n i ‹_› ‹_› ‹_› (by omega) ww (bK ss r0))<|oc (io (((f+i)%sx.length:Nat):Int)<|dh tK (by decide) (cL r1<|by simp[aN])<|by omega)<|o1<|ro ((au ar).add (((f+i)%sx.length:Nat)*6))<|dr (vs:=[u_ x3.qi,i_ x3.qn,w_ x3.qa,w_ x3.qb,w_ x3.qc,w_ x3.qd]) tK (cL r1<|by simp[aN]) hx3 (Nat.le_of_ble_eq_true rfl) rfl) ?_
 refine bF 9 rfl (dQ 0 [u_ x3.qi,i_ x3.qn,w_ x3.qa,w_ x3.qb,w_ x3.qc,w_ x3.qd] rfl ?_)
 refine cb ?_
 refine cQ 0 [] [10] [(4,p_ b1),(5,i_ 0)] ?_
 refine eN ?_
 refine aF ?_
 refine pF 0 [u_ x3.qi,i_ x3.qn,w_ x3.qa,w_ x3.qb,w_ x3.qc,w_ x3.qd] (i_ 0) ?_
 show((.tuple #[.agg #[u_ x3.qi,i_ x3.qn,w_ x3.qa,w_ x3.qb,w_ x3.qc,w_ x3.qd],i_ 0]):Value)=(KW sx f i)
 simp_all[List.getD]
theorem UJ(br:Nat)(ar:k0)(sx:List Pk)(cp f n:Nat)(hf:f<sx.length)(hn:n≤sx.length)(hl:sx.length≤64)(h0:0<n):
  CS 211 #[p_ br] [aA br [.slice ar sx.length cp,i_ (f:Int),i_ (n:Int)] 315,sl ar (sx.length) cp 45 6<|V.aP gm sx] (λ(x:Pk)=>(.tuple #[.agg #[u_ x.qi,i_ x.qn,w_ x.qa,w_ x.qb,w_ x.qc,w_ x.qd],i_ 0])) (λx=>sx[f]? =some x) λ_=>[aA br [.slice ar ((sx.set f default).length) cp,i_ (((f+1)%sx.length:Nat):Int),i_ ((n-1:Nat):Int)] 315,sl ar ((sx.set f default).length) cp 45 6<|V.aP gm<|sx.set f default]:=by
 intro w hs
 refine aU Tryz.func211 rfl hs (aC<|dL [.al] [] (λb1=>[(2,p_ b1)]) (λb1=>aA b1 [u_ 0,i_ 0,w_ 0,w_ 0,w_ 0,w_ 0] 45) ?_)
 intro b1
 refine aC<|jI [.cq<|.tuple #[.agg #[u_<|(sx.getD ((f+0)%sx.length) default).qi,i_<|(sx.getD ((f+0)%sx.length) default).qn,w_<|(sx.getD ((f+0)%sx.length) default).qa,w_<|(sx.getD ((f+0)%sx.length) default).qb,w_<|(sx.getD ((f+0)%sx.length) default).qc,w_<|(sx.getD ((f+0)%sx.length) default).qd],i_ 0],.al,.st 3] [] (λb2=>[(4,p_ b2),(5,i_ 0)]) (λb2=>[]) (λb2=>aA b2 [u_<|(sx.getD ((f+0)%sx.length) default).qi,i_<|(sx.getD ((f+0)%sx.length) default).qn,w_<|(sx.getD ((f+0)%sx.length) default).qa,w_<|(sx.getD ((f+0)%sx.length) default).qb,w_<|(sx.getD ((f+0)%sx.length) default).qc,w_<|(sx.getD ((f+0)%sx.length) default).qd] 45) (λb2=>o1<|qo<|λw s=>MZ br ar sx cp f n 0 ‹_› ‹_› ‹_› ‹_› w (s.mem (i:=0) rfl) ((bW (i:=1) rfl) w s)) ?_
 intro b2
 refine aD<|aE [(13,b_ false)]<|bM<|aO<|aC<|dL [.al] [] (λb3=>[(6,p_ b3)]) (λb3=>aA b3 [u_ 0,i_ 0,w_ 0,w_ 0,w_ 0,w_ 0] 45) ?_
 intro b3
 refine aD<|bY [10] 11<|eR 1 [.ld 0,.ld 0,.ld 4,.ix] (rg 0 10) [(24,.agg #[u_ 0,i_ 0,w_ 0,w_ 0,w_ 0,w_ 0]),(25,.pointer<|some<|(au ar).add (f*6))] (o1<|jV 1 f tK rfl (by omega))<|bF 10 rfl (Gn 1 f (⟨0,0,0,0,0,0⟩:Pk) rfl tK (by omega) (cb<|eN<|aC<|gJ [.cq<|i_ (((f+1)%sx.length:Nat):Int),.st 0] [] [] [(0,aA br [.slice ar sx.length cp,i_ (((f+1)%sx.length:Nat):Int),i_ (n:Int)] 315)] (o1<|qo<|λw s=>DX br ar sx cp f n 1 ‹_› ‹_› ‹_› (by omega) w (s.mem (i:=0) rfl))<|aC<|gJ [.ld 0,.w<|(n:Int)-1,.st 0] [] [] [(0,aA br [.slice ar sx.length cp,i_ (((f+1)%sx.length:Nat):Int),i_<|(n:Int)-1] 315)] (o1<|wj ((n:Int)-1)<|by omega)<|aC<|bL [.ld 3,.st 2] [(3,i_ 0)] [(2,aA b1 [u_<|(sx.getD ((f+0)%sx.length) default).qi,i_<|(sx.getD ((f+0)%sx.length) default).qn,w_<|(sx.getD ((f+0)%sx.length) default).qa,w_<|(sx.getD ((f+0)%sx.length) default).qb,w_<|(sx.getD ((f+0)%sx.length) default).qc,w_<|(sx.getD ((f+0)%sx.length) default).qd] 45)]<|aF<|ca 0 (aA br [.slice ar ((sx.set f default).length) cp,i_ (((f+1)%sx.length:Nat):Int),i_ ((n-1:Nat):Int)] 315) rfl (gx<|cc (congrArg (λz_:Nat=>Value.slice ar z_ cp) (by simp:sx.length=(sx.set f default).length))<|cc rfl (cc (congrArg i_ (by omega:(n:Int)-1=((n-1:Nat):Int))) rfl)) (ca 1 (sl ar ((sx.set f default).length) cp 45 6<|V.aP gm<|sx.set f default) rfl (eJ (by rfl:(sx.set f (⟨0,0,0,0,0,0⟩:Pk))=(sx.set f default))) (cP [0,0] [.agg #[u_<|(sx.getD ((f+0)%sx.length) default).qi,i_<|(sx.getD ((f+0)%sx.length) default).qn,w_<|(sx.getD ((f+0)%sx.length) default).qa,w_<|(sx.getD ((f+0)%sx.length) default).qb,w_<|(sx.getD ((f+0)%sx.length) default).qc,w_<|(sx.getD ((f+0)%sx.length) default).qd],i_ 0] (λ_ w r s=>⟨dS 2 r s,cw r rfl,trivial⟩) ((sx.getD ((f+0)%sx.length) default)) ?_ ?_<|by kernel_rfl))))
 ·rfl
 (simp[List.getD,Nat.mod_eq_of_lt hf,Ze hf];done)
theorem HQ(w:World):
  CW 107 #[n_] w (i_ 0):=by
 refine aU Tryz.func107 rfl (HS.nil w) (aE []<|aD<|aE [(4,b_ true)]<|dU<|aE [(2,i_ 0)]<|aF<|bJ [i_ 0] ?_)
 rfl
theorem Ed(bq br:Nat)(ar:k0)(sx:List Pk)(cp f n:Nat)(rm bs k1 k2 k3 k4 k5 k6:Int)(w:World)(r0:(aA bq [p_ br,i_ rm,i_ bs,u_ k1,u_ k2,u_ k3,u_ k4,u_ k5,u_ k6] 269).holds w)(r1:(aA br [.slice ar sx.length cp,i_ (f:Int),i_ (n:Int)] 315).holds w):
  CW 107 #[p_ bq] w (i_ (n:Int)):=by
 refine aU Tryz.func107 rfl (HS.nil w) (aE []<|aD<|aE [(4,b_ false)]<|bM<|aO<|dF [.rd [p_ br],.cq<|i_ (n:Int)] [(2,i_ (n:Int))] (oc (ro ⟨bq,0,none⟩ (vs:=[p_ br])<|cE r0 rfl)<|o1<|qo<|λw s=>UG br ar sx cp f n w<|bK s r1)<|aF<|bJ [i_ (n:Int)] ?_)
 rfl
theorem UK(m:Nat)(rm:Int)(h1:1≤m)(h2:m≤64)(h3:1≤rm∧rm≤1048576):
  CS 108 #[i_ (m:Int),i_ rm] [] (λ((bq,br,al'):Nat×Nat×(k0))=>(.tuple #[p_ bq,i_ 0])) (λ_=>True) λ(bq,br,al')=>[aA bq [p_ br,i_ rm,i_ 0,u_ 0,u_ 0,u_ 0,u_ 0,u_ 0,u_ 0] 269,aA br [.slice al' ((List.replicate m (default:Pk)).length) m,i_ 0,i_ 0] 315,sl al' ((List.replicate m (default:Pk)).length) m 45 6<|V.aP gm<|List.replicate m (default:Pk)]:=by
 intro w hs
 refine aU Tryz.func108 rfl hs (aE []<|aC<|cV [.p] [(9,i_ (m:Int))]<|aG<|b0 (some 10) [] (UI m ‹_› ‹_›) ?_)
 rintro⟨br1,al'2⟩-
 refine aQ [(6,p_ br1),(7,i_ 0)]<|bS<|bB [.p,.p,.p,.p,.p,.p,.p,.o,.p,.p,.cl] [(22,b_<|(decide (rm<1))||(decide (rm>1048576)))]<|aL rfl (λe2=>?_) (λe2=>?_)
 ·exact absurd e2<|by(intro h_;simp at h_;omega)
 refine aO<|aC<|dL [.al] [] (λb4=>[(4,p_ b4),(5,i_ 0)]) (λb4=>aA b4 [p_ br1,i_ rm,i_ 0,u_ 0,u_ 0,u_ 0,u_ 0,u_ 0,u_ 0] 269) ?_
 intro b4
 refine aF<|bR [2,0,0] [p_ b4,i_ 0] (b4,br1,al'2) ?_ ?_
 ·rfl
 trivial
abbrev KX(p0)(p1:Pk):=(u_ (IntKind.u64.wrap<|p0+(IntKind.u64.wrap<|p1.qn)):Value)
abbrev AS(p0)(p1:Pk):=(i_ (IntKind.i64.wrap<|p0-p1.qn):Value)
abbrev UL(p0)(p1:List Pk)(p2)(p3):=(sl p0 ((p1.set p2 default).length) p3 45 6 (V.aP gm<|p1.set p2 default):V.aI)
abbrev UM(p0)(p1:Pk):=(aA p0 [u_ p1.qi,i_ p1.qn,w_ p1.qa,w_ p1.qb,w_ p1.qc,w_ p1.qd] 45:V.aI)
abbrev UN(p0)(p1)(p2:List Pk)(p3)(p4)(p5):=(aA p0 [.slice p1 ((p2.set p3 default).length) p4,i_ (((p3+1)%p2.length:Nat):Int),i_ ((p5-1:Nat):Int)] 315:V.aI)
theorem UO(bq br:Nat)(ar:k0)(sx:List Pk)(cp f n:Nat)(rm bs k1 k2 k3 k4 k5 k6:Int)(hf:f<sx.length)(hn:n≤sx.length)(hl:sx.length≤64)(h0:0<n):
  CS 153 #[p_ bq] [aA bq [p_ br,i_ rm,i_ bs,u_ k1,u_ k2,u_ k3,u_ k4,u_ k5,u_ k6] 269,aA br [.slice ar sx.length cp,i_ (f:Int),i_ (n:Int)] 315,sl ar (sx.length) cp 45 6<|V.aP gm sx] (λ((x,z2,z5):Pk×Int×Int)=>(.tuple #[.agg #[u_ x.qi,i_ x.qn,w_ x.qa,w_ x.qb,w_ x.qc,w_ x.qd],i_ 0])) (λ(x,z2,z5)=>sx[f]? =some x) λ(x,z2,z5)=>[aA bq [p_ br,i_ rm,AS bs x,u_ k1,u_ z2,u_ k3,u_ k4,u_ z5,u_ k6] 269,UN br ar sx f cp n,UL ar sx f cp]:=by
 intro w hs
 refine aU Tryz.func153 rfl hs (aC<|dL [.al] [] (λb1=>[(2,p_ b1)]) (λb1=>aA b1 [u_ 0,i_ 0,w_ 0,w_ 0,w_ 0,w_ 0] 45) ?_)
 intro b1
 refine aD<|aE [(7,b_ false)]<|bM<|aO<|aC<|an 4 [.ld 0] [(13,p_ br)]<|aG<|b0 (some 14) [1,1] (UJ br ar sx cp f n ‹_› ‹_› ‹_› ‹_›) ?_
 rintro x2 hz1
 refine dM [.al,.st 4] [] (λb3=>[(4,p_ b3),(5,i_ 0)]) (λb3=>[]) (λb3=>aA b3 [u_ x2.qi,i_ x2.qn,w_ x2.qa,w_ x2.qb,w_ x2.qc,w_ x2.qd] 45) ?_
 intro b3
 refine aD<|aE [(18,b_ false)]<|bM<|aO<|aD<|bY [9] 10<|cQ 1 [.ld 2,.ld 4] (rg 0 9) [(27,AS bs x2),(29,q_ bq 2)]<|bF 9 rfl (dQ 2 [AS bs x2] rfl (cb<|eN<|aC<|bL [.ld 2,.st 2] [(2,p_ b1),(4,p_ b3)] [(2,aA bq [p_ br,i_ rm,AS bs x2,u_ k1,u_<|wU<|k2+1,u_ k3,u_ k4,u_ k5,u_ k6] 269)]<|aD<|bY [12] 13<|cQ 1 [.ld 2,.ld 4] (rg 0 12) [(47,KX k5 x2),(50,q_ bq 7)]<|bF 12 rfl (dQ 2 [KX k5 x2] rfl (cb<|eN<|aC<|bL [.ld 4,.st 3] [(3,i_ 0)] [(3,UM b1 x2)]<|aF<|cP [2,0,0] [.agg #[u_ x2.qi,i_ x2.qn,w_ x2.qa,w_ x2.qb,w_ x2.qc,w_ x2.qd],i_ 0] (λ_ w r s=>⟨dS 3 r s,cw r rfl,trivial⟩) (x2,wU<|k2+1,wU<|k5+(wU<|x2.qn)) ?_ ?_<|by kernel_rfl))))
 ·rfl
 assumption
theorem Of(w:World):
  CW 214 #[n_] w (i_ 0):=by
 refine aU Tryz.func214 rfl (HS.nil w) (aE []<|aD<|dF [.cq<|i_ 0] [(7,b_ true)] (o1<|qw HQ)<|dU<|aE [(2,i_ 0)]<|aF<|bJ [i_ 0] ?_)
 rfl
theorem OZ(bq br:Nat)(ar:k0)(sx:List Pk)(cp f n:Nat)(rm bs k1 k2 k3 k4 k5 k6:Int)(hn:n=0)(w:World)(r0:(aA bq [p_ br,i_ rm,i_ bs,u_ k1,u_ k2,u_ k3,u_ k4,u_ k5,u_ k6] 269).holds w)(r1:(aA br [.slice ar sx.length cp,i_ (f:Int),i_ (n:Int)] 315).holds w)(r2:(sl ar (sx.length) cp 45 6<|V.aP gm sx).holds w):
  CW 214 #[p_ bq] w (i_ 0):=by
 refine aU Tryz.func214 rfl (HS.nil w) (aE []<|aD<|dF [.cq<|i_ (n:Int)] [(7,b_<|(n:Int)==0)] (o1<|qo<|λw s=>Ed bq br ar sx cp f n rm bs k1 k2 k3 k4 k5 k6 w (bK s r0)<|bK s r1)<|aL rfl (λe1=>?_) (λe1=>?_))
 ·refine aE [(2,i_ 0)]<|aF<|bJ [i_ 0] ?_
  rfl
 exact absurd e1<|by(intro h_;simp at h_;omega)
theorem Rz(bq br:Nat)(ar:k0)(sx:List Pk)(cp f n:Nat)(rm bs k1 k2 k3 k4 k5 k6:Int)(hf:f<sx.length)(hn:n≤sx.length)(hl:sx.length≤64)(h0:0<n)(w:World)(r0:(aA bq [p_ br,i_ rm,i_ bs,u_ k1,u_ k2,u_ k3,u_ k4,u_ k5,u_ k6] 269).holds w)(r1:(aA br [.slice ar sx.length cp,i_ (f:Int),i_ (n:Int)] 315).holds w)(r2:dR w ar (V.aP gm sx)):
  CW 214 #[p_ bq] w (i_<|(sx.getD f default).qn):=by
 refine aU Tryz.func214 rfl (HS.nil w) (aE []<|aD<|dF [.cq<|i_ (n:Int)] [(7,b_<|(n:Int)==0)] (o1<|qo<|λw s=>Ed bq br ar sx cp f n rm bs k1 k2 k3 k4 k5 k6 w (bK s r0)<|bK s r1)<|aL rfl (λe1=>?_) (λe1=>?_))
 ·exact absurd e1<|by(intro h_;simp at h_;omega)
 refine az<|aM<|jI [.rd [p_ br],.cq<|.tuple #[.agg #[u_<|(sx.getD ((f+0)%sx.length) default).qi,i_<|(sx.getD ((f+0)%sx.length) default).qn,w_<|(sx.getD ((f+0)%sx.length) default).qa,w_<|(sx.getD ((f+0)%sx.length) default).qb,w_<|(sx.getD ((f+0)%sx.length) default).qc,w_<|(sx.getD ((f+0)%sx.length) default).qd],i_ 0],.al,.st 0] [] (λb1=>[(3,p_ b1)]) (λb1=>[]) (λb1=>aA b1 [u_<|(sx.getD ((f+0)%sx.length) default).qi,i_<|(sx.getD ((f+0)%sx.length) default).qn,w_<|(sx.getD ((f+0)%sx.length) default).qa,w_<|(sx.getD ((f+0)%sx.length) default).qb,w_<|(sx.getD ((f+0)%sx.length) default).qc,w_<|(sx.getD ((f+0)%sx.length) default).qd] 45) (λb1=>oc (ro ⟨bq,0,none⟩ (vs:=[p_ br])<|cE r0 rfl)<|o1<|qo<|λw s=>MZ br ar sx cp f n 0 (by assumption) (by assumption) (by assumption) (by assumption) w (bK s r1)<|(cL r2<|by simp[aN]) w s) ?_
 intro b1
 refine aC<|bB [.ld 0] [(2,i_<|(sx.getD ((f+0)%sx.length) default).qn)]<|aF<|bJ [i_<|(sx.getD ((f+0)%sx.length) default).qn] ?_
 show((i_<|(sx.getD ((f+0)%sx.length) default).qn):Value)=(i_<|(sx.getD f default).qn)
 rw[Nat.add_zero,Nat.mod_eq_of_lt hf]
abbrev Ee(p0:Pk):=([(8,b_<|(decide (p0.qn<1))||(decide (p0.qn>16384)))]:aT)
abbrev Ef(p0):=(u_ (IntKind.u64.wrap<|p0+1):Value)
abbrev AT(p0:Pk):=(.agg #[u_ p0.qi,i_ p0.qn,w_ p0.qa,w_ p0.qb,w_ p0.qc,w_ p0.qd]:Value)
abbrev vD(p0)(p1:Pk):=(u_ (IntKind.u64.wrap<|p0+(IntKind.u64.wrap<|p1.qn)):Value)
abbrev re(p0)(p1)(p2)(p3)(p4)(p5)(p6)(p7)(p8)(p9)(p10)(p11:List Pk)(p12)(p13)(p14):=([aA p0 [p_ p1,i_ p2,i_ p3,u_ p4,u_ p5,u_ p6,u_ p7,u_ p8,u_ p9] 269,aA p1 [.slice p10 p11.length p12,i_ (p13:Int),i_ (p14:Int)] 315,sl p10 (p11.length) p12 45 6<|V.aP gm p11]:List V.aI)
theorem O0(bq br:Nat)(ar:k0)(sx:List Pk)(cp f n:Nat)(rm bs k1 k2 k3 k4 k5 k6:Int)(p:Pk)(hp:1≤p.qn∧p.qn≤16384)(hd:IntKind.i64.wrap (rm-bs)<p.qn)(w:World)(hs:HI w (re bq br rm bs k1 k2 k3 k4 k5 k6 ar sx cp f n)):
  CV 112 #[p_ bq,AT p] w (re bq br rm bs k1 k2 k3 k4 k5 k6 ar sx cp f n) (λ((z3,z6):Int×Int)=>(i_ 30)) (λ_=>True) λ(z3,z6)=>(re bq br rm bs k1 k2 z3 k4 k5 z6 ar sx cp f n):=by
 refine aU Tryz.func112 rfl hs (aC<|dL [.al] [] (λb1=>[(3,p_ b1)]) (λb1=>aA b1 [u_ p.qi,i_ p.qn,w_ p.qa,w_ p.qb,w_ p.qc,w_ p.qd] 45) ?_)
 intro b1
 refine aD<|aR<|aE [(5,b_ false)]<|bM<|aC<|bB [.ld 3,.o,.ld 3,.cl] (Ee p)<|aL rfl (λe1=>?_) (λe1=>?_)
 ·exact absurd e1<|by(intro h_;simp at h_;omega)
 refine aD<|bY [] 22<|cQ 9 [.ld 3,.ld 0,.ld 0] (rg 0 13) [(30,b_<|decide (p.qn>(IntKind.i64.wrap<|rm-bs)))]<|i5 (decide (p.qn>(IntKind.i64.wrap<|rm-bs))) (λe2=>?_)<|λe2=>?_
 ·refine dO 30 (b_ true) (gB e2)<|cQ 0 [.sk,.sk,.sk,.sk,.sk,.sk,.sk] (rg 13 9) [(17,b_ true)]<|eN<|dU<|aC<|bL [.ld 0,.st 0] [] [(0,aA bq [p_ br,i_ rm,i_ bs,u_ k1,u_ k2,Ef k3,u_ k4,u_ k5,u_ k6] 269)]<|aD<|bY [12] 13<|cQ 1 [.ld 0,.ld 3] (rg 0 12) [(56,vD k6 p),(59,q_ bq 8)]<|bF 12 rfl (dQ 0 [vD k6 p] rfl (cb<|eN<|aE [(4,i_ 30)]<|aF<|bR [0,0,0] [i_ 30] (wU<|k3+1,wU<|k6+(wU<|p.qn)) ?_ ?_))
  ·rfl
  trivial
 exact absurd e2<|by(intro h_;simp at h_;omega)
theorem O1(bq br:Nat)(ar:k0)(sx:List Pk)(cp f n:Nat)(rm bs k1 k2 k3 k4 k5 k6:Int)(p:Pk)(hp:1≤p.qn∧p.qn≤16384)(hd:p.qn≤IntKind.i64.wrap (rm-bs))(hn:n=sx.length)(w:World)(hs:HI w (re bq br rm bs k1 k2 k3 k4 k5 k6 ar sx cp f n)):
  CV 112 #[p_ bq,AT p] w (re bq br rm bs k1 k2 k3 k4 k5 k6 ar sx cp f n) (λ((z3,z6):Int×Int)=>(i_ 30)) (λ_=>True) λ(z3,z6)=>(re bq br rm bs k1 k2 z3 k4 k5 z6 ar sx cp f n):=by
 refine aU Tryz.func112 rfl hs (aC<|dL [.al] [] (λb1=>[(3,p_ b1)]) (λb1=>aA b1 [u_ p.qi,i_ p.qn,w_ p.qa,w_ p.qb,w_ p.qc,w_ p.qd] 45) ?_)
 intro b1
 refine aD<|aR<|aE [(5,b_ false)]<|bM<|aC<|bB [.ld 3,.o,.ld 3,.cl] (Ee p)<|aL rfl (λe1=>?_) (λe1=>?_)
 ·exact absurd e1<|by(intro h_;simp at h_;omega)
 refine aD<|jw [.ld 3,.ld 0,.ld 0,.o,.ld 0,.ld 3,.cq<|i_ 5,.cl] (rg 0 22) [] [(17,b_<|(decide (p.qn>(IntKind.i64.wrap<|rm-bs)))||true)] (o1<|go (true&&((decide (p.qn>(IntKind.i64.wrap<|rm-bs)))==false)) λh_=>(qo<|λw s=>Rx br ar sx cp f n p ‹_› w (s.mem (i:=1) rfl) (s.mem (i:=2) rfl)))<|aL rfl (λe2=>?_) (λe2=>?_)
 ·refine aC<|bL [.ld 0,.st 0] [] [(0,aA bq [p_ br,i_ rm,i_ bs,u_ k1,u_ k2,Ef k3,u_ k4,u_ k5,u_ k6] 269)]<|aD<|bY [12] 13<|cQ 1 [.ld 0,.ld 3] (rg 0 12) [(56,vD k6 p),(59,q_ bq 8)]<|bF 12 rfl (dQ 0 [vD k6 p] rfl (cb<|eN<|aE [(4,i_ 30)]<|aF<|bR [0,0,0] [i_ 30] (wU<|k3+1,wU<|k6+(wU<|p.qn)) ?_ ?_))
  ·rfl
  trivial
 exact absurd e2<|by(intro h_;simp at h_)
abbrev AU(p0)(p1:Pk):=(i_ (IntKind.i64.wrap<|p0+p1.qn):Value)
abbrev UP(p0)(p1)(p2:List Pk)(p3)(p4)(p5)(p6):=(aA p0 [.slice p1 ((p2.set ((p3+p4)%p2.length) p5).length) p6,i_ (p3:Int),i_ ((p4+1:Nat):Int)] 315:V.aI)
abbrev UQ(p0)(p1:List Pk)(p2)(p3)(p4)(p5):=(sl p0 ((p1.set ((p2+p3)%p1.length) p4).length) p5 45 6 (V.aP gm<|p1.set ((p2+p3)%p1.length) p4):V.aI)
theorem SA(bq br:Nat)(ar:k0)(sx:List Pk)(cp f n:Nat)(rm bs k1 k2 k3 k4 k5 k6:Int)(p:Pk)(hp:1≤p.qn∧p.qn≤16384)(hd:p.qn≤IntKind.i64.wrap (rm-bs))(hf:f<sx.length)(hn:n<sx.length)(hl:sx.length≤64)(w:World)(hs:HI w (re bq br rm bs k1 k2 k3 k4 k5 k6 ar sx cp f n)):
  CV 112 #[p_ bq,AT p] w (re bq br rm bs k1 k2 k3 k4 k5 k6 ar sx cp f n) (λ((z1,z4):Int×Int)=>(i_ 0)) (λ_=>True) λ(z1,z4)=>[aA bq [p_ br,i_ rm,AU bs p,u_ z1,u_ k2,u_ k3,u_ z4,u_ k5,u_ k6] 269,UP br ar sx f n p cp,UQ ar sx f n p cp]:=by
 refine aU Tryz.func112 rfl hs (aC<|dL [.al] [] (λb1=>[(3,p_ b1)]) (λb1=>aA b1 [u_ p.qi,i_ p.qn,w_ p.qa,w_ p.qb,w_ p.qc,w_ p.qd] 45) ?_)
 intro b1
 refine aD<|aR<|aE [(5,b_ false)]<|bM<|aC<|bB [.ld 3,.o,.ld 3,.cl] (Ee p)<|aL rfl (λe1=>?_) (λe1=>?_)
 ·exact absurd e1<|by(intro h_;simp at h_;omega)
 refine aD<|bY [18] 22<|cQ 9 [.ld 3,.ld 0,.ld 0] (rg 0 13) [(30,b_<|decide (p.qn>(IntKind.i64.wrap<|rm-bs)))]<|i5 (decide (p.qn>(IntKind.i64.wrap<|rm-bs))) (λe2=>?_)<|λe2=>?_
 ·exact absurd e2<|by(intro h_;simp at h_;omega)
 refine dO 30 (b_ false) (gB e2)<|cQ 4 [.ld 0,.ld 3] (rg 13 5) [(34,p_ br),(35,AT p)]<|bF 18 rfl (b0 (some 36) [1,1] (Ry br ar sx cp f n p ‹_› ‹_› ‹_›) ?_)
 rintro⟨⟩-
 refine cb<|cQ 0 [] [19,20,21] [(17,b_ false)]<|eN<|bM<|aO<|aD<|bY [9] 10<|cQ 1 [.ld 2,.ld 3] (rg 0 9) [(66,AU bs p),(68,q_ bq 2)]<|bF 9 rfl (dQ 2 [AU bs p] rfl (cb<|eN<|aC<|bL [.ld 2,.st 2] [(3,p_ b1)] [(2,aA bq [p_ br,i_ rm,AU bs p,Ef k1,u_ k2,u_ k3,u_ k4,u_ k5,u_ k6] 269)]<|aD<|bY [12] 13<|cQ 1 [.ld 2,.ld 3] (rg 0 12) [(86,vD k4 p),(89,q_ bq 6)]<|bF 12 rfl (dQ 2 [vD k4 p] rfl (cb<|eN<|aE [(4,i_ 0)]<|aF<|bR [2,0,0] [i_ 0] (wU<|k1+1,wU<|k4+(wU<|p.qn)) ?_ ?_))))
 ·rfl
 trivial
structure Cv where
 ka:Int
 kb:Int
 kc:Int
 deriving Inhabited,DecidableEq
def de(x:Cv):List Value:=[(u_ x.ka),(u_ x.kb),(u_ x.kc)]
theorem pL(x:Cv):(de x).length=3:=rfl
theorem Hm(x:Cv):(de x).all Value.oneCell'=true:=rfl
abbrev nO(A:k0)(xs:List Cv)(c:Nat):V.aI:=sl A xs.length c 60 3<|V.aP de xs
def ai(a b c:Int):Int:=if a=0∧b=0∧c=0 then 1 else if(a>4294967295∨c>4294967295)∨b>1048576 then 0 else if b=0∧a=c then 2 else if b>0∧a>c then 3 else if(b>0∧a=0)∧c>0 then 4 else 0
def bD(a b c:Int):Int:=if(a>4294967295∨c>4294967295)∨b>1048576 then 0 else if(a=0∧c=0)∧b=0 then 1 else if b=0∧a=c then 2 else if b=0 then 0 else if a>c then 3 else if a=0∧c>0 then 4 else 0
theorem rR(a b c:Int):0≤ai a b c∧ai a b c≤4:=by unfold ai;grind
theorem qS{a b c:Int}(ha:0≤a)(hb:0≤b)(hc:0≤c):ai a b c=bD a b c:=by unfold ai bD;grind
set_option maxHeartbeats 4000000 in
set_option maxRecDepth 100000 in
theorem tc(a b c:Int)(w:World):
  CW 167 #[.agg #[u_ a,u_ b,u_ c]] w (i_<|ai a b c):=by
 refine aU Tryz.func167 rfl (HS.nil w) (dW [(0,.agg #[u_ a,u_ b,u_ c])] [] ⟨rfl,trivial⟩ rfl (aC<|dM [.al] [] (λb1=>[(1,p_ b1)]) (λ_=>[]) (λb1=>aA b1 [u_ a,u_ b,u_ c] 60) ?_))
 intro b1
 refine aD<|aR<|aC<|bB [.ld 0,.eq] [(3,b_<|(a==0)&&((b==0)&&(c==0)))]<|aL (E:=(a==0)&&((b==0)&&(c==0))) rfl (λe1=>?_) (λe1=>?_)
 ·skip
  refine aE [(2,i_ 1)] ?_
  refine aF<|fE [i_ 1] (λaa ww rr ss=>⟨cw rr rfl,trivial⟩) ?_
  refine congrArg (Value.int .i64) ?_;unfold ai;grind[bV]
 ·skip
  refine aC<|bB [.ld 0,.ld 0,.o,.ld 0,.cl] [(7,b_<|(decide ((bV a c)>4294967295))||(decide (b>1048576)))]<|aL (E:=(decide ((bV a c)>4294967295))||(decide (b>1048576))) rfl (λe2=>?_) (λe2=>?_)
  ·skip
   refine aE [(2,i_ 0)] ?_
   refine aF<|fE [i_ 0] (λaa ww rr ss=>⟨cw rr rfl,trivial⟩) ?_
   refine congrArg (Value.int .i64) ?_;unfold ai;grind[bV]
  ·skip
   refine aC<|bB [.ld 0,.o,.ld 0,.ld 0,.cl] [(19,b_<|(b==0)&&(a==c))]<|aL (E:=(b==0)&&(a==c)) rfl (λe3=>?_) (λe3=>?_)
   ·skip
    refine aE [(2,i_ 2)] ?_
    refine aF<|fE [i_ 2] (λaa ww rr ss=>⟨cw rr rfl,trivial⟩) ?_
    refine congrArg (Value.int .i64) ?_;unfold ai;grind[bV]
   ·skip
    refine aC<|bB [.ld 0,.o,.ld 0,.ld 0,.cl] [(30,b_<|(decide (b>0))&&(decide (a>c)))]<|aL (E:=(decide (b>0))&&(decide (a>c))) rfl (λe4=>?_) (λe4=>?_)
    ·skip
     refine aC<|da [] [(2,i_ 3)] ?_
     refine aF<|fE [i_ 3] (λaa ww rr ss=>⟨cw rr rfl,trivial⟩) ?_
     refine congrArg (Value.int .i64) ?_;unfold ai;grind[bV]
    ·skip
     refine aC<|da [.ld 0,.o,.ld 0,.cl,.o,.ld 0,.cl] [(41,b_<|((decide (b>0))&&(a==0))&&(decide (c>0)))]<|aL (E:=((decide (b>0))&&(a==0))&&(decide (c>0))) rfl (λe5=>?_) (λe5=>?_)
     ·skip
      refine aE [(2,i_ 4)] ?_
      refine aF<|fE [i_ 4] (λaa ww rr ss=>⟨cw rr rfl,trivial⟩) ?_
      refine congrArg (Value.int .i64) ?_;unfold ai;grind[bV]
     ·skip
      refine aO<|aE [(2,i_ 0)] ?_
      refine aF<|fE [i_ 0] (λaa ww rr ss=>⟨cw rr rfl,trivial⟩) ?_
      refine congrArg (Value.int .i64) ?_;unfold ai;grind[bV]
set_option maxHeartbeats 4000000 in
set_option maxRecDepth 100000 in
theorem CU(a b c:Int)(w:World):
  CW 176 #[.agg #[u_ a,u_ b,u_ c]] w (b_<|ai a b c !=0):=by
 refine aU Tryz.func176 rfl (HS.nil w) (dW [(0,.agg #[u_ a,u_ b,u_ c])] [] ⟨rfl,trivial⟩ rfl (aC<|dM [.al] [] (λb1=>[(1,p_ b1)]) (λ_=>[]) (λb1=>aA b1 [u_ a,u_ b,u_ c] 60) ?_))
 intro b1
 refine dF [.ld 0,.cq<|i_<|ai a b c] [(2,b_<|(ai a b c)!=0)] (o1<|qw<|tc a b c)<|aF<|fE [b_<|(ai a b c)!=0] (λ_ w r s=>⟨cw r rfl,trivial⟩) ?_
 first|rfl|simp_all
structure Nm where
 nq1:Int
 nq2:Int
 deriving Inhabited,DecidableEq
def cY(x:Nm):List Value:=[(u_ x.nq1),(u_ x.nq2)]
structure Ln where
 lq1:Int
 lq2:Int
 lq3:Int
 lq4:Int
 deriving Inhabited,DecidableEq
def jc(x:Ln):List Value:=[(u_ x.lq1),(u_ x.lq2),(u_ x.lq3),(u_ x.lq4)]
structure Rn where
 rq1:Int
 rq2:Int
 rq3:Int
 rq4:Int
 rq5:Int
 rq6:Int
 rq7:Int
 rq8:Int
 rq9:Bool
 deriving Inhabited,DecidableEq
def cZ(x:Rn):List Value:=[(u_ x.rq1),(u_ x.rq2),(u_ x.rq3),(u_ x.rq4),(u_ x.rq5),(u_ x.rq6),(u_ x.rq7),(u_ x.rq8),(b_ x.rq9)]
structure Du where
 dq1:Bool
 dq2:Int
 dq3:Int
 dq4:Int
 dq5:Int
 dq6:Int
 dq7:Int
 dq8:Int
 dq9:Int
 dq10:Bool
 dq11:Int
 dq12:Int
 dq13:Int
 dq14:Int
 dq15:Int
 dq16:Int
 dq17:Int
 dq18:Int
 dq19:Bool
 dq20:Int
 dq21:Int
 dq22:Int
 deriving Inhabited,DecidableEq
def fO(x:Du):List Value:=[(b_ x.dq1),(u_ x.dq2),(u_ x.dq3),(u_ x.dq4),(u_ x.dq5),(u_ x.dq6),(u_ x.dq7),(u_ x.dq8),(u_ x.dq9),(b_ x.dq10),(u_ x.dq11),(u_ x.dq12),(u_ x.dq13),(u_ x.dq14),(u_ x.dq15),(u_ x.dq16),(u_ x.dq17),(u_ x.dq18),(b_ x.dq19),(u_ x.dq20),(u_ x.dq21),(u_ x.dq22)]
structure Sh where
 sq1:Bool
 sq2:Int
 sq3:Int
 sq4:Int
 sq5:Int
 sq6:Int
 sq7:Int
 sq8:Int
 sq9:Int
 sq10:Bool
 sq11:Int
 deriving Inhabited,DecidableEq
def iE(x:Sh):List Value:=[(b_ x.sq1),(u_ x.sq2),(u_ x.sq3),(u_ x.sq4),(u_ x.sq5),(u_ x.sq6),(u_ x.sq7),(u_ x.sq8),(u_ x.sq9),(b_ x.sq10),(u_ x.sq11)]
structure Li where
 uq1:Bool
 uq2:Int
 uq3:Int
 uq4:Int
 uq5:Int
 uq6:Int
 uq7:Int
 uq8:Int
 uq9:Int
 uq10:Bool
 uq11:Int
 deriving Inhabited,DecidableEq
def gu(x:Li):List Value:=[(b_ x.uq1),(u_ x.uq2),(u_ x.uq3),(u_ x.uq4),(u_ x.uq5),(u_ x.uq6),(u_ x.uq7),(u_ x.uq8),(u_ x.uq9),(b_ x.uq10),(u_ x.uq11)]
def mV(a b c:Int):Int:=IntKind.u64.wrap<|(IntKind.u64.wrap<|a+b)+c
def jm(a b c:Int):Int:=(ag .or .u64 (ag .and .u64 a b)<|ag .andNot .u64 (ag .or .u64 a b)<|mV a b c)/9223372036854775808
def lu(a b c:Int):Int:=IntKind.u64.wrap<|(IntKind.u64.wrap<|a-b)-c
def jq(a b c:Int):Int:=(ag .or .u64 (ag .and .u64 (ag .xor .u64 18446744073709551615 a) b)<|ag .and .u64 (ag .xor .u64 18446744073709551615<|ag .xor .u64 a b)<|lu a b c)/9223372036854775808
def fR(a b:Nm):Nm:=⟨mV a.nq1 b.nq1<|jm a.nq2 b.nq2 0,mV a.nq2 b.nq2 0⟩
def vp(a b:Nm):Bool:=jm a.nq1 b.nq1 (jm a.nq2 b.nq2 0)!=0
def kU(a b:Nm):Nm:=⟨lu a.nq1 b.nq1<|jq a.nq2 b.nq2 0,lu a.nq2 b.nq2 0⟩
def N1(a b:Nm):Bool:=jq a.nq1 b.nq1 (jq a.nq2 b.nq2 0)!=0
def ly(a b:Nm):Int:=if a.nq1<b.nq1∨a.nq1=b.nq1∧a.nq2<b.nq2 then-1 else if a.nq1=b.nq1∧a.nq2=b.nq2 then 0 else 1
def lz(a b:Int):Int:=IntKind.u64.wrap<|(ag .and .u64 a 4294967295)*(ag .and .u64 b 4294967295)
def kV(a b:Int):Int:=IntKind.u64.wrap<|(IntKind.u64.wrap<|(a/4294967296)*(ag .and .u64 b 4294967295))+((lz a b)/4294967296)
def om(a b:Int):Int:=IntKind.u64.wrap<|(IntKind.u64.wrap<|(ag .and .u64 a 4294967295)*(b/4294967296))+(ag .and .u64 (kV a b) 4294967295)
def aH(a b:Int):Nm:=⟨IntKind.u64.wrap<|(IntKind.u64.wrap<|(IntKind.u64.wrap<|(a/4294967296)*(b/4294967296))+((kV a b)/4294967296))+((om a b)/4294967296),ag .or .u64 (IntKind.u64.wrap<|(om a b)*4294967296)<|ag .and .u64 (lz a b) 4294967295⟩
abbrev AV(p0)(p1)(p2):=(u_ (IntKind.u64.wrap<|(IntKind.u64.wrap<|p0+p1)+p2):Value)
abbrev Eg(p0)(p1)(p2):=(u_ ((ag .or .u64 (ag .and .u64 p0 p1)<|ag .andNot .u64 (ag .or .u64 p0 p1)<|IntKind.u64.wrap<|(IntKind.u64.wrap<|p0+p1)+p2)/9223372036854775808):Value)
theorem KY(a b c:Int)(w:World):
  CW 262 #[u_ a,u_ b,u_ c] w (.tuple #[u_<|mV a b c,u_<|jm a b c]):=by
 refine aU Tryz.func262 rfl (HS.nil w) (aE []<|aE [(8,AV a b c)]<|aC<|an 10 [] [(14,AV a b c),(23,u_<|ag .or .u64 (ag .and .u64 a b)<|ag .andNot .u64 (ag .or .u64 a b)<|wU<|(wU<|a+b)+c)]<|aG<|cC (some 24) (Eg a b c) (jC (congrArg (Value.int .u64)<|Int.fdiv_eq_ediv_of_nonneg (ag .or .u64 (ag .and .u64 a b)<|ag .andNot .u64 (ag .or .u64 a b)<|wU<|(wU<|a+b)+c)<|by decide)<|jM (v:= .int .u64 ((ag .or .u64 (ag .and .u64 a b)<|ag .andNot .u64 (ag .or .u64 a b)<|wU<|(wU<|a+b)+c).fdiv 9223372036854775808)) (by kernel_rfl) λ_=>by kernel_rfl)<|aQ [(6,AV a b c),(7,Eg a b c)]<|aF<|bJ [AV a b c,Eg a b c] ?_)
 rfl
abbrev AW(p0)(p1)(p2):=(u_ (IntKind.u64.wrap<|(IntKind.u64.wrap<|p0-p1)-p2):Value)
abbrev Eh(p0)(p1)(p2):=(u_ ((ag .or .u64 (ag .and .u64 (ag .xor .u64 18446744073709551615 p0) p1)<|ag .and .u64 (ag .xor .u64 18446744073709551615<|ag .xor .u64 p0 p1)<|IntKind.u64.wrap<|(IntKind.u64.wrap<|p0-p1)-p2)/9223372036854775808):Value)
theorem KZ(a b c:Int)(w:World):
  CW 281 #[u_ a,u_ b,u_ c] w (.tuple #[u_<|lu a b c,u_<|jq a b c]):=by
 refine aU Tryz.func281 rfl (HS.nil w) (aE []<|aE [(8,AW a b c)]<|aC<|an 12 [] [(14,AW a b c),(25,u_<|ag .or .u64 (ag .and .u64 (ag .xor .u64 18446744073709551615 a) b)<|ag .and .u64 (ag .xor .u64 18446744073709551615<|ag .xor .u64 a b)<|wU<|(wU<|a-b)-c)]<|aG<|cC (some 26) (Eh a b c) (jC (congrArg (Value.int .u64)<|Int.fdiv_eq_ediv_of_nonneg (ag .or .u64 (ag .and .u64 (ag .xor .u64 18446744073709551615 a) b)<|ag .and .u64 (ag .xor .u64 18446744073709551615<|ag .xor .u64 a b)<|wU<|(wU<|a-b)-c)<|by decide)<|jM (v:= .int .u64 ((ag .or .u64 (ag .and .u64 (ag .xor .u64 18446744073709551615 a) b)<|ag .and .u64 (ag .xor .u64 18446744073709551615<|ag .xor .u64 a b)<|wU<|(wU<|a-b)-c).fdiv 9223372036854775808)) (by kernel_rfl) λ_=>by kernel_rfl)<|aQ [(6,AW a b c),(7,Eh a b c)]<|aF<|bJ [AW a b c,Eh a b c] ?_)
 rfl
theorem BQ(a b:Nm)(w:World):
  CW 243 #[.agg (cY a).toArray,.agg (cY b).toArray] w (.tuple #[.agg (cY<|fR a b).toArray,b_<|vp a b]):=by
 refine aU Tryz.func243 rfl (HS.nil w) (aC<|nW [.al,.al,.al,.p] [2,3,4] (λb1 b2 b3=>[(2,p_ b1),(3,p_ b2),(4,p_ b3)]) (λb1 b2 b3=>[aA b1 (cY a) 213,aA b2 (cY b) 213,aA b3 [u_ 0,u_ 0] 213]) (λb1 b2 b3=>[]) (λ_ _ _=>T0) (λ_ _ _=>by kernel_rfl) (λb1 b2 b3=>trivial) ?_)
 intro b1 b2 b3
 refine dF [.ld 0,.ld 1,.cq<|.tuple #[u_<|mV a.nq2 b.nq2 0,u_<|jm a.nq2 b.nq2 0]] [(6,u_<|mV a.nq2 b.nq2 0),(7,u_<|jm a.nq2 b.nq2 0)] (o1<|qw<|KY a.nq2 b.nq2 0)<|dF [.ld 0,.ld 1,.cq<|.tuple #[u_<|mV a.nq1 b.nq1<|jm a.nq2 b.nq2 0,u_<|jm a.nq1 b.nq1<|jm a.nq2 b.nq2 0]] [(8,u_<|mV a.nq1 b.nq1<|jm a.nq2 b.nq2 0),(9,u_<|jm a.nq1 b.nq1<|jm a.nq2 b.nq2 0)] (o1<|qw<|KY a.nq1 b.nq1<|jm a.nq2 b.nq2 0)<|aC<|bL [.st 2] [(5,b_<|(jm a.nq1 b.nq1<|jm a.nq2 b.nq2 0)!=0)] [(2,aA b3 [u_<|mV a.nq1 b.nq1<|jm a.nq2 b.nq2 0,u_<|mV a.nq2 b.nq2 0] 213)]<|aF<|pF 2 [u_<|mV a.nq1 b.nq1<|jm a.nq2 b.nq2 0,u_<|mV a.nq2 b.nq2 0] (b_<|(jm a.nq1 b.nq1<|jm a.nq2 b.nq2 0)!=0) ?_
 rfl
theorem Wz(a b:Nm)(w:World):
  CW 269 #[.agg (cY a).toArray,.agg (cY b).toArray] w (.tuple #[.agg (cY<|kU a b).toArray,b_<|N1 a b]):=by
 refine aU Tryz.func269 rfl (HS.nil w) (aC<|nW [.al,.al,.al,.p] [2,3,4] (λb1 b2 b3=>[(2,p_ b1),(3,p_ b2),(4,p_ b3)]) (λb1 b2 b3=>[aA b1 (cY a) 213,aA b2 (cY b) 213,aA b3 [u_ 0,u_ 0] 213]) (λb1 b2 b3=>[]) (λ_ _ _=>T0) (λ_ _ _=>by kernel_rfl) (λb1 b2 b3=>trivial) ?_)
 intro b1 b2 b3
 refine dF [.ld 0,.ld 1,.cq<|.tuple #[u_<|lu a.nq2 b.nq2 0,u_<|jq a.nq2 b.nq2 0]] [(6,u_<|lu a.nq2 b.nq2 0),(7,u_<|jq a.nq2 b.nq2 0)] (o1<|qw<|KZ a.nq2 b.nq2 0)<|dF [.ld 0,.ld 1,.cq<|.tuple #[u_<|lu a.nq1 b.nq1<|jq a.nq2 b.nq2 0,u_<|jq a.nq1 b.nq1<|jq a.nq2 b.nq2 0]] [(8,u_<|lu a.nq1 b.nq1<|jq a.nq2 b.nq2 0),(9,u_<|jq a.nq1 b.nq1<|jq a.nq2 b.nq2 0)] (o1<|qw<|KZ a.nq1 b.nq1<|jq a.nq2 b.nq2 0)<|aC<|bL [.st 2] [(5,b_<|(jq a.nq1 b.nq1<|jq a.nq2 b.nq2 0)!=0)] [(2,aA b3 [u_<|lu a.nq1 b.nq1<|jq a.nq2 b.nq2 0,u_<|lu a.nq2 b.nq2 0] 213)]<|aF<|pF 2 [u_<|lu a.nq1 b.nq1<|jq a.nq2 b.nq2 0,u_<|lu a.nq2 b.nq2 0] (b_<|(jq a.nq1 b.nq1<|jq a.nq2 b.nq2 0)!=0) ?_
 rfl
theorem Fq(a b:Nm)(w:World):
  CW 229 #[.agg (cY a).toArray,.agg (cY b).toArray] w (i_<|ly a b):=by
 refine aU Tryz.func229 rfl (HS.nil w) (aC<|iK [.al,.al] [] (λb1 b2=>[(2,p_ b1),(3,p_ b2)]) (λb1 b2=>[aA b1 (cY a) 213,aA b2 (cY b) 213]) ?_)
 intro b1 b2
 refine aD<|aR<|aC<|bB [.ld 0,.ld 1,.p,.p,.o,.ld 0,.ld 1,.p,.p,.o,.ld 0,.ld 1,.p,.cl,.cl] [(5,b_<|(decide (a.nq1<b.nq1))||((a.nq1==b.nq1)&&(decide (a.nq2<b.nq2))))]<|aL rfl (λe1=>?_) (λe1=>?_)
 ·refine aE [(4,i_ (-1))]<|aF<|bJ [i_ (-1)] ?_
  refine congrArg (Value.int .i64) ?_;unfold ly;grind
 refine aC<|bB [.ld 0,.ld 1,.eq] [(25,b_<|(a.nq1==b.nq1)&&(a.nq2==b.nq2))]<|aL rfl (λe2=>?_) (λe2=>?_)
 ·refine aE [(4,i_ 0)]<|aF<|bJ [i_ 0] ?_
  refine congrArg (Value.int .i64) ?_;unfold ly;grind
 have p2:=e2
 refine aO<|aE [(4,i_ 1)]<|aF<|bJ [i_ 1] ?_
 refine congrArg (Value.int .i64) ?_;unfold ly;grind
theorem sK(a b:Int)(w:World):
  CW 205 #[u_ a,u_ b] w (.agg (cY<|aH a b).toArray):=by
 refine aU Tryz.func205 rfl (HS.nil w) (aC<|dL [.al] [] (λb1=>[(4,p_ b1)]) (λb1=>aA b1 [u_ 0,u_ 0] 213) ?_)
 intro b1
 refine aC<|cV [.p] [(12,u_ a)]<|aG<|cC (some 13) (u_<|a/4294967296) (jC (congrArg (Value.int .u64)<|Int.fdiv_eq_ediv_of_nonneg a<|by decide)<|jM (v:= .int .u64 (a.fdiv 4294967296)) (by kernel_rfl) λ_=>by kernel_rfl)<|aQ [(5,u_<|a/4294967296),(6,u_<|ag .and .u64 a 4294967295)]<|aC<|cV [.p] [(16,u_ b)]<|aG<|cC (some 17) (u_<|b/4294967296) (jC (congrArg (Value.int .u64)<|Int.fdiv_eq_ediv_of_nonneg b<|by decide)<|jM (v:= .int .u64 (b.fdiv 4294967296)) (by kernel_rfl) λ_=>by kernel_rfl)<|aQ [(7,u_<|b/4294967296),(8,u_<|ag .and .u64 b 4294967295)]<|aE [(9,u_<|lz a b)]<|aC<|an 4 [] [(25,u_<|wU<|(a/4294967296)*(ag .and .u64 b 4294967295)),(26,u_<|lz a b)]<|aG<|cC (some 27) (u_<|(lz a b)/4294967296) (jC (congrArg (Value.int .u64)<|Int.fdiv_eq_ediv_of_nonneg (lz a b)<|by decide)<|jM (v:= .int .u64 ((lz a b).fdiv 4294967296)) (by kernel_rfl) λ_=>by kernel_rfl)<|aQ [(10,u_<|kV a b)]<|aE [(11,u_<|om a b)]<|aC<|an 4 [] [(37,u_<|wU<|(a/4294967296)*(b/4294967296)),(38,u_<|kV a b)]<|aG<|cC (some 39) (u_<|(kV a b)/4294967296) (jC (congrArg (Value.int .u64)<|Int.fdiv_eq_ediv_of_nonneg (kV a b)<|by decide)<|jM (v:= .int .u64 ((kV a b).fdiv 4294967296)) (by kernel_rfl) λ_=>by kernel_rfl)<|an 2 [] [(40,u_<|wU<|(wU<|(a/4294967296)*(b/4294967296))+((kV a b)/4294967296)),(41,u_<|om a b)]<|aG<|cC (some 42) (u_<|(om a b)/4294967296) (jC (congrArg (Value.int .u64)<|Int.fdiv_eq_ediv_of_nonneg (om a b)<|by decide)<|jM (v:= .int .u64 ((om a b).fdiv 4294967296)) (by kernel_rfl) λ_=>by kernel_rfl)<|bL [.st 0] [] [(0,aA b1 (cY<|aH a b) 213)]<|aF<|ez 0 (cY<|aH a b) ?_
 rfl
structure Dv where
 av:Nm
 qv:Nm
 rv:Int
def sY(b:Int)(s:Dv):Bool:=(s.rv/9223372036854775808 !=0)||decide (ag .or .u64 (IntKind.u64.wrap<|s.rv*2) (s.av.nq1/9223372036854775808)≥b)
def sZ(b:Int)(s:Dv):Dv:=
 ⟨⟨ag .or .u64 (IntKind.u64.wrap<|s.av.nq1*2)<|s.av.nq2/9223372036854775808,IntKind.u64.wrap<|s.av.nq2*2⟩,
  ⟨ag .or .u64 (IntKind.u64.wrap<|s.qv.nq1*2)<|s.qv.nq2/9223372036854775808,if sY b s then ag .or .u64 (IntKind.u64.wrap<|s.qv.nq2*2) 1 else IntKind.u64.wrap<|s.qv.nq2*2⟩,
  if sY b s then IntKind.u64.wrap ((ag .or .u64 (IntKind.u64.wrap<|s.rv*2)<|s.av.nq1/9223372036854775808)-b) else ag .or .u64 (IntKind.u64.wrap<|s.rv*2)<|s.av.nq1/9223372036854775808⟩
def bj(a:Nm)(b:Int):Nat→Dv
 |0=>⟨a,⟨0,0⟩,0⟩
 |k+1=>sZ b<|bj a b k
theorem wt(a:Nm)(b:Int)(k:Nat):bj a b (k+1)=sZ b (bj a b k):=rfl
def fM(a:Nm)(b:Int):Nm:=if b=0 then⟨0,0⟩ else(bj a b 128).qv
def px(a:Nm)(b:Int):Int:=if b=0 then 0 else(bj a b 128).rv
def lS(b:Int):Int:=if b=0 then 1 else 0
def oa(a:Nm)(b:Int):Nm:=if px a b=0 then fM a b else fR (fM a b) ⟨0,1⟩
def kS(a:Nm)(b:Int):Int:=if b=0 then 1 else if(oa a b).nq1=0 then 0 else 20
def jd(a:Nm)(b:Int):Int:=if b=0 then 0 else if(oa a b).nq1=0 then(oa a b).nq2 else 0
theorem XA(a:Nm)(b:Int)(w:World):
  CW 282 #[.agg (cY a).toArray,u_ b] w (.tuple #[.agg (cY<|fM a b).toArray,u_<|px a b,i_<|lS b]):=by
 refine aU Tryz.func282 rfl (HS.nil w) (aC<|iK [.al,.al] [] (λb1 b2=>[(2,p_ b1),(4,p_ b2)]) (λb1 b2=>[aA b1 (cY a) 213,aA b2 [u_ 0,u_ 0] 213]) ?_)
 intro b1 b2
 refine aD<|aE [(11,b_<|b==0)]<|iD (b==0) (λe1=>?_)<|λe1=>?_
 ·refine aC<|bL [.st 1] [(5,u_ 0),(6,i_ 1)] []<|aF<|fE [.agg #[u_ 0,u_ 0],u_ 0,i_ 1] (λ_ w r s=>⟨dS 1 r s,cw r rfl,cw r rfl,trivial⟩) ?_
  show((.tuple #[.agg #[u_ 0,u_ 0],u_ 0,i_ 1]):Value)=(.tuple #[.agg (cY<|fM a b).toArray,u_<|px a b,i_<|lS b])
  (unfold fM px lS;simp_all[cY];done)
 refine aO<|aC<|dL [.al] [] (λb3=>[(7,p_ b3)]) (λb3=>aA b3 [u_ 0,u_ 0] 213) ?_
 intro b3
 refine aE [(8,u_ 0)]<|aD<|aE [(13,i_ 0)]<|aR<|dO 8 (u_<|(bj a b 0).rv) (qI<|by rfl)<|ca 0 (aA b1 [u_<|(bj a b 0).av.nq1,u_<|(bj a b 0).av.nq2] 213) rfl (gx<|cc (congrArg u_ (by rfl:a.nq1=(bj a b 0).av.nq1))<|cc (congrArg u_ (by rfl:a.nq2=(bj a b 0).av.nq2)) rfl) (ca 2 (aA b3 [u_<|(bj a b 0).qv.nq1,u_<|(bj a b 0).qv.nq2] 213) rfl (gx<|cc (congrArg u_ (by rfl:0=(bj a b 0).qv.nq1))<|cc (congrArg u_ (by rfl:0=(bj a b 0).qv.nq2)) rfl) (iC (σ:=Nat) [] (λk=>[(13,c_ k),(8,u_<|(bj a b k).rv)]) [0,1] (λk=>[aA b1 [u_<|(bj a b k).av.nq1,u_<|(bj a b k).av.nq2] 213,aA b3 [u_<|(bj a b k).qv.nq1,u_<|(bj a b k).qv.nq2] 213]) (λk=>(k≤128)) (λk=>128-k) (0:Nat) (by omega) ?_ ?_))
 ·exact cX [0,1,0]
 rintro k hk
 have hk:k≤128:=hk
 refine aE [(14,b_<|decide ((k:Int)<128))]<|aD<|aL rfl (λe2=>?_) (λe2=>?_)
 ·have p2:=Zg e2
  refine az<|aR<|aC<|cV [.p] [(15,u_<|(bj a b k).rv)]<|aG<|cC (some 16) (u_<|((bj a b k).rv)/9223372036854775808) (jC (congrArg (Value.int .u64)<|Int.fdiv_eq_ediv_of_nonneg ((bj a b k).rv)<|by decide)<|jM (v:= .int .u64 (((bj a b k).rv).fdiv 9223372036854775808)) (by kernel_rfl) λ_=>by kernel_rfl)<|aQ [(9,u_<|((bj a b k).rv)/9223372036854775808)]<|aC<|an 4 [.ld 0] [(18,u_<|IntKind.u64.wrap<|((bj a b k).rv)*2),(20,u_<|(bj a b k).av.nq1)]<|aG<|cC (some 21) (u_<|((bj a b k).av.nq1)/9223372036854775808) (jC (congrArg (Value.int .u64)<|Int.fdiv_eq_ediv_of_nonneg ((bj a b k).av.nq1)<|by decide)<|jM (v:= .int .u64 (((bj a b k).av.nq1).fdiv 9223372036854775808)) (by kernel_rfl) λ_=>by kernel_rfl)<|aQ [(8,u_<|ag .or .u64 (IntKind.u64.wrap<|((bj a b k).rv)*2)<|((bj a b k).av.nq1)/9223372036854775808)]<|aC<|an 5 [.ld 0,.ld 0] [(25,u_<|IntKind.u64.wrap<|((bj a b k).av.nq1)*2),(27,u_<|(bj a b k).av.nq2)]<|aG<|cC (some 28) (u_<|((bj a b k).av.nq2)/9223372036854775808) (jC (congrArg (Value.int .u64)<|Int.fdiv_eq_ediv_of_nonneg ((bj a b k).av.nq2)<|by decide)<|jM (v:= .int .u64 (((bj a b k).av.nq2).fdiv 9223372036854775808)) (by kernel_rfl) λ_=>by kernel_rfl)<|bL [.ld 0,.st 0] [] [(0,aA b1 [u_<|ag .or .u64 (IntKind.u64.wrap<|((bj a b k).av.nq1)*2)<|((bj a b k).av.nq2)/9223372036854775808,u_<|IntKind.u64.wrap<|((bj a b k).av.nq2)*2] 213)]<|aC<|an 5 [.ld 1,.ld 1] [(36,u_<|IntKind.u64.wrap<|((bj a b k).qv.nq1)*2),(38,u_<|(bj a b k).qv.nq2)]<|aG<|cC (some 39) (u_<|((bj a b k).qv.nq2)/9223372036854775808) (jC (congrArg (Value.int .u64)<|Int.fdiv_eq_ediv_of_nonneg ((bj a b k).qv.nq2)<|by decide)<|jM (v:= .int .u64 (((bj a b k).qv.nq2).fdiv 9223372036854775808)) (by kernel_rfl) λ_=>by kernel_rfl)<|bL [.ld 1,.st 1] [] [(1,aA b3 [u_<|ag .or .u64 (IntKind.u64.wrap<|((bj a b k).qv.nq1)*2)<|((bj a b k).qv.nq2)/9223372036854775808,u_<|IntKind.u64.wrap<|((bj a b k).qv.nq2)*2] 213)]<|aC<|bB [.o,.cl] [(2,p_ b1),(4,p_ b2),(7,p_ b3),(13,c_ k),(8,u_<|ag .or .u64 (IntKind.u64.wrap<|((bj a b k).rv)*2)<|((bj a b k).av.nq1)/9223372036854775808),(51,b_<|((((bj a b k).rv)/9223372036854775808)!=0)||(decide ((ag .or .u64 (IntKind.u64.wrap<|((bj a b k).rv)*2)<|((bj a b k).av.nq1)/9223372036854775808)≥b)))]<|aL rfl (λe3=>?_) (λe3=>?_)
  ·have p3:=e3
   refine aE [(8,u_<|IntKind.u64.wrap<|(ag .or .u64 (IntKind.u64.wrap<|((bj a b k).rv)*2)<|((bj a b k).av.nq1)/9223372036854775808)-b)]<|aM<|bL [.ld 1,.st 1] [] [(1,aA b3 [u_<|ag .or .u64 (IntKind.u64.wrap<|((bj a b k).qv.nq1)*2)<|((bj a b k).qv.nq2)/9223372036854775808,u_<|ag .or .u64 (IntKind.u64.wrap<|((bj a b k).qv.nq2)*2) 1] 213)]<|aM<|aj [.w<|(k:Int)+1] [(13,i_<|(k:Int)+1)] (o1<|wj ((k:Int)+1)<|by omega)<|dO 8 (u_<|(bj a b<|k+1).rv) (qI<|by(rw[wt];unfold sZ sY;simp_all;done))<|ca 0 (aA b1 [u_<|(bj a b<|k+1).av.nq1,u_<|(bj a b<|k+1).av.nq2] 213) rfl (gx<|cc (congrArg u_ (by rfl:ag .or .u64 (IntKind.u64.wrap<|((bj a b k).av.nq1)*2) (((bj a b k).av.nq2)/9223372036854775808)=(bj a b<|k+1).av.nq1))<|cc (congrArg u_ (by rfl:IntKind.u64.wrap (((bj a b k).av.nq2)*2)=(bj a b<|k+1).av.nq2)) rfl) (ca 1 (aA b3 [u_<|(bj a b<|k+1).qv.nq1,u_<|(bj a b<|k+1).qv.nq2] 213) rfl (gx<|cc (congrArg u_ (by rfl:ag .or .u64 (IntKind.u64.wrap<|((bj a b k).qv.nq1)*2) (((bj a b k).qv.nq2)/9223372036854775808)=(bj a b<|k+1).qv.nq1))<|cc (congrArg u_ (by(rw[wt];unfold sZ sY;simp_all;done):ag .or .u64 (IntKind.u64.wrap<|((bj a b k).qv.nq2)*2) 1=(bj a b<|k+1).qv.nq2)) rfl) (bN ((k+1)) (by omega) (by omega) ?_))
   exact cX [0,0,0]
  have p3:=e3
  refine aO<|aM<|aj [.w<|(k:Int)+1] [(13,i_<|(k:Int)+1)] (o1<|wj ((k:Int)+1)<|by omega)<|dO 8 (u_<|(bj a b<|k+1).rv) (qI<|by(rw[wt];unfold sZ sY;simp_all;intro h_;omega))<|ca 0 (aA b1 [u_<|(bj a b<|k+1).av.nq1,u_<|(bj a b<|k+1).av.nq2] 213) rfl (gx<|cc (congrArg u_ (by rfl:ag .or .u64 (IntKind.u64.wrap<|((bj a b k).av.nq1)*2) (((bj a b k).av.nq2)/9223372036854775808)=(bj a b<|k+1).av.nq1))<|cc (congrArg u_ (by rfl:IntKind.u64.wrap (((bj a b k).av.nq2)*2)=(bj a b<|k+1).av.nq2)) rfl) (ca 1 (aA b3 [u_<|(bj a b<|k+1).qv.nq1,u_<|(bj a b<|k+1).qv.nq2] 213) rfl (gx<|cc (congrArg u_ (by rfl:ag .or .u64 (IntKind.u64.wrap<|((bj a b k).qv.nq1)*2) (((bj a b k).qv.nq2)/9223372036854775808)=(bj a b<|k+1).qv.nq1))<|cc (congrArg u_ (by(rw[wt];unfold sZ sY;simp_all;intro h_;omega):IntKind.u64.wrap (((bj a b k).qv.nq2)*2)=(bj a b<|k+1).qv.nq2)) rfl) (bN ((k+1)) (by omega) (by omega) ?_))
  exact cX [0,0,0]
 have p2:=Zh e2
 refine bg<|aC<|bL [.ld 1,.st 2] [(5,u_<|(bj a b k).rv),(6,i_ 0)] [(2,aA b2 [u_<|(bj a b k).qv.nq1,u_<|(bj a b k).qv.nq2] 213)]<|aF<|fE [.agg #[u_<|(bj a b k).qv.nq1,u_<|(bj a b k).qv.nq2],u_<|(bj a b k).rv,i_ 0] (λ_ w r s=>⟨dS 2 r s,cw r rfl,cw r rfl,trivial⟩) ?_
 show((.tuple #[.agg #[u_<|(bj a b k).qv.nq1,u_<|(bj a b k).qv.nq2],u_<|(bj a b k).rv,i_ 0]):Value)=(.tuple #[.agg (cY<|fM a b).toArray,u_<|px a b,i_<|lS b])
 (have hk_:k=128:=(by omega);subst hk_;unfold fM px lS;simp_all[cY];done)
theorem UR(a:Nm)(b:Int)(w:World):
  CW 270 #[.agg (cY a).toArray,u_ b] w (.tuple #[u_<|jd a b,i_<|kS a b]):=by
 refine aU Tryz.func270 rfl (HS.nil w) (aC<|dL [.al] [] (λb1=>[(2,p_ b1)]) (λb1=>aA b1 (cY a) 213) ?_)
 intro b1
 refine aC<|jI [.ld 0,.cq<|.tuple #[.agg (cY<|fM a b).toArray,u_<|px a b,i_<|lS b],.al,.st 1] [] (λb2=>[(6,p_ b2),(7,u_<|px a b),(8,i_<|lS b)]) (λb2=>[]) (λb2=>aA b2 (cY<|fM a b) 213) (λb2=>o1<|qw<|XA a b) ?_
 intro b2
 refine aD<|aE [(17,b_<|(lS b)!=0)]<|aL rfl (λe1=>?_) (λe1=>?_)
 ·refine aE [(4,u_ 0),(5,i_<|lS b)]<|aF<|bJ [u_ 0,i_<|lS b] ?_
  show((.tuple #[u_ 0,i_<|lS b]):Value)=(.tuple #[u_<|jd a b,i_<|kS a b])
  (try unfold lS at*);unfold kS jd oa;simp_all[cY]
 refine az<|aE [(20,b_<|(px a b)!=0)]<|aL rfl (λe2=>?_) (λe2=>?_)
 ·refine Nx (λ_:Unit=>[(6,p_ b2)]) (λ_:Unit=>[aA b2 (cY<|fR (fM a b) (⟨0,1⟩:Nm)) 213]) (λ_=>True) ?_<|λzz_ _=>?_
  ·refine bY [1,6] 7<|tD 0 1 rfl rfl (by kernel_rfl) ?_ ?_
   ·refine cC (some 22) (.agg (cY<|fM a b).toArray) (yt (vs:=(cY<|fM a b)) rfl rfl (by kernel_rfl) (jL (i:=1) rfl rfl))<|ej (.refl _)<|bF 1 rfl (eM (some 23) [u_ 1] Tryz.func235 rfl (aC<|dL [.al] [] (λb3=>[(2,p_ b3)]) (λb3=>aA b3 [u_ 0,u_ 0] 213) ?_))
    intro b3
    refine aC<|bL [.st 2] [] [(2,aA b3 [u_ 0,u_ 1] 213)]<|aF<|tH [.agg #[u_ 0,u_ 1]] (λ_ w r s=>⟨dS 2 r s,trivial⟩)<|pG (by kernel_rfl)<|j6 [aA b2 (cY<|fM a b) 213] (sd [2,0])<|cb<|eR 1 [.cq<|.tuple #[.agg (cY<|fR (fM a b) (⟨0,1⟩:Nm)).toArray,b_<|vp (fM a b) (⟨0,1⟩:Nm)]] (rg 2 4) [(6,p_ b2),(25,.agg (cY<|fR (fM a b) (⟨0,1⟩:Nm)).toArray)] (o1<|qw<|BQ (fM a b) (⟨0,1⟩:Nm))<|bF 6 rfl (dQ 0 (cY<|fR (fM a b) (⟨0,1⟩:Nm)) rfl (dV ?_))
    exact k7 () trivial<|mI (by exact⟨rfl,trivial⟩)<|.refl _
   refine eM (some 23) [u_ 1] Tryz.func235 rfl (aC<|dL [.al] [] (λb4=>[(2,p_ b4)]) (λb4=>aA b4 [u_ 0,u_ 0] 213) ?_)
   intro b4
   refine aC<|bL [.st 2] [] [(2,aA b4 [u_ 0,u_ 1] 213)]<|aF<|tH [.agg #[u_ 0,u_ 1]] (λ_ w r s=>⟨dS 2 r s,trivial⟩)<|pG (by kernel_rfl)<|j6 [aA b2 (cY<|fM a b) 213] (sd [2,0])<|cb<|eR 1 [.ld 0,.cq<|.tuple #[.agg (cY<|fR (fM a b) (⟨0,1⟩:Nm)).toArray,b_<|vp (fM a b) (⟨0,1⟩:Nm)]] [0,2,3,4,5] [(6,p_ b2),(25,.agg (cY<|fR (fM a b) (⟨0,1⟩:Nm)).toArray)] (o1<|qw<|BQ (fM a b) (⟨0,1⟩:Nm))<|bF 6 rfl (dQ 0 (cY<|fR (fM a b) (⟨0,1⟩:Nm)) rfl (dV ?_))
   exact k7 () trivial<|mI (by exact⟨rfl,trivial⟩)<|.refl _
  refine aC<|cV [.ld 0] [(27,.agg (cY<|fR (fM a b) (⟨0,1⟩:Nm)).toArray)]<|aG<|eM (some 28) [.agg (cY<|fR (fM a b) (⟨0,1⟩:Nm)).toArray] Tryz.func283 rfl (aC<|dM [.al] [] (λb5=>[(1,p_ b5)]) (λ_=>[]) (λb5=>aA b5 (cY<|fR (fM a b) (⟨0,1⟩:Nm)) 213) ?_)
  intro b5
  refine bS<|bB [.ld 1] [(6,b_<|((fR (fM a b) (⟨0,1⟩:Nm)).nq1)!=0)]<|aL rfl (λe3=>?_) (λe3=>?_)
  ·refine aE [(2,u_ 0),(3,i_ 20)]<|aF<|d6 [u_ 0,i_ 20]<|j6 [] (sd [1,0])<|aQ [(4,u_ 0),(5,i_ 20)]<|aF<|bJ [u_ 0,i_ 20] ?_
   show((.tuple #[u_ 0,i_ 20]):Value)=(.tuple #[u_<|jd a b,i_<|kS a b])
   (try unfold lS at*);unfold kS jd oa;simp_all[cY]
  refine aO<|aC<|bB [.ld 1] [(2,u_<|(fR (fM a b) (⟨0,1⟩:Nm)).nq2),(3,i_ 0)]<|aF<|d6 [u_<|(fR (fM a b) (⟨0,1⟩:Nm)).nq2,i_ 0]<|j6 [] (sd [1,0])<|aQ [(4,u_<|(fR (fM a b) (⟨0,1⟩:Nm)).nq2),(5,i_ 0)]<|aF<|bJ [u_<|(fR (fM a b) (⟨0,1⟩:Nm)).nq2,i_ 0] ?_
  show((.tuple #[u_<|(fR (fM a b) (⟨0,1⟩:Nm)).nq2,i_ 0]):Value)=(.tuple #[u_<|jd a b,i_<|kS a b])
  (try unfold lS at*);unfold kS jd oa;simp_all[cY]
 have p2:=e2
 refine aO<|aC<|cV [.ld 1] [(27,.agg (cY<|fM a b).toArray)]<|aG<|eM (some 28) [.agg (cY<|fM a b).toArray] Tryz.func283 rfl (aC<|dL [.al] [] (λb6=>[(1,p_ b6)]) (λb6=>aA b6 (cY<|fM a b) 213) ?_)
 intro b6
 refine bS<|bB [.ld 2] [(6,b_<|((fM a b).nq1)!=0)]<|aL rfl (λe4=>?_) (λe4=>?_)
 ·refine aE [(2,u_ 0),(3,i_ 20)]<|aF<|d6 [u_ 0,i_ 20]<|j6 [] (sd [2,1,0])<|aQ [(4,u_ 0),(5,i_ 20)]<|aF<|bJ [u_ 0,i_ 20] ?_
  show((.tuple #[u_ 0,i_ 20]):Value)=(.tuple #[u_<|jd a b,i_<|kS a b])
  (try unfold lS at*);unfold kS jd oa;simp_all[cY]
 refine aO<|aC<|bB [.ld 2] [(2,u_<|(fM a b).nq2),(3,i_ 0)]<|aF<|d6 [u_<|(fM a b).nq2,i_ 0]<|j6 [] (sd [2,1,0])<|aQ [(4,u_<|(fM a b).nq2),(5,i_ 0)]<|aF<|bJ [u_<|(fM a b).nq2,i_ 0] ?_
 show((.tuple #[u_<|(fM a b).nq2,i_ 0]):Value)=(.tuple #[u_<|jd a b,i_<|kS a b])
 (try unfold lS at*);unfold kS jd oa;simp_all[cY]
def yL(l:Ln):Nm:=⟨l.lq2,l.lq3⟩
def lC(l:Ln)(x:Int):Nm:=if x≤l.lq1 then yL l else fR (yL l)<|aH l.lq4<|IntKind.u64.wrap<|x-l.lq1
def iT(l:Ln)(a:Nm):Int:=if ly a (yL l)≤0 then 0 else if(kS (kU a<|yL l) l.lq4≠0∨l.lq1≥9223372036854775808)∨jd (kU a<|yL l) l.lq4≥IntKind.u64.wrap (9223372036854775808-l.lq1) then 9223372036854775808 else IntKind.u64.wrap<|l.lq1+jd (kU a<|yL l) l.lq4
def dP(l m:Ln):Ln:=if ly (lC m<|bV l.lq1 m.lq1) (lC l<|bV l.lq1 m.lq1)<0 then m else l
abbrev K0(p0:Ln)(p1):=(b_ (vp (yL p0)<|aH p0.lq4<|IntKind.u64.wrap<|p1-p0.lq1):Value)
abbrev US(p0:Ln)(p1):=(.agg (cY<|aH p0.lq4<|IntKind.u64.wrap<|p1-p0.lq1).toArray:Value)
abbrev xZ(p0:Ln)(p1):=(cY<|fR (yL p0)<|aH p0.lq4<|IntKind.u64.wrap<|p1-p0.lq1)
theorem N2(l:Ln)(x:Int)(w:World):
  CW 261 #[.agg (jc l).toArray,u_ x] w (.agg (cY<|lC l x).toArray):=by
 refine aU Tryz.func261 rfl (HS.nil w) (aC<|iK [.al,.al] [] (λb1 b2=>[(2,p_ b1),(4,p_ b2)]) (λb1 b2=>[aA b1 (jc l) 215,aA b2 [u_ 0,u_ 0] 213]) ?_)
 intro b1 b2
 refine bS<|bB [.ld 0] [(10,b_<|decide (x≤l.lq1))]<|aL rfl (λe1=>?_) (λe1=>?_)
 ·have p1:=Zg e1
  refine aC<|bL [.ld 0,.st 1] [] [(1,aA b2 [u_ l.lq2,u_ l.lq3] 213)]<|aF<|ez 1 [u_ l.lq2,u_ l.lq3] ?_
  unfold lC;split<;>rfl
 have p1:=Zh e1
 refine az<|jx [13,14] 16 [aA b1 (jc l) 215,aA b2 [u_ 0,u_ 0] 213]<|tG 3 [.ld 0,.ld 0,.ld 0,.cq<|US l x,.cq<|.tuple #[.agg (xZ l x).toArray,K0 l x]] (rg 0 13) [(4,p_ b2),(24,.agg (xZ l x).toArray),(25,K0 l x)] (.refl _) (oc (qw<|sK l.lq4<|wU<|x-l.lq1)<|o1<|qw<|BQ (yL l)<|aH l.lq4<|wU<|x-l.lq1)<|gR 13 rfl (nV 5 [u_ 0,u_ 0] (by kernel_rfl) rfl (by kernel_rfl) (λb3=>[aA b1 (jc l) 215,aA b2 [u_ 0,u_ 0] 213,aA b3 [u_ 0,u_ 0] 213]) (λ_=>rfl) ?_)
 intro b3
 refine gI (sd [2])<|gR 14 rfl (dQ 2 (xZ l x) rfl (gI (sd [2])<|iL 0 [] [15] [(4,p_ b2),(5,p_ b3)] (sd [2])<|je<|aC<|bL [.ld 2,.st 1] [(4,p_ b2)] [(1,aA b2 (xZ l x) 213)]<|aF<|ez 1 (xZ l x) ?_))
 unfold lC;split<;>first|rfl|(simp_all;done)
abbrev Ei(p0:Ln)(p1):=(u_ (IntKind.u64.wrap<|p0.lq1+(jd (kU p1<|yL p0) p0.lq4)):Value)
theorem zY(l:Ln)(a:Nm)(w:World):
  CW 255 #[.agg (jc l).toArray,.agg (cY a).toArray] w (u_<|iT l a):=by
 refine aU Tryz.func255 rfl (HS.nil w) (aC<|iK [.al,.al] [] (λb1 b2=>[(2,p_ b1),(3,p_ b2)]) (λb1 b2=>[aA b1 (jc l) 215,aA b2 (cY a) 213]) ?_)
 intro b1 b2
 refine aD<|dF [.ld 1,.ld 0,.cq<|i_<|ly a<|yL l] [(13,b_<|decide ((ly a<|yL l)≤0))] (o1<|qw<|Fq a<|yL l)<|aL rfl (λe1=>?_) (λe1=>?_)
 ·have p1:=Zg e1
  refine aE [(4,u_ 0)]<|aF<|bJ [u_ 0] ?_
  show((u_ 0):Value)=(u_<|iT l a)
  unfold iT;simp_all;(try(intros;omega))
 have p1:=Zh e1
 refine aO<|aC<|jI [.ld 1,.ld 0,.cq<|.tuple #[.agg (cY<|kU a<|yL l).toArray,b_<|N1 a<|yL l],.al,.st 2] [] (λb3=>[(5,p_ b3)]) (λb3=>[]) (λb3=>aA b3 (cY<|kU a<|yL l) 213) (λb3=>o1<|qw<|Wz a<|yL l) ?_
 intro b3
 refine dF [.ld 2,.ld 0,.cq<|.tuple #[u_<|jd (kU a<|yL l) l.lq4,i_<|kS (kU a<|yL l) l.lq4]] [(7,u_<|jd (kU a<|yL l) l.lq4),(8,i_<|kS (kU a<|yL l) l.lq4)] (o1<|qw<|UR (kU a<|yL l) l.lq4)<|bS<|bB [.o,.ld 0,.cl,.o,.ld 0,.cl] [(41,b_<|(((kS (kU a<|yL l) l.lq4)!=0)||(decide (l.lq1≥9223372036854775808)))||(decide ((jd (kU a<|yL l) l.lq4)≥(IntKind.u64.wrap<|9223372036854775808-l.lq1))))]<|aL rfl (λe2=>?_) (λe2=>?_)
 ·refine aE [(4,u_ 9223372036854775808)]<|aF<|bJ [u_ 9223372036854775808] ?_
  show((u_ 9223372036854775808):Value)=(u_<|iT l a)
  unfold iT;simp_all;(try(intros;omega))
 refine aO<|aC<|bB [.ld 0] [(4,Ei l a)]<|aF<|bJ [Ei l a] ?_
 show((Ei l a):Value)=(u_<|iT l a)
 unfold iT;simp_all;(try(intros;omega))
theorem JO(l m:Ln)(w:World):
  CW 242 #[.agg (jc l).toArray,.agg (jc m).toArray] w (.agg (jc<|dP l m).toArray):=by
 refine aU Tryz.func242 rfl (HS.nil w) (aC<|nW [.al,.al,.al] [2,3,4] (λb1 b2 b3=>[(2,p_ b1),(3,p_ b2),(4,p_ b3)]) (λb1 b2 b3=>[aA b1 (jc l) 215,aA b2 (jc m) 215,aA b3 [u_ 0,u_ 0,u_ 0,u_ 0] 215]) (λb1 b2 b3=>[]) (λ_ _ _=>T0) (λ_ _ _=>by kernel_rfl) (λb1 b2 b3=>trivial) ?_)
 intro b1 b2 b3
 refine aC<|bB [.ld 0,.ld 1] [(5,u_<|bV l.lq1 m.lq1)]<|aD<|aD<|jw [.ld 1,.cq<|.agg (cY<|lC m<|bV l.lq1 m.lq1).toArray,.ld 0,.cq<|.agg (cY<|lC l<|bV l.lq1 m.lq1).toArray,.cq<|i_<|ly (lC m<|bV l.lq1 m.lq1)<|lC l<|bV l.lq1 m.lq1] (rg 0 8) [] [(18,b_<|decide ((ly (lC m<|bV l.lq1 m.lq1)<|lC l<|bV l.lq1 m.lq1)<0))] (oc (qw<|N2 m<|bV l.lq1 m.lq1)<|oc (qw<|N2 l<|bV l.lq1 m.lq1)<|o1<|qw<|Fq (lC m<|bV l.lq1 m.lq1)<|lC l<|bV l.lq1 m.lq1)<|aL rfl (λe1=>?_) (λe1=>?_)
 ·have p1:=Zg e1
  refine aC<|bL [.ld 1,.st 2] [] [(2,aA b3 (jc m) 215)]<|aF<|ez 2 (jc m) ?_
  show((.agg (jc m).toArray):Value)=(.agg (jc<|dP l m).toArray)
  (rw[show dP l m=m by unfold dP;rw[if_pos<|by simp_all]];done)
 have p1:=Zh e1
 refine aO<|aC<|bL [.ld 0,.st 2] [] [(2,aA b3 (jc l) 215)]<|aF<|ez 2 (jc l) ?_
 show((.agg (jc l).toArray):Value)=(.agg (jc<|dP l m).toArray)
 (rw[show dP l m=l by unfold dP;rw[if_neg<|by simp_all]];done)
def jW(x:Int)(y:Nm)(m:Int):Ln:=⟨x,y.nq1,y.nq2,m⟩
def nJ(f t:Ln)(b:Bool):Rn:=⟨f.lq1,f.lq2,f.lq3,f.lq4,t.lq1,t.lq2,t.lq3,t.lq4,b⟩
def ep(r:Rn):Ln:=⟨r.rq1,r.rq2,r.rq3,r.rq4⟩
def cK(r:Rn):Ln:=⟨r.rq5,r.rq6,r.rq7,r.rq8⟩
def nP:Ln:=⟨0,0,0,0⟩
def kC(c:Cv):Int:=ai c.ka c.kb c.kc
def bI(c:Cv)(x:Int)(y:Nm):Rn:=
 if kC c=2∨kC c=4 then nJ nP (jW x y c.kc) false
 else if kC c=3 then nJ (jW x y c.ka) (jW x (fR y<|aH (IntKind.u64.wrap<|c.ka-c.kc) c.kb) c.kc) true
 else nJ nP (jW x y 0) false
def aS(c:Cv)(x:Int)(y:Nm):Rn:=if kC c=4 then{bI c x y with rq5:=IntKind.u64.wrap<|(bI c x y).rq5+c.kb} else bI c x y
def cH(a b:Rn):Rn:=nJ (if a.rq9 then dP (ep a) (ep b) else nP) (dP (cK a)<|cK b) a.rq9
def i8(r:Rn)(a:Nm):Int:=if r.rq9 then bV (bV 0<|iT (ep r) a) (iT (cK r) a) else bV (bV 0<|iT (cK r) a)<|iT (cK r) a
theorem JP(c:Cv)(x:Int)(a:Nm)(w:World):
  CW 200 #[.agg (de c).toArray,u_ x,.agg (cY a).toArray] w (.agg (cZ<|bI c x a).toArray):=by
 refine aU Tryz.func200 rfl (HS.nil w) (aC<|nW [.al,.al,.al] [1,3,5,6] (λb1 b2 b3=>[(1,u_ x),(3,p_ b1),(5,p_ b2),(6,p_ b3)]) (λb1 b2 b3=>[aA b1 (de c) 60,aA b2 (cY a) 213,aA b3 [u_ 0,u_ 0,u_ 0,u_ 0,u_ 0,u_ 0,u_ 0,u_ 0,b_ false] 217]) (λb1 b2 b3=>[]) (λ_ _ _=>T0) (λ_ _ _=>by kernel_rfl) (λb1 b2 b3=>trivial) ?_)
 intro b1 b2 b3
 refine aD<|dF [.ld 0,.cq<|i_<|ai c.ka c.kb c.kc] [(10,i_<|ai c.ka c.kb c.kc)] (o1<|qw<|tc c.ka c.kb c.kc)<|aR<|aD<|aE [(11,b_<|(ai c.ka c.kb c.kc)==2)]<|aL rfl (λe1=>?_) (λe1=>?_)
 ·refine aO<|aL rfl (λe2=>?_) (λe2=>?_)
  ·refine aC<|bL [.ld 1,.ld 0,.st 2] [] [(2,aA b3 [u_ 0,u_ 0,u_ 0,u_ 0,u_ x,u_ a.nq1,u_ a.nq2,u_ c.kc,b_ false] 217)]<|aF<|ez 2 [u_ 0,u_ 0,u_ 0,u_ 0,u_ x,u_ a.nq1,u_ a.nq2,u_ c.kc,b_ false] ?_
   show((.agg #[u_ 0,u_ 0,u_ 0,u_ 0,u_ x,u_ a.nq1,u_ a.nq2,u_ c.kc,b_ false]):Value)=(.agg (cZ<|bI c x a).toArray)
   unfold bI kC nJ jW nP;simp_all[cZ]
  exact absurd e2 (by rw[e1];decide)
 refine bZ [(11,b_<|(ai c.ka c.kb c.kc)==4)]<|aL rfl (λe3=>?_) (λe3=>?_)
 ·refine aC<|bL [.ld 1,.ld 0,.st 2] [] [(2,aA b3 [u_ 0,u_ 0,u_ 0,u_ 0,u_ x,u_ a.nq1,u_ a.nq2,u_ c.kc,b_ false] 217)]<|aF<|ez 2 [u_ 0,u_ 0,u_ 0,u_ 0,u_ x,u_ a.nq1,u_ a.nq2,u_ c.kc,b_ false] ?_
  show((.agg #[u_ 0,u_ 0,u_ 0,u_ 0,u_ x,u_ a.nq1,u_ a.nq2,u_ c.kc,b_ false]):Value)=(.agg (cZ<|bI c x a).toArray)
  unfold bI kC nJ jW nP;simp_all[cZ]
 refine aE [(20,b_<|(ai c.ka c.kb c.kc)==3)]<|aL rfl (λe4=>?_) (λe4=>?_)
 ·refine aD<|jx [13,14] 16 [aA b1 (de c) 60,aA b2 (cY a) 213,aA b3 [u_ 0,u_ 0,u_ 0,u_ 0,u_ 0,u_ 0,u_ 0,u_ 0,b_ false] 217]<|tG 3 [.ld 1,.ld 0,.ld 0,.ld 0,.cq<|.agg (cY<|aH (wU<|c.ka-c.kc) c.kb).toArray,.cq<|.tuple #[.agg (cY<|fR a<|aH (wU<|c.ka-c.kc) c.kb).toArray,b_<|vp a<|aH (wU<|c.ka-c.kc) c.kb]] (rg 0 13) [(1,u_ x),(3,p_ b1),(5,p_ b2),(6,p_ b3),(33,.agg (cY<|fR a<|aH (wU<|c.ka-c.kc) c.kb).toArray),(34,b_<|vp a<|aH (wU<|c.ka-c.kc) c.kb)] (.refl _) (oc (qw<|sK (wU<|c.ka-c.kc) c.kb)<|o1<|qw<|BQ a<|aH (wU<|c.ka-c.kc) c.kb)<|gR 13 rfl (nV 7 [u_ 0,u_ 0] (by kernel_rfl) rfl (by kernel_rfl) (λb4=>[aA b1 (de c) 60,aA b2 (cY a) 213,aA b3 [u_ 0,u_ 0,u_ 0,u_ 0,u_ 0,u_ 0,u_ 0,u_ 0,b_ false] 217,aA b4 [u_ 0,u_ 0] 213]) (λ_=>rfl) ?_)
  intro b4
  refine gI (sd [3])<|gR 14 rfl (dQ 3 (cY<|fR a<|aH (wU<|c.ka-c.kc) c.kb) rfl (gI (sd [3])<|iL 0 [] [15] [(1,u_ x),(3,p_ b1),(5,p_ b2),(6,p_ b3),(7,p_ b4)] (sd [3])<|je<|aC<|bL [.ld 1,.ld 0,.ld 3,.ld 0,.st 2] [(6,p_ b3)] [(2,aA b3 [u_ x,u_ a.nq1,u_ a.nq2,u_ c.ka,u_ x,u_<|(fR a<|aH (wU<|c.ka-c.kc) c.kb).nq1,u_<|(fR a<|aH (wU<|c.ka-c.kc) c.kb).nq2,u_ c.kc,b_ true] 217)]<|aF<|ez 2 [u_ x,u_ a.nq1,u_ a.nq2,u_ c.ka,u_ x,u_<|(fR a<|aH (wU<|c.ka-c.kc) c.kb).nq1,u_<|(fR a<|aH (wU<|c.ka-c.kc) c.kb).nq2,u_ c.kc,b_ true] ?_))
  show((.agg #[u_ x,u_ a.nq1,u_ a.nq2,u_ c.ka,u_ x,u_<|(fR a<|aH (IntKind.u64.wrap<|c.ka-c.kc) c.kb).nq1,u_<|(fR a<|aH (IntKind.u64.wrap<|c.ka-c.kc) c.kb).nq2,u_ c.kc,b_ true]):Value)=(.agg (cZ<|bI c x a).toArray)
  unfold bI kC nJ jW nP;simp_all[cZ]
 have p4:=e4
 refine aO<|aC<|bL [.ld 1,.st 2] [] [(2,aA b3 [u_ 0,u_ 0,u_ 0,u_ 0,u_ x,u_ a.nq1,u_ a.nq2,u_ 0,b_ false] 217)]<|aF<|fE [.agg #[u_ 0,u_ 0,u_ 0,u_ 0,u_ x,u_ a.nq1,u_ a.nq2,u_ 0,b_ false]] (λ_ w r s=>⟨dS 2 r s,trivial⟩) ?_
 show((.agg #[u_ 0,u_ 0,u_ 0,u_ 0,u_ x,u_ a.nq1,u_ a.nq2,u_ 0,b_ false]):Value)=(.agg (cZ<|bI c x a).toArray)
 unfold bI kC nJ jW nP;simp_all[cZ]
theorem Dw(c:Cv)(x:Int)(a:Nm)(w:World):
  CW 199 #[.agg (de c).toArray,u_ x,.agg (cY a).toArray] w (.agg (cZ<|aS c x a).toArray):=by
 refine aU Tryz.func199 rfl (HS.nil w) (aC<|nW [.al,.al,.al] [1,3,5,6] (λb1 b2 b3=>[(1,u_ x),(3,p_ b1),(5,p_ b2),(6,p_ b3)]) (λb1 b2 b3=>[aA b1 (de c) 60,aA b2 (cY a) 213,aA b3 [u_ 0,u_ 0,u_ 0,u_ 0,u_ 0,u_ 0,u_ 0,u_ 0,b_ false] 217]) (λb1 b2 b3=>[]) (λ_ _ _=>T0) (λ_ _ _=>by kernel_rfl) (λb1 b2 b3=>trivial) ?_)
 intro b1 b2 b3
 refine aC<|jI [.ld 0,.ld 1,.cq<|.agg (cZ<|bI c x a).toArray,.al,.st 3] [] (λb4=>[(7,p_ b4)]) (λb4=>[]) (λb4=>aA b4 (cZ<|bI c x a) 217) (λb4=>o1<|qw<|JP c x a) ?_
 intro b4
 refine aD<|dF [.ld 0,.cq<|i_<|ai c.ka c.kb c.kc] [(14,b_<|(ai c.ka c.kb c.kc)==4)] (o1<|qw<|tc c.ka c.kb c.kc)<|aL rfl (λe1=>?_) (λe1=>?_)
 ·refine aM<|bL [.ld 3,.ld 0,.st 3] [] [(3,aA b4 [u_<|(bI c x a).rq1,u_<|(bI c x a).rq2,u_<|(bI c x a).rq3,u_<|(bI c x a).rq4,u_<|wU<|((bI c x a).rq5)+c.kb,u_<|(bI c x a).rq6,u_<|(bI c x a).rq7,u_<|(bI c x a).rq8,b_<|(bI c x a).rq9] 217)]<|aC<|bL [.ld 3,.st 2] [] [(2,aA b3 [u_<|(bI c x a).rq1,u_<|(bI c x a).rq2,u_<|(bI c x a).rq3,u_<|(bI c x a).rq4,u_<|wU<|((bI c x a).rq5)+c.kb,u_<|(bI c x a).rq6,u_<|(bI c x a).rq7,u_<|(bI c x a).rq8,b_<|(bI c x a).rq9] 217)]<|aF<|ez 2 [u_<|(bI c x a).rq1,u_<|(bI c x a).rq2,u_<|(bI c x a).rq3,u_<|(bI c x a).rq4,u_<|wU<|((bI c x a).rq5)+c.kb,u_<|(bI c x a).rq6,u_<|(bI c x a).rq7,u_<|(bI c x a).rq8,b_<|(bI c x a).rq9] ?_
  show((.agg #[u_<|(bI c x a).rq1,u_<|(bI c x a).rq2,u_<|(bI c x a).rq3,u_<|(bI c x a).rq4,u_<|IntKind.u64.wrap<|((bI c x a).rq5)+c.kb,u_<|(bI c x a).rq6,u_<|(bI c x a).rq7,u_<|(bI c x a).rq8,b_<|(bI c x a).rq9]):Value)=(.agg (cZ<|aS c x a).toArray)
  unfold aS kC;simp_all[cZ]
 refine aO<|aC<|bL [.ld 3,.st 2] [] [(2,aA b3 (cZ<|bI c x a) 217)]<|aF<|ez 2 (cZ<|bI c x a) ?_
 show((.agg (cZ<|bI c x a).toArray):Value)=(.agg (cZ<|aS c x a).toArray)
 unfold aS kC;simp_all[cZ]
theorem AX(a b:Rn)(w:World):
  CW 198 #[.agg (cZ a).toArray,.agg (cZ b).toArray] w (.agg (cZ<|cH a b).toArray):=by
 refine aU Tryz.func198 rfl (HS.nil w) (aC<|nW [.al,.al,.al] [2,3,4] (λb1 b2 b3=>[(2,p_ b1),(3,p_ b2),(4,p_ b3)]) (λb1 b2 b3=>[aA b1 (cZ a) 217,aA b2 (cZ b) 217,aA b3 [u_ 0,u_ 0,u_ 0,u_ 0,u_ 0,u_ 0,u_ 0,u_ 0,b_ false] 217]) (λb1 b2 b3=>[]) (λ_ _ _=>T0) (λ_ _ _=>by kernel_rfl) (λb1 b2 b3=>trivial) ?_)
 intro b1 b2 b3
 refine aD<|jx [8,9] 10 [aA b1 (cZ a) 217,aA b2 (cZ b) 217,aA b3 [u_ 0,u_ 0,u_ 0,u_ 0,u_ 0,u_ 0,u_ 0,u_ 0,b_ false] 217]<|tG 2 [.ld 0,.ld 1,.cq<|.agg (jc<|dP (cK a)<|cK b).toArray,.ld 0] (rg 0 8) [(2,p_ b1),(3,p_ b2),(4,p_ b3),(13,.agg #[u_ 0,u_ 0,u_ 0,u_ 0,u_<|(dP (cK a)<|cK b).lq1,u_<|(dP (cK a)<|cK b).lq2,u_<|(dP (cK a)<|cK b).lq3,u_<|(dP (cK a)<|cK b).lq4,b_ a.rq9])] (.refl _) (o1<|qw<|JO (cK a)<|cK b)<|gR 8 rfl (nV 5 [u_ 0,u_ 0,u_ 0,u_ 0,u_ 0,u_ 0,u_ 0,u_ 0,b_ false] (by kernel_rfl) rfl (by kernel_rfl) (λb4=>[aA b1 (cZ a) 217,aA b2 (cZ b) 217,aA b3 [u_ 0,u_ 0,u_ 0,u_ 0,u_ 0,u_ 0,u_ 0,u_ 0,b_ false] 217,aA b4 [u_ 0,u_ 0,u_ 0,u_ 0,u_ 0,u_ 0,u_ 0,u_ 0,b_ false] 217]) (λ_=>rfl) ?_)
 intro b4
 refine gI (sd [3])<|gR 9 rfl (dQ 3 [u_ 0,u_ 0,u_ 0,u_ 0,u_<|(dP (cK a)<|cK b).lq1,u_<|(dP (cK a)<|cK b).lq2,u_<|(dP (cK a)<|cK b).lq3,u_<|(dP (cK a)<|cK b).lq4,b_ a.rq9] rfl (gI (sd [3])<|je<|bS<|bB [.ld 0] [(2,p_ b1),(3,p_ b2),(4,p_ b3),(5,p_ b4),(15,b_ a.rq9)]<|iD a.rq9 (λe1=>?_)<|λe1=>?_))
 ·refine aM<|gJ [.ld 0,.ld 1,.cq<|.agg (jc<|dP (ep a)<|ep b).toArray,.st 3] [] [] [(3,aA b4 [u_<|(dP (ep a)<|ep b).lq1,u_<|(dP (ep a)<|ep b).lq2,u_<|(dP (ep a)<|ep b).lq3,u_<|(dP (ep a)<|ep b).lq4,u_<|(dP (cK a)<|cK b).lq1,u_<|(dP (cK a)<|cK b).lq2,u_<|(dP (cK a)<|cK b).lq3,u_<|(dP (cK a)<|cK b).lq4,b_ a.rq9] 217)] (o1<|qw<|JO (ep a)<|ep b)<|aC<|bL [.ld 3,.st 2] [] [(2,aA b3 [u_<|(dP (ep a)<|ep b).lq1,u_<|(dP (ep a)<|ep b).lq2,u_<|(dP (ep a)<|ep b).lq3,u_<|(dP (ep a)<|ep b).lq4,u_<|(dP (cK a)<|cK b).lq1,u_<|(dP (cK a)<|cK b).lq2,u_<|(dP (cK a)<|cK b).lq3,u_<|(dP (cK a)<|cK b).lq4,b_ a.rq9] 217)]<|aF<|ez 2 [u_<|(dP (ep a)<|ep b).lq1,u_<|(dP (ep a)<|ep b).lq2,u_<|(dP (ep a)<|ep b).lq3,u_<|(dP (ep a)<|ep b).lq4,u_<|(dP (cK a)<|cK b).lq1,u_<|(dP (cK a)<|cK b).lq2,u_<|(dP (cK a)<|cK b).lq3,u_<|(dP (cK a)<|cK b).lq4,b_ a.rq9] ?_
  show((.agg #[u_<|(dP (ep a)<|ep b).lq1,u_<|(dP (ep a)<|ep b).lq2,u_<|(dP (ep a)<|ep b).lq3,u_<|(dP (ep a)<|ep b).lq4,u_<|(dP (cK a)<|cK b).lq1,u_<|(dP (cK a)<|cK b).lq2,u_<|(dP (cK a)<|cK b).lq3,u_<|(dP (cK a)<|cK b).lq4,b_ a.rq9]):Value)=(.agg (cZ<|cH a b).toArray)
  unfold cH nJ nP;simp_all[cZ]
 refine aO<|aC<|bL [.ld 3,.st 2] [] [(2,aA b3 [u_ 0,u_ 0,u_ 0,u_ 0,u_<|(dP (cK a)<|cK b).lq1,u_<|(dP (cK a)<|cK b).lq2,u_<|(dP (cK a)<|cK b).lq3,u_<|(dP (cK a)<|cK b).lq4,b_ a.rq9] 217)]<|aF<|ez 2 [u_ 0,u_ 0,u_ 0,u_ 0,u_<|(dP (cK a)<|cK b).lq1,u_<|(dP (cK a)<|cK b).lq2,u_<|(dP (cK a)<|cK b).lq3,u_<|(dP (cK a)<|cK b).lq4,b_ a.rq9] ?_
 show((.agg #[u_ 0,u_ 0,u_ 0,u_ 0,u_<|(dP (cK a)<|cK b).lq1,u_<|(dP (cK a)<|cK b).lq2,u_<|(dP (cK a)<|cK b).lq3,u_<|(dP (cK a)<|cK b).lq4,b_ a.rq9]):Value)=(.agg (cZ<|cH a b).toArray)
 unfold cH nJ nP;simp_all[cZ]
abbrev AY(p0)(p1):=(u_ (bV (bV 0<|iT (ep p0) p1)<|iT (cK p0) p1):Value)
abbrev AZ(p0)(p1):=(u_ (bV (bV 0<|iT (cK p0) p1)<|iT (cK p0) p1):Value)
abbrev UT(p0:Rn):=(.agg #[u_ p0.rq5,u_ p0.rq6,u_ p0.rq7,u_ p0.rq8,u_ p0.rq5,u_ p0.rq6,u_ p0.rq7,u_ p0.rq8]:Value)
abbrev UU(p0:Rn):=(.agg #[u_ p0.rq1,u_ p0.rq2,u_ p0.rq3,u_ p0.rq4,u_ p0.rq5,u_ p0.rq6,u_ p0.rq7,u_ p0.rq8]:Value)
theorem zZ(r:Rn)(a:Nm)(w:World):
  CW 212 #[.agg (cZ r).toArray,.agg (cY a).toArray] w (u_<|i8 r a):=by
 refine aU Tryz.func212 rfl (HS.nil w) (aC<|iK [.al,.al] [] (λb1 b2=>[(2,p_ b1),(3,p_ b2)]) (λb1 b2=>[aA b1 (cZ r) 217,aA b2 (cY a) 213]) ?_)
 intro b1 b2
 refine aE [(5,u_ 0)]<|bS<|cV [.ld 0] [(8,.agg (cZ r).toArray)]<|aG<|eM (some 9) [.agg (cZ r).toArray] Tryz.func254 rfl (aC<|iK [.al,.al] [] (λb3 b4=>[(1,p_ b3),(2,p_ b4)]) (λb3 b4=>[aA b3 (cZ r) 217,aA b4 [u_ 0,u_ 0,u_ 0,u_ 0,u_ 0,u_ 0,u_ 0,u_ 0] 365]) ?_)
 intro b3 b4
 refine bS<|bB [.ld 2] [(4,b_ r.rq9)]<|iD r.rq9 (λe1=>?_)<|λe1=>?_
 ·refine aC<|bL [.ld 2,.ld 2,.st 3] [] [(3,aA b4 [u_ r.rq1,u_ r.rq2,u_ r.rq3,u_ r.rq4,u_ r.rq5,u_ r.rq6,u_ r.rq7,u_ r.rq8] 365)]<|aF<|tH [UU r] (λ_ w r s=>⟨dS 3 r s,trivial⟩)<|pG (by kernel_rfl)<|j6 [aA b2 (cY a) 213] (sd [3,2,0])<|aQ [(3,p_ b2),(5,u_ 0),(10,i_ 0)]<|aR<|i4 400<|cd (m:=399)<|aE [(11,b_ true)]<|aD<|dU<|az<|aR<|aC<|dM [.al,.st 1] [] (λb5=>[(7,p_ b5)]) (λ_=>[]) (λb5=>aA b5 [u_ r.rq1,u_ r.rq2,u_ r.rq3,u_ r.rq4] 215) ?_
  intro b5
  refine aM<|aj [.ld 1,.ld 0,.cq<|u_<|iT (ep r) a] [(5,u_<|bV 0<|iT (ep r) a)] (o1<|qw<|zY (ep r) a)<|bZ [(10,i_ 1)]<|cd (m:=398)<|aE [(11,b_ true)]<|aD<|dU<|az<|aR<|aC<|dM [.al,.st 2] [] (λb6=>[(7,p_ b6)]) (λb6=>[]) (λb6=>aA b6 [u_ r.rq5,u_ r.rq6,u_ r.rq7,u_ r.rq8] 215) ?_
  intro b6
  refine aM<|aj [.ld 2,.ld 0,.cq<|u_<|iT (cK r) a] [(5,AY r a)] (o1<|qw<|zY (cK r) a)<|bZ [(10,i_ 2)]<|cd (m:=397)<|aE [(11,b_ false)]<|aD<|bM<|bg<|aE [(4,AY r a)]<|aF<|bJ [AY r a] ?_
  show((AY r a):Value)=(u_<|i8 r a)
  unfold i8;simp_all
 refine aO<|aC<|bL [.ld 2,.ld 2,.st 3] [] [(3,aA b4 [u_ r.rq5,u_ r.rq6,u_ r.rq7,u_ r.rq8,u_ r.rq5,u_ r.rq6,u_ r.rq7,u_ r.rq8] 365)]<|aF<|tH [UT r] (λ_ w r s=>⟨dS 3 r s,trivial⟩)<|pG (by kernel_rfl)<|j6 [aA b2 (cY a) 213] (sd [3,2,0])<|aQ [(3,p_ b2),(5,u_ 0),(10,i_ 0)]<|aR<|i4 400<|cd (m:=399)<|aE [(11,b_ true)]<|aD<|dU<|az<|aR<|aC<|dM [.al,.st 1] [] (λb7=>[(7,p_ b7)]) (λ_=>[]) (λb7=>aA b7 [u_ r.rq5,u_ r.rq6,u_ r.rq7,u_ r.rq8] 215) ?_
 intro b7
 refine aM<|aj [.ld 1,.ld 0,.cq<|u_<|iT (cK r) a] [(5,u_<|bV 0<|iT (cK r) a)] (o1<|qw<|zY (cK r) a)<|bZ [(10,i_ 1)]<|cd (m:=398)<|aE [(11,b_ true)]<|aD<|dU<|az<|aR<|aC<|dM [.al,.st 2] [] (λb8=>[(7,p_ b8)]) (λb8=>[]) (λb8=>aA b8 [u_ r.rq5,u_ r.rq6,u_ r.rq7,u_ r.rq8] 215) ?_
 intro b8
 refine aM<|aj [.ld 2,.ld 0,.cq<|u_<|iT (cK r) a] [(5,AZ r a)] (o1<|qw<|zY (cK r) a)<|bZ [(10,i_ 2)]<|cd (m:=397)<|aE [(11,b_ false)]<|aD<|bM<|bg<|aE [(4,AZ r a)]<|aF<|bJ [AZ r a] ?_
 show((AZ r a):Value)=(u_<|i8 r a)
 unfold i8;simp_all
def dt(l:Du):Rn:=⟨l.dq2,l.dq3,l.dq4,l.dq5,l.dq6,l.dq7,l.dq8,l.dq9,l.dq10⟩
def dw(l:Du):Rn:=⟨l.dq11,l.dq12,l.dq13,l.dq14,l.dq15,l.dq16,l.dq17,l.dq18,l.dq19⟩
def headD(l:Du)(h:Int):Du:=if h>0 then{l with dq21:=i8 (dw l)<|aH l.dq20 65536,dq22:=i8 (dt l)<|aH (IntKind.u64.wrap<|l.dq20+IntKind.u64.wrap h) 65536} else{l with dq21:=9223372036854775808,dq22:=9223372036854775808}
def bG(b:Bool)(was r:Rn):Rn:=if b then cH was r else r
def Y9(b:Bool)(d r:Rn)(x y z:Int):Du:=⟨b,d.rq1,d.rq2,d.rq3,d.rq4,d.rq5,d.rq6,d.rq7,d.rq8,d.rq9,r.rq1,r.rq2,r.rq3,r.rq4,r.rq5,r.rq6,r.rq7,r.rq8,r.rq9,x,y,z⟩
def iV(l:Du)(c:Cv)(x h:Int):Du:=headD (Y9 true (bG l.dq1 (dt l)<|aS c x<|aH l.dq20 65536) (bG l.dq1 (dw l)<|bI c x<|aH l.dq20 65536) l.dq20 l.dq21 l.dq22) h
def iN(l:Du)(s h:Int):Du:=headD {l with dq20:=IntKind.u64.wrap<|l.dq20+IntKind.u64.wrap (bV s 0)} h
theorem zb(n:Int)(w:World):
  CW 197 #[u_ n] w (.agg (cY<|aH n 65536).toArray):=by
 refine aU Tryz.func197 rfl (HS.nil w) (aC<|dL [.al] [] (λb1=>[(2,p_ b1)]) (λb1=>aA b1 [u_ 0,u_ 0] 213) ?_)
 intro b1
 refine aC<|gJ [.cq<|.agg (cY<|aH n 65536).toArray,.st 0] [] [] [(0,aA b1 (cY<|aH n 65536) 213)] (o1<|qw<|sK n 65536)<|aF<|ez 0 (cY<|aH n 65536) ?_
 rfl
abbrev UW(p0:Du)(p1):=(.agg (cY<|aH (IntKind.u64.wrap<|p0.dq20+(IntKind.u64.wrap<|p1)) 65536).toArray:Value)
abbrev K1(p0)(p1:Du):=(aA p0 [b_ p1.dq1,u_ p1.dq2,u_ p1.dq3,u_ p1.dq4,u_ p1.dq5,u_ p1.dq6,u_ p1.dq7,u_ p1.dq8,u_ p1.dq9,b_ p1.dq10,u_ p1.dq11,u_ p1.dq12,u_ p1.dq13,u_ p1.dq14,u_ p1.dq15,u_ p1.dq16,u_ p1.dq17,u_ p1.dq18,b_ p1.dq19,u_ p1.dq20,u_ 9223372036854775808,u_ 9223372036854775808] 219:V.aI)
abbrev UX(p0:Du):=(.agg #[b_ p0.dq1,u_ p0.dq2,u_ p0.dq3,u_ p0.dq4,u_ p0.dq5,u_ p0.dq6,u_ p0.dq7,u_ p0.dq8,u_ p0.dq9,b_ p0.dq10,u_ p0.dq11,u_ p0.dq12,u_ p0.dq13,u_ p0.dq14,u_ p0.dq15,u_ p0.dq16,u_ p0.dq17,u_ p0.dq18,b_ p0.dq19,u_ p0.dq20,u_ 9223372036854775808,u_ 9223372036854775808]:Value)
abbrev vE(p0:Du):=(u_ (i8 (dw p0)<|aH p0.dq20 65536):Value)
abbrev vF(p0:Du)(p1):=(u_ (i8 (dt p0)<|aH (IntKind.u64.wrap<|p0.dq20+(IntKind.u64.wrap<|p1)) 65536):Value)
abbrev Aa(p0):=(aA p0 [b_ false,u_ 0,u_ 0,u_ 0,u_ 0,u_ 0,u_ 0,u_ 0,u_ 0,b_ false,u_ 0,u_ 0,u_ 0,u_ 0,u_ 0,u_ 0,u_ 0,u_ 0,b_ false,u_ 0,u_ 0,u_ 0] 219:V.aI)
theorem Ej(l:Du)(h:Int)(w:World):
  CW 201 #[.agg (fO l).toArray,i_ h] w (.agg (fO<|headD l h).toArray):=by
 refine aU Tryz.func201 rfl (HS.nil w) (aC<|iK [.al,.al] [] (λb1 b2=>[(2,p_ b1),(4,p_ b2)]) (λb1 b2=>[aA b1 (fO l) 219,Aa b2]) ?_)
 intro b1 b2
 refine aC<|bL [.st 0,.st 0] [] [(0,K1 b1 l)]<|aD<|aE [(8,b_<|decide (h>0))]<|aL rfl (λe1=>?_) (λe1=>?_)
 ·have p1:=Zg e1
  refine aD<|bY [7] 8<|eR 1 [.ld 0,.ld 0,.cq<|.agg (cY<|aH l.dq20 65536).toArray,.cq<|vE l] (rg 0 7) [(14,vE l),(15,q_ b1 20)] (oc (qw<|zb l.dq20)<|o1<|qw<|zZ (dw l)<|aH l.dq20 65536)<|bF 7 rfl (dQ 0 [vE l] rfl (dV<|bY [10] 11 ?_))
  refine eR 1 [.ld 0,.ld 0,.cq<|UW l h,.cq<|vF l h] (rg 0 10) [(2,p_ b1),(4,p_ b2),(24,vF l h),(25,q_ b1 21)] (oc (qw<|zb<|wU<|l.dq20+(wU<|h))<|o1<|qw<|zZ (dt l)<|aH (wU<|l.dq20+(wU<|h)) 65536) ?_
  refine bF 10 rfl (dQ 0 [vF l h] rfl (dV ?_))
  refine aC<|bL [.ld 0,.st 1] [] [(1,aA b2 [b_ l.dq1,u_ l.dq2,u_ l.dq3,u_ l.dq4,u_ l.dq5,u_ l.dq6,u_ l.dq7,u_ l.dq8,u_ l.dq9,b_ l.dq10,u_ l.dq11,u_ l.dq12,u_ l.dq13,u_ l.dq14,u_ l.dq15,u_ l.dq16,u_ l.dq17,u_ l.dq18,b_ l.dq19,u_ l.dq20,vE l,vF l h] 219)] ?_
  refine aF<|ez 1 [b_ l.dq1,u_ l.dq2,u_ l.dq3,u_ l.dq4,u_ l.dq5,u_ l.dq6,u_ l.dq7,u_ l.dq8,u_ l.dq9,b_ l.dq10,u_ l.dq11,u_ l.dq12,u_ l.dq13,u_ l.dq14,u_ l.dq15,u_ l.dq16,u_ l.dq17,u_ l.dq18,b_ l.dq19,u_ l.dq20,vE l,vF l h] ?_
  show((.agg #[b_ l.dq1,u_ l.dq2,u_ l.dq3,u_ l.dq4,u_ l.dq5,u_ l.dq6,u_ l.dq7,u_ l.dq8,u_ l.dq9,b_ l.dq10,u_ l.dq11,u_ l.dq12,u_ l.dq13,u_ l.dq14,u_ l.dq15,u_ l.dq16,u_ l.dq17,u_ l.dq18,b_ l.dq19,u_ l.dq20,vE l,vF l h]):Value)=(.agg (fO<|headD l h).toArray)
  (rw[show headD l h=_ from if_pos<|by simp_all];rfl)
 have p1:=Zh e1
 refine aO<|aC<|bL [.ld 0,.st 1] [] [(1,K1 b2 l)]<|aF<|ez 1 [b_ l.dq1,u_ l.dq2,u_ l.dq3,u_ l.dq4,u_ l.dq5,u_ l.dq6,u_ l.dq7,u_ l.dq8,u_ l.dq9,b_ l.dq10,u_ l.dq11,u_ l.dq12,u_ l.dq13,u_ l.dq14,u_ l.dq15,u_ l.dq16,u_ l.dq17,u_ l.dq18,b_ l.dq19,u_ l.dq20,u_ 9223372036854775808,u_ 9223372036854775808] ?_
 show((UX l):Value)=(.agg (fO<|headD l h).toArray)
 (rw[show headD l h=_ from if_neg<|by simp_all];rfl)
theorem XC(r:Rn)(bc bx bl:Nat)(c:Cv)(x:Int)(l:Du)(w:World)(r0:(aA bc (de c) 60).holds w)(r1:(aA bx [u_ x] 40).holds w)(r2:(aA bl (fO l) 219).holds w):
  CW 196 #[.agg (cZ r).toArray,.func (.func 199) #[] #[],p_ bc,p_ bx,p_ bl] w (.agg (cZ<|bG l.dq1 r<|aS c x<|aH l.dq20 65536).toArray):=by
 refine aU Tryz.func196 rfl (HS.nil w) (aC<|iK [.al,.al] [] (λb1 b2=>[(5,p_ b1),(7,p_ b2)]) (λb1 b2=>[aA b1 (cZ r) 217,aA b2 [u_ 0,u_ 0,u_ 0,u_ 0,u_ 0,u_ 0,u_ 0,u_ 0,b_ false] 217]) ?_)
 intro b1 b2
 refine aD<|jx [7,8] 9 [aA b1 (cZ r) 217,aA b2 [u_ 0,u_ 0,u_ 0,u_ 0,u_ 0,u_ 0,u_ 0,u_ 0,b_ false] 217]<|tG 2 [.rd<|de c,.rd [u_ x],.rd [u_ l.dq20],.cq<|.agg (cY<|aH l.dq20 65536).toArray,.cq<|.agg (cZ<|aS c x<|aH l.dq20 65536).toArray] (rg 0 7) [(4,p_ bl),(5,p_ b1),(7,p_ b2),(15,.agg (cZ<|aS c x<|aH l.dq20 65536).toArray)] (.refl _) (oc (ro ⟨bc,0,none⟩ (vs:=(de c))<|cE r0 rfl)<|oc (ro ⟨bx,0,none⟩ (vs:=[u_ x])<|cE r1 rfl)<|oc (ro ⟨bl,19,none⟩ (vs:=[u_ l.dq20])<|cE r2 rfl)<|oc (qw<|zb l.dq20)<|o1<|qw<|Dw c x<|aH l.dq20 65536)<|gR 7 rfl (nV 8 [u_ 0,u_ 0,u_ 0,u_ 0,u_ 0,u_ 0,u_ 0,u_ 0,b_ false] (by kernel_rfl) rfl (by kernel_rfl) (λb3=>[aA b1 (cZ r) 217,aA b2 [u_ 0,u_ 0,u_ 0,u_ 0,u_ 0,u_ 0,u_ 0,u_ 0,b_ false] 217,aA b3 [u_ 0,u_ 0,u_ 0,u_ 0,u_ 0,u_ 0,u_ 0,u_ 0,b_ false] 217]) (λ_=>rfl) ?_)
 intro b3
 refine gI (sd [2])<|gR 8 rfl (dQ 2 (cZ<|aS c x<|aH l.dq20 65536) rfl (gI (sd [2])<|je<|aD<|dF [.rd [b_ l.dq1]] [(5,p_ b1),(7,p_ b2),(8,p_ b3),(17,b_ l.dq1)] (o1<|ro ⟨bl,0,none⟩ (vs:=[b_ l.dq1])<|cE r2 rfl)<|iD l.dq1 (λe1=>?_)<|λe1=>?_))
 ·refine aM<|gJ [.ld 0,.ld 2,.cq<|.agg (cZ<|cH r<|aS c x<|aH l.dq20 65536).toArray,.st 2] [] [] [(2,aA b3 (cZ<|cH r<|aS c x<|aH l.dq20 65536) 217)] (o1<|qw<|AX r<|aS c x<|aH l.dq20 65536)<|aC<|bL [.ld 2,.st 1] [] [(1,aA b2 (cZ<|cH r<|aS c x<|aH l.dq20 65536) 217)]<|aF<|ez 1 (cZ<|cH r<|aS c x<|aH l.dq20 65536) ?_
  show((.agg (cZ<|cH r<|aS c x<|aH l.dq20 65536).toArray):Value)=(.agg (cZ<|bG l.dq1 r<|aS c x<|aH l.dq20 65536).toArray)
  unfold bG;simp_all
 refine aO<|aC<|bL [.ld 2,.st 1] [] [(1,aA b2 (cZ<|aS c x<|aH l.dq20 65536) 217)]<|aF<|ez 1 (cZ<|aS c x<|aH l.dq20 65536) ?_
 show((.agg (cZ<|aS c x<|aH l.dq20 65536).toArray):Value)=(.agg (cZ<|bG l.dq1 r<|aS c x<|aH l.dq20 65536).toArray)
 unfold bG;simp_all
theorem XE(r:Rn)(bc bx bl:Nat)(c:Cv)(x:Int)(l:Du)(w:World)(r0:(aA bc (de c) 60).holds w)(r1:(aA bx [u_ x] 40).holds w)(r2:(aA bl (fO l) 219).holds w):
  CW 196 #[.agg (cZ r).toArray,.func (.func 200) #[] #[],p_ bc,p_ bx,p_ bl] w (.agg (cZ<|bG l.dq1 r<|bI c x<|aH l.dq20 65536).toArray):=by
 refine aU Tryz.func196 rfl (HS.nil w) (aC<|iK [.al,.al] [] (λb1 b2=>[(5,p_ b1),(7,p_ b2)]) (λb1 b2=>[aA b1 (cZ r) 217,aA b2 [u_ 0,u_ 0,u_ 0,u_ 0,u_ 0,u_ 0,u_ 0,u_ 0,b_ false] 217]) ?_)
 intro b1 b2
 refine aD<|jx [7,8] 9 [aA b1 (cZ r) 217,aA b2 [u_ 0,u_ 0,u_ 0,u_ 0,u_ 0,u_ 0,u_ 0,u_ 0,b_ false] 217]<|tG 2 [.rd<|de c,.rd [u_ x],.rd [u_ l.dq20],.cq<|.agg (cY<|aH l.dq20 65536).toArray,.cq<|.agg (cZ<|bI c x<|aH l.dq20 65536).toArray] (rg 0 7) [(4,p_ bl),(5,p_ b1),(7,p_ b2),(15,.agg (cZ<|bI c x<|aH l.dq20 65536).toArray)] (.refl _) (oc (ro ⟨bc,0,none⟩ (vs:=(de c))<|cE r0 rfl)<|oc (ro ⟨bx,0,none⟩ (vs:=[u_ x])<|cE r1 rfl)<|oc (ro ⟨bl,19,none⟩ (vs:=[u_ l.dq20])<|cE r2 rfl)<|oc (qw<|zb l.dq20)<|o1<|qw<|JP c x<|aH l.dq20 65536)<|gR 7 rfl (nV 8 [u_ 0,u_ 0,u_ 0,u_ 0,u_ 0,u_ 0,u_ 0,u_ 0,b_ false] (by kernel_rfl) rfl (by kernel_rfl) (λb3=>[aA b1 (cZ r) 217,aA b2 [u_ 0,u_ 0,u_ 0,u_ 0,u_ 0,u_ 0,u_ 0,u_ 0,b_ false] 217,aA b3 [u_ 0,u_ 0,u_ 0,u_ 0,u_ 0,u_ 0,u_ 0,u_ 0,b_ false] 217]) (λ_=>rfl) ?_)
 intro b3
 refine gI (sd [2])<|gR 8 rfl (dQ 2 (cZ<|bI c x<|aH l.dq20 65536) rfl (gI (sd [2])<|je<|aD<|dF [.rd [b_ l.dq1]] [(5,p_ b1),(7,p_ b2),(8,p_ b3),(17,b_ l.dq1)] (o1<|ro ⟨bl,0,none⟩ (vs:=[b_ l.dq1])<|cE r2 rfl)<|iD l.dq1 (λe1=>?_)<|λe1=>?_))
 ·refine aM<|gJ [.ld 0,.ld 2,.cq<|.agg (cZ<|cH r<|bI c x<|aH l.dq20 65536).toArray,.st 2] [] [] [(2,aA b3 (cZ<|cH r<|bI c x<|aH l.dq20 65536) 217)] (o1<|qw<|AX r<|bI c x<|aH l.dq20 65536)<|aC<|bL [.ld 2,.st 1] [] [(1,aA b2 (cZ<|cH r<|bI c x<|aH l.dq20 65536) 217)]<|aF<|ez 1 (cZ<|cH r<|bI c x<|aH l.dq20 65536) ?_
  show((.agg (cZ<|cH r<|bI c x<|aH l.dq20 65536).toArray):Value)=(.agg (cZ<|bG l.dq1 r<|bI c x<|aH l.dq20 65536).toArray)
  unfold bG;simp_all
 refine aO<|aC<|bL [.ld 2,.st 1] [] [(1,aA b2 (cZ<|bI c x<|aH l.dq20 65536) 217)]<|aF<|ez 1 (cZ<|bI c x<|aH l.dq20 65536) ?_
 show((.agg (cZ<|bI c x<|aH l.dq20 65536).toArray):Value)=(.agg (cZ<|bG l.dq1 r<|bI c x<|aH l.dq20 65536).toArray)
 unfold bG;simp_all
abbrev Ek(p0:Du)(p1)(p2):=(cZ<|bG p0.dq1 (dt p0)<|aS p1 p2<|aH p0.dq20 65536)
abbrev UY(p0:Du)(p1)(p2):=(b_ ((bG p0.dq1 (dt p0)<|aS p1 p2<|aH p0.dq20 65536).rq9):Value)
abbrev UZ(p0:Du)(p1)(p2):=(u_ ((bG p0.dq1 (dt p0)<|aS p1 p2<|aH p0.dq20 65536).rq8):Value)
abbrev U0(p0:Du)(p1)(p2):=(u_ ((bG p0.dq1 (dt p0)<|aS p1 p2<|aH p0.dq20 65536).rq7):Value)
abbrev U1(p0:Du)(p1)(p2):=(u_ ((bG p0.dq1 (dt p0)<|aS p1 p2<|aH p0.dq20 65536).rq6):Value)
abbrev U4(p0:Du)(p1)(p2):=(u_ ((bG p0.dq1 (dt p0)<|aS p1 p2<|aH p0.dq20 65536).rq5):Value)
abbrev U5(p0:Du)(p1)(p2):=(u_ ((bG p0.dq1 (dt p0)<|aS p1 p2<|aH p0.dq20 65536).rq4):Value)
abbrev U6(p0:Du)(p1)(p2):=(u_ ((bG p0.dq1 (dt p0)<|aS p1 p2<|aH p0.dq20 65536).rq3):Value)
abbrev U7(p0:Du)(p1)(p2):=(u_ ((bG p0.dq1 (dt p0)<|aS p1 p2<|aH p0.dq20 65536).rq2):Value)
abbrev U8(p0:Du)(p1)(p2):=(u_ ((bG p0.dq1 (dt p0)<|aS p1 p2<|aH p0.dq20 65536).rq1):Value)
abbrev Ab(p0:Du)(p1)(p2):=(cZ<|bG p0.dq1 (dw p0)<|bI p1 p2<|aH p0.dq20 65536)
theorem U9(l:Du)(c:Cv)(x h:Int)(w:World):
  CW 146 #[.agg (fO l).toArray,.agg (de c).toArray,u_ x,i_ h] w (.agg (fO<|iV l c x h).toArray):=by
 refine aU Tryz.func146 rfl (HS.nil w) (aC<|Yt [.al,.al,.al] [3,4,5,6] (λb1 b2 b3=>[(3,i_ h),(4,p_ b1),(5,p_ b2),(6,p_ b3)]) (λb1 b2 b3=>[aA b1 (fO l) 219,aA b2 (de c) 60,aA b3 [u_ x] 40]) (λb1 b2 b3=>[]) (λ_ _ _=>T0) (λ_ _ _=>by kernel_rfl) (λb1 b2 b3=>trivial) ?_)
 intro b1 b2 b3
 refine aG<|nV 8 [b_ false,u_ 0,u_ 0,u_ 0,u_ 0,u_ 0,u_ 0,u_ 0,u_ 0,b_ false,u_ 0,u_ 0,u_ 0,u_ 0,u_ 0,u_ 0,u_ 0,u_ 0,b_ false,u_ 0,u_ 0,u_ 0] (by kernel_rfl) rfl (by kernel_rfl) (λb4=>[aA b1 (fO l) 219,aA b2 (de c) 60,aA b3 [u_ x] 40,Aa b4]) (λ_=>rfl) ?_
 intro b4
 refine eE<|aE [(4,p_ b1),(8,p_ b4),(9,.func (.func 196) #[] #[p_ b2,p_ b3,p_ b1])]<|aD<|bY [9,11] 12<|eR 3 [.ld 0,.cq<|.agg (Ek l c x).toArray,.ld 0,.cq<|.agg (Ab l c x).toArray] (rg 0 9) [(14,.agg (Ek l c x).toArray),(18,.agg (Ab l c x).toArray),(19,q_ b1 1)] (oc (qo<|λww ss=>XC (dt l) b2 b3 b1 c x l ww (ss.mem (i:=1) rfl) (ss.mem (i:=2) rfl)<|ss.mem (i:=0) rfl)<|o1<|qo<|λww ss=>XE (dw l) b2 b3 b1 c x l ww (ss.mem (i:=1) rfl) (ss.mem (i:=2) rfl)<|ss.mem (i:=0) rfl) ?_
 refine bF 9 rfl (dQ 0 (Ek l c x) rfl (cb<|cQ 1 [] [10] [(18,.agg (Ab l c x).toArray),(20,q_ b1 10)] ?_))
 refine bF 11 rfl (dQ 0 (Ab l c x) rfl ?_)
 refine dV ?_
 refine aC<|bL [.st 0] [] [(0,aA b1 [b_ true,U8 l c x,U7 l c x,U6 l c x,U5 l c x,U4 l c x,U1 l c x,U0 l c x,UZ l c x,UY l c x,u_<|(bG l.dq1 (dw l)<|bI c x<|aH l.dq20 65536).rq1,u_<|(bG l.dq1 (dw l)<|bI c x<|aH l.dq20 65536).rq2,u_<|(bG l.dq1 (dw l)<|bI c x<|aH l.dq20 65536).rq3,u_<|(bG l.dq1 (dw l)<|bI c x<|aH l.dq20 65536).rq4,u_<|(bG l.dq1 (dw l)<|bI c x<|aH l.dq20 65536).rq5,u_<|(bG l.dq1 (dw l)<|bI c x<|aH l.dq20 65536).rq6,u_<|(bG l.dq1 (dw l)<|bI c x<|aH l.dq20 65536).rq7,u_<|(bG l.dq1 (dw l)<|bI c x<|aH l.dq20 65536).rq8,b_<|(bG l.dq1 (dw l)<|bI c x<|aH l.dq20 65536).rq9,u_ l.dq20,u_ l.dq21,u_ l.dq22] 219)] ?_
 refine aC<|gJ [.ld 0,.cq<|.agg (fO<|headD (⟨true,(bG l.dq1 (dt l)<|aS c x<|aH l.dq20 65536).rq1,(bG l.dq1 (dt l)<|aS c x<|aH l.dq20 65536).rq2,(bG l.dq1 (dt l)<|aS c x<|aH l.dq20 65536).rq3,(bG l.dq1 (dt l)<|aS c x<|aH l.dq20 65536).rq4,(bG l.dq1 (dt l)<|aS c x<|aH l.dq20 65536).rq5,(bG l.dq1 (dt l)<|aS c x<|aH l.dq20 65536).rq6,(bG l.dq1 (dt l)<|aS c x<|aH l.dq20 65536).rq7,(bG l.dq1 (dt l)<|aS c x<|aH l.dq20 65536).rq8,(bG l.dq1 (dt l)<|aS c x<|aH l.dq20 65536).rq9,(bG l.dq1 (dw l)<|bI c x<|aH l.dq20 65536).rq1,(bG l.dq1 (dw l)<|bI c x<|aH l.dq20 65536).rq2,(bG l.dq1 (dw l)<|bI c x<|aH l.dq20 65536).rq3,(bG l.dq1 (dw l)<|bI c x<|aH l.dq20 65536).rq4,(bG l.dq1 (dw l)<|bI c x<|aH l.dq20 65536).rq5,(bG l.dq1 (dw l)<|bI c x<|aH l.dq20 65536).rq6,(bG l.dq1 (dw l)<|bI c x<|aH l.dq20 65536).rq7,(bG l.dq1 (dw l)<|bI c x<|aH l.dq20 65536).rq8,(bG l.dq1 (dw l)<|bI c x<|aH l.dq20 65536).rq9,l.dq20,l.dq21,l.dq22⟩:Du) h).toArray,.st 3] [] [] [(3,aA b4 (fO<|headD (⟨true,(bG l.dq1 (dt l)<|aS c x<|aH l.dq20 65536).rq1,(bG l.dq1 (dt l)<|aS c x<|aH l.dq20 65536).rq2,(bG l.dq1 (dt l)<|aS c x<|aH l.dq20 65536).rq3,(bG l.dq1 (dt l)<|aS c x<|aH l.dq20 65536).rq4,(bG l.dq1 (dt l)<|aS c x<|aH l.dq20 65536).rq5,(bG l.dq1 (dt l)<|aS c x<|aH l.dq20 65536).rq6,(bG l.dq1 (dt l)<|aS c x<|aH l.dq20 65536).rq7,(bG l.dq1 (dt l)<|aS c x<|aH l.dq20 65536).rq8,(bG l.dq1 (dt l)<|aS c x<|aH l.dq20 65536).rq9,(bG l.dq1 (dw l)<|bI c x<|aH l.dq20 65536).rq1,(bG l.dq1 (dw l)<|bI c x<|aH l.dq20 65536).rq2,(bG l.dq1 (dw l)<|bI c x<|aH l.dq20 65536).rq3,(bG l.dq1 (dw l)<|bI c x<|aH l.dq20 65536).rq4,(bG l.dq1 (dw l)<|bI c x<|aH l.dq20 65536).rq5,(bG l.dq1 (dw l)<|bI c x<|aH l.dq20 65536).rq6,(bG l.dq1 (dw l)<|bI c x<|aH l.dq20 65536).rq7,(bG l.dq1 (dw l)<|bI c x<|aH l.dq20 65536).rq8,(bG l.dq1 (dw l)<|bI c x<|aH l.dq20 65536).rq9,l.dq20,l.dq21,l.dq22⟩:Du) h) 219)] (o1<|qw<|Ej (⟨true,(bG l.dq1 (dt l)<|aS c x<|aH l.dq20 65536).rq1,(bG l.dq1 (dt l)<|aS c x<|aH l.dq20 65536).rq2,(bG l.dq1 (dt l)<|aS c x<|aH l.dq20 65536).rq3,(bG l.dq1 (dt l)<|aS c x<|aH l.dq20 65536).rq4,(bG l.dq1 (dt l)<|aS c x<|aH l.dq20 65536).rq5,(bG l.dq1 (dt l)<|aS c x<|aH l.dq20 65536).rq6,(bG l.dq1 (dt l)<|aS c x<|aH l.dq20 65536).rq7,(bG l.dq1 (dt l)<|aS c x<|aH l.dq20 65536).rq8,(bG l.dq1 (dt l)<|aS c x<|aH l.dq20 65536).rq9,(bG l.dq1 (dw l)<|bI c x<|aH l.dq20 65536).rq1,(bG l.dq1 (dw l)<|bI c x<|aH l.dq20 65536).rq2,(bG l.dq1 (dw l)<|bI c x<|aH l.dq20 65536).rq3,(bG l.dq1 (dw l)<|bI c x<|aH l.dq20 65536).rq4,(bG l.dq1 (dw l)<|bI c x<|aH l.dq20 65536).rq5,(bG l.dq1 (dw l)<|bI c x<|aH l.dq20 65536).rq6,(bG l.dq1 (dw l)<|bI c x<|aH l.dq20 65536).rq7,(bG l.dq1 (dw l)<|bI c x<|aH l.dq20 65536).rq8,(bG l.dq1 (dw l)<|bI c x<|aH l.dq20 65536).rq9,l.dq20,l.dq21,l.dq22⟩:Du) h) ?_
 refine aF<|ez 3 (fO<|headD (⟨true,(bG l.dq1 (dt l)<|aS c x<|aH l.dq20 65536).rq1,(bG l.dq1 (dt l)<|aS c x<|aH l.dq20 65536).rq2,(bG l.dq1 (dt l)<|aS c x<|aH l.dq20 65536).rq3,(bG l.dq1 (dt l)<|aS c x<|aH l.dq20 65536).rq4,(bG l.dq1 (dt l)<|aS c x<|aH l.dq20 65536).rq5,(bG l.dq1 (dt l)<|aS c x<|aH l.dq20 65536).rq6,(bG l.dq1 (dt l)<|aS c x<|aH l.dq20 65536).rq7,(bG l.dq1 (dt l)<|aS c x<|aH l.dq20 65536).rq8,(bG l.dq1 (dt l)<|aS c x<|aH l.dq20 65536).rq9,(bG l.dq1 (dw l)<|bI c x<|aH l.dq20 65536).rq1,(bG l.dq1 (dw l)<|bI c x<|aH l.dq20 65536).rq2,(bG l.dq1 (dw l)<|bI c x<|aH l.dq20 65536).rq3,(bG l.dq1 (dw l)<|bI c x<|aH l.dq20 65536).rq4,(bG l.dq1 (dw l)<|bI c x<|aH l.dq20 65536).rq5,(bG l.dq1 (dw l)<|bI c x<|aH l.dq20 65536).rq6,(bG l.dq1 (dw l)<|bI c x<|aH l.dq20 65536).rq7,(bG l.dq1 (dw l)<|bI c x<|aH l.dq20 65536).rq8,(bG l.dq1 (dw l)<|bI c x<|aH l.dq20 65536).rq9,l.dq20,l.dq21,l.dq22⟩:Du) h) ?_
 show((.agg (fO<|headD (⟨true,(bG l.dq1 (dt l)<|aS c x<|aH l.dq20 65536).rq1,(bG l.dq1 (dt l)<|aS c x<|aH l.dq20 65536).rq2,(bG l.dq1 (dt l)<|aS c x<|aH l.dq20 65536).rq3,(bG l.dq1 (dt l)<|aS c x<|aH l.dq20 65536).rq4,(bG l.dq1 (dt l)<|aS c x<|aH l.dq20 65536).rq5,(bG l.dq1 (dt l)<|aS c x<|aH l.dq20 65536).rq6,(bG l.dq1 (dt l)<|aS c x<|aH l.dq20 65536).rq7,(bG l.dq1 (dt l)<|aS c x<|aH l.dq20 65536).rq8,(bG l.dq1 (dt l)<|aS c x<|aH l.dq20 65536).rq9,(bG l.dq1 (dw l)<|bI c x<|aH l.dq20 65536).rq1,(bG l.dq1 (dw l)<|bI c x<|aH l.dq20 65536).rq2,(bG l.dq1 (dw l)<|bI c x<|aH l.dq20 65536).rq3,(bG l.dq1 (dw l)<|bI c x<|aH l.dq20 65536).rq4,(bG l.dq1 (dw l)<|bI c x<|aH l.dq20 65536).rq5,(bG l.dq1 (dw l)<|bI c x<|aH l.dq20 65536).rq6,(bG l.dq1 (dw l)<|bI c x<|aH l.dq20 65536).rq7,(bG l.dq1 (dw l)<|bI c x<|aH l.dq20 65536).rq8,(bG l.dq1 (dw l)<|bI c x<|aH l.dq20 65536).rq9,l.dq20,l.dq21,l.dq22⟩:Du) h).toArray):Value)=(.agg (fO<|iV l c x h).toArray)
 rfl
theorem Ua(l:Du)(s h:Int)(w:World):
  CW 213 #[.agg (fO l).toArray,i_ s,i_ h] w (.agg (fO<|iN l s h).toArray):=by
 refine aU Tryz.func213 rfl (HS.nil w) (aC<|iK [.al,.al] [] (λb1 b2=>[(3,p_ b1),(6,p_ b2)]) (λb1 b2=>[aA b1 (fO l) 219,Aa b2]) ?_)
 intro b1 b2
 refine aC<|bL [.ld 0,.st 0] [] [(0,aA b1 [b_ l.dq1,u_ l.dq2,u_ l.dq3,u_ l.dq4,u_ l.dq5,u_ l.dq6,u_ l.dq7,u_ l.dq8,u_ l.dq9,b_ l.dq10,u_ l.dq11,u_ l.dq12,u_ l.dq13,u_ l.dq14,u_ l.dq15,u_ l.dq16,u_ l.dq17,u_ l.dq18,b_ l.dq19,u_<|wU<|l.dq20+(wU<|bV s 0),u_ l.dq21,u_ l.dq22] 219)]<|aC<|gJ [.ld 0,.cq<|.agg (fO<|headD (⟨l.dq1,l.dq2,l.dq3,l.dq4,l.dq5,l.dq6,l.dq7,l.dq8,l.dq9,l.dq10,l.dq11,l.dq12,l.dq13,l.dq14,l.dq15,l.dq16,l.dq17,l.dq18,l.dq19,wU<|l.dq20+(wU<|bV s 0),l.dq21,l.dq22⟩:Du) h).toArray,.st 1] [] [] [(1,aA b2 (fO<|headD (⟨l.dq1,l.dq2,l.dq3,l.dq4,l.dq5,l.dq6,l.dq7,l.dq8,l.dq9,l.dq10,l.dq11,l.dq12,l.dq13,l.dq14,l.dq15,l.dq16,l.dq17,l.dq18,l.dq19,wU<|l.dq20+(wU<|bV s 0),l.dq21,l.dq22⟩:Du) h) 219)] (o1<|qw<|Ej (⟨l.dq1,l.dq2,l.dq3,l.dq4,l.dq5,l.dq6,l.dq7,l.dq8,l.dq9,l.dq10,l.dq11,l.dq12,l.dq13,l.dq14,l.dq15,l.dq16,l.dq17,l.dq18,l.dq19,wU<|l.dq20+(wU<|bV s 0),l.dq21,l.dq22⟩:Du) h)<|aF<|ez 1 (fO<|headD (⟨l.dq1,l.dq2,l.dq3,l.dq4,l.dq5,l.dq6,l.dq7,l.dq8,l.dq9,l.dq10,l.dq11,l.dq12,l.dq13,l.dq14,l.dq15,l.dq16,l.dq17,l.dq18,l.dq19,wU<|l.dq20+(wU<|bV s 0),l.dq21,l.dq22⟩:Du) h) ?_
 show((.agg (fO<|headD (⟨l.dq1,l.dq2,l.dq3,l.dq4,l.dq5,l.dq6,l.dq7,l.dq8,l.dq9,l.dq10,l.dq11,l.dq12,l.dq13,l.dq14,l.dq15,l.dq16,l.dq17,l.dq18,l.dq19,IntKind.u64.wrap<|l.dq20+(IntKind.u64.wrap<|bV s 0),l.dq21,l.dq22⟩:Du) h).toArray):Value)=(.agg (fO<|iN l s h).toArray)
 rfl
theorem Ub(l:Du)(h:Int)(w:World):
  CW 215 #[.agg (fO l).toArray,i_ h] w (.agg (fO<|headD l h).toArray):=by
 refine aU Tryz.func215 rfl (HS.nil w) (aC<|iK [.al,.al] [] (λb1 b2=>[(2,p_ b1),(4,p_ b2)]) (λb1 b2=>[aA b1 (fO l) 219,Aa b2]) ?_)
 intro b1 b2
 refine aC<|gJ [.ld 0,.cq<|.agg (fO<|headD l h).toArray,.st 1] [] [] [(1,aA b2 (fO<|headD l h) 219)] (o1<|qw<|Ej l h)<|aF<|ez 1 (fO<|headD l h) ?_
 rfl
def eS(l:Sh):Rn:=⟨l.sq2,l.sq3,l.sq4,l.sq5,l.sq6,l.sq7,l.sq8,l.sq9,l.sq10⟩
def jN(r:Rn)(x:Int):Int:=if r.rq9 then bV (bV (bV 0<|i8 r<|aH x 65536) r.rq5) r.rq1 else bV (bV 0<|i8 r<|aH x 65536) r.rq5
def yG(b:Bool)(r:Rn)(x:Int):Sh:=⟨b,r.rq1,r.rq2,r.rq3,r.rq4,r.rq5,r.rq6,r.rq7,r.rq8,r.rq9,x⟩
def jO(l:Sh)(c:Cv)(x y:Int):Sh:=yG true (bG l.sq1 (eS l)<|aS c x<|aH y 65536)<|jN (bG l.sq1 (eS l)<|aS c x<|aH y 65536) y
def jo(l:Sh)(x:Int):Sh:=if l.sq1 then{l with sq11:=jN (eS l) x} else l
abbrev pa(p0)(p1):=(u_ (i8 p0<|aH p1 65536):Value)
abbrev vG(p0:Rn)(p1):=(u_ (bV (bV (bV 0<|i8 p0<|aH p1 65536) p0.rq5) p0.rq1):Value)
abbrev qW(p0:Rn)(p1):=(u_ (bV (bV 0<|i8 p0<|aH p1 65536) p0.rq5):Value)
theorem Em(r:Rn)(x:Int)(w:World):
  CW 206 #[.agg (cZ r).toArray,u_ x] w (u_<|jN r x):=by
 refine aU Tryz.func206 rfl (HS.nil w) (aC<|dL [.al] [] (λb1=>[(2,p_ b1)]) (λb1=>aA b1 (cZ r) 217) ?_)
 intro b1
 refine aD<|jw [.ld 0,.cq<|.agg (cY<|aH x 65536).toArray,.cq<|pa r x] (rg 0 5) [] [(5,pa r x)] (oc (qw<|sK x 65536)<|o1<|qw<|zZ r<|aH x 65536)<|bS<|bB [.ld 0] [(11,b_ r.rq9)]<|iD r.rq9 (λe1=>?_)<|λe1=>?_
 ·refine aC<|an 7 [.ld 0,.ld 0] [(12,pa r x),(15,u_ r.rq5),(18,u_ r.rq1)]<|aG<|eB 19 (e:=40) [pa r x,u_ r.rq5,u_ r.rq1] (by kernel_rfl) rfl (λ_=>by kernel_rfl) _ (λ_=>rfl) ?_
  intro b2
  refine aG<|eM (some 20) [.slice (some ⟨b2,0,none⟩) 3 3] Tryz.func250 rfl (aE []<|aE [(3,u_ 0)]<|aD<|aE [(6,.slice (some ⟨b2,0,none⟩) 3 3),(7,i_ 3),(8,i_ 0)]<|aR<|i4 400<|cd (m:=399)<|aE [(9,b_ true)]<|aD<|dU<|az<|aR<|aC<|aG<|cC (some 10) (p_ b2) (lJ (off:=0) (sz:=1) (el:=40) (e:=0) (len:=3) rfl rfl rfl (by kernel_rfl) (by kernel_rfl) (by omega))<|bB [.ld 1] [(5,pa r x)]<|bZ [(3,u_<|bV 0<|i8 r<|aH x 65536)]<|bZ [(8,i_ 1)]<|cd (m:=398)<|aE [(9,b_ true)]<|aD<|dU<|az<|aR<|aC<|aG<|cC (some 10) (q_ b2 1) (lJ (off:=0) (sz:=1) (el:=40) (e:=1) (len:=3) rfl rfl rfl (by kernel_rfl) (by kernel_rfl) (by omega))<|bB [.ld 1] [(5,u_ r.rq5)]<|bZ [(3,qW r x)]<|bZ [(8,i_ 2)]<|cd (m:=397)<|aE [(3,qW r x),(6,.slice (some ⟨b2,0,none⟩) 3 3),(7,i_ 3),(8,i_ 2),(9,b_ true)]<|aD<|dU<|az<|aR<|aC<|aG<|cC (some 10) (q_ b2 2) (lJ (off:=0) (sz:=1) (el:=40) (e:=2) (len:=3) rfl rfl rfl (by kernel_rfl) (by kernel_rfl) (by omega))<|bB [.ld 1] [(5,u_ r.rq1)]<|bZ [(3,vG r x)]<|bZ [(8,i_ 3)]<|cd (m:=396)<|aE [(9,b_ false)]<|aD<|bM<|bg<|aE [(2,vG r x)]<|aF<|d6 [vG r x]<|j6 [aA b2 [pa r x,u_ r.rq5,u_ r.rq1] 40] (sd [0])<|aQ [(4,vG r x)]<|aF<|bJ [vG r x] ?_)
  show((vG r x):Value)=(u_<|jN r x)
  unfold jN;simp_all
 refine aO<|aC<|an 4 [.ld 0] [(21,pa r x),(24,u_ r.rq5)]<|aG<|eB 25 (e:=40) [pa r x,u_ r.rq5] (by kernel_rfl) rfl (λ_=>by kernel_rfl) _ (λ_=>rfl) ?_
 intro b3
 refine aG<|eM (some 26) [.slice (some ⟨b3,0,none⟩) 2 2] Tryz.func250 rfl (aE []<|aE [(3,u_ 0)]<|aD<|aE [(6,.slice (some ⟨b3,0,none⟩) 2 2),(7,i_ 2),(8,i_ 0)]<|aR<|i4 400<|cd (m:=399)<|aE [(9,b_ true)]<|aD<|dU<|az<|aR<|aC<|aG<|cC (some 10) (p_ b3) (lJ (off:=0) (sz:=1) (el:=40) (e:=0) (len:=2) rfl rfl rfl (by kernel_rfl) (by kernel_rfl) (by omega))<|bB [.ld 1] [(5,pa r x)]<|bZ [(3,u_<|bV 0<|i8 r<|aH x 65536)]<|bZ [(8,i_ 1)]<|cd (m:=398)<|aE [(9,b_ true)]<|aD<|dU<|az<|aR<|aC<|aG<|cC (some 10) (q_ b3 1) (lJ (off:=0) (sz:=1) (el:=40) (e:=1) (len:=2) rfl rfl rfl (by kernel_rfl) (by kernel_rfl) (by omega))<|bB [.ld 1] [(5,u_ r.rq5)]<|bZ [(3,qW r x)]<|bZ [(8,i_ 2)]<|cd (m:=397)<|aE [(3,qW r x),(6,.slice (some ⟨b3,0,none⟩) 2 2),(7,i_ 2),(8,i_ 2),(9,b_ false)]<|aD<|bM<|bg<|aE [(2,qW r x)]<|aF<|d6 [qW r x]<|j6 [aA b3 [pa r x,u_ r.rq5] 40] (sd [0])<|aQ [(4,qW r x)]<|aF<|bJ [qW r x] ?_)
 show((qW r x):Value)=(u_<|jN r x)
 unfold jN;simp_all
abbrev K2(p0)(p1)(p2)(p3):=(cZ<|cH (eS p0)<|aS p1 p2<|aH p3 65536)
abbrev Eo(p0)(p1)(p2)(p3):=(u_ (jN (cH (eS p0)<|aS p1 p2<|aH p3 65536) p3):Value)
abbrev Ep(p0)(p1)(p2):=(cZ<|aS p0 p1<|aH p2 65536)
abbrev Ad(p0):=(aA p0 [b_ false,u_ 0,u_ 0,u_ 0,u_ 0,u_ 0,u_ 0,u_ 0,u_ 0,b_ false,u_ 0] 221:V.aI)
abbrev K3(p0)(p1)(p2):=(.agg #[b_ true,u_<|(aS p0 p1<|aH p2 65536).rq1,u_<|(aS p0 p1<|aH p2 65536).rq2,u_<|(aS p0 p1<|aH p2 65536).rq3,u_<|(aS p0 p1<|aH p2 65536).rq4,u_<|(aS p0 p1<|aH p2 65536).rq5,u_<|(aS p0 p1<|aH p2 65536).rq6,u_<|(aS p0 p1<|aH p2 65536).rq7,u_<|(aS p0 p1<|aH p2 65536).rq8,b_<|(aS p0 p1<|aH p2 65536).rq9,u_<|jN (aS p0 p1<|aH p2 65536) p2]:Value)
abbrev K4(p0)(p1)(p2)(p3):=(.agg #[b_ true,u_<|(cH (eS p0)<|aS p1 p2<|aH p3 65536).rq1,u_<|(cH (eS p0)<|aS p1 p2<|aH p3 65536).rq2,u_<|(cH (eS p0)<|aS p1 p2<|aH p3 65536).rq3,u_<|(cH (eS p0)<|aS p1 p2<|aH p3 65536).rq4,u_<|(cH (eS p0)<|aS p1 p2<|aH p3 65536).rq5,u_<|(cH (eS p0)<|aS p1 p2<|aH p3 65536).rq6,u_<|(cH (eS p0)<|aS p1 p2<|aH p3 65536).rq7,u_<|(cH (eS p0)<|aS p1 p2<|aH p3 65536).rq8,b_<|(cH (eS p0)<|aS p1 p2<|aH p3 65536).rq9,u_<|jN (cH (eS p0)<|aS p1 p2<|aH p3 65536) p3]:Value)
theorem K5(l:Sh)(c:Cv)(x y:Int)(w:World):
  CW 149 #[.agg (iE l).toArray,.agg (de c).toArray,u_ x,u_ y] w (.agg (iE<|jO l c x y).toArray):=by
 refine aU Tryz.func149 rfl (HS.nil w) (aC<|nW [.al,.al,.al] [2,3,4,5,8] (λb1 b2 b3=>[(2,u_ x),(3,u_ y),(4,p_ b1),(5,p_ b2),(8,p_ b3)]) (λb1 b2 b3=>[aA b1 (iE l) 221,aA b2 (de c) 60,Ad b3]) (λb1 b2 b3=>[]) (λ_ _ _=>T0) (λ_ _ _=>by kernel_rfl) (λb1 b2 b3=>trivial) ?_)
 intro b1 b2 b3
 refine aD<|jx [5,6] 7 [aA b1 (iE l) 221,aA b2 (de c) 60,Ad b3]<|tG 2 [.ld 1,.cq<|.agg (cY<|aH y 65536).toArray,.cq<|.agg (Ep c x y).toArray] (rg 0 5) [(3,u_ y),(4,p_ b1),(8,p_ b3),(14,.agg (Ep c x y).toArray)] (.refl _) (oc (qw<|sK y 65536)<|o1<|qw<|Dw c x<|aH y 65536)<|gR 5 rfl (nV 9 [u_ 0,u_ 0,u_ 0,u_ 0,u_ 0,u_ 0,u_ 0,u_ 0,b_ false] (by kernel_rfl) rfl (by kernel_rfl) (λb4=>[aA b1 (iE l) 221,aA b2 (de c) 60,Ad b3,aA b4 [u_ 0,u_ 0,u_ 0,u_ 0,u_ 0,u_ 0,u_ 0,u_ 0,b_ false] 217]) (λ_=>rfl) ?_)
 intro b4
 refine gI (sd [3])<|gR 6 rfl (dQ 3 (Ep c x y) rfl (gI (sd [3])<|je<|bS<|bB [.ld 0] [(4,p_ b1),(8,p_ b3),(9,p_ b4),(16,b_ l.sq1)]<|iD l.sq1 (λe1=>?_)<|λe1=>?_))
 ·refine aM<|gJ [.ld 0,.ld 3,.cq<|.agg (K2 l c x y).toArray,.st 3] [] [] [(3,aA b4 (K2 l c x y) 217)] (o1<|qw<|AX (eS l)<|aS c x<|aH y 65536)<|aD<|bY [5] 6 ?_
  refine eR 1 [.ld 3,.ld 3,.cq<|Eo l c x y] (rg 0 5) [(25,K4 l c x y)] (o1<|qw<|Em (cH (eS l)<|aS c x<|aH y 65536) y) ?_
  refine bF 5 rfl (dQ 2 [b_ true,u_<|(cH (eS l)<|aS c x<|aH y 65536).rq1,u_<|(cH (eS l)<|aS c x<|aH y 65536).rq2,u_<|(cH (eS l)<|aS c x<|aH y 65536).rq3,u_<|(cH (eS l)<|aS c x<|aH y 65536).rq4,u_<|(cH (eS l)<|aS c x<|aH y 65536).rq5,u_<|(cH (eS l)<|aS c x<|aH y 65536).rq6,u_<|(cH (eS l)<|aS c x<|aH y 65536).rq7,u_<|(cH (eS l)<|aS c x<|aH y 65536).rq8,b_<|(cH (eS l)<|aS c x<|aH y 65536).rq9,Eo l c x y] rfl (dV ?_))
  refine aF<|ez 2 [b_ true,u_<|(cH (eS l)<|aS c x<|aH y 65536).rq1,u_<|(cH (eS l)<|aS c x<|aH y 65536).rq2,u_<|(cH (eS l)<|aS c x<|aH y 65536).rq3,u_<|(cH (eS l)<|aS c x<|aH y 65536).rq4,u_<|(cH (eS l)<|aS c x<|aH y 65536).rq5,u_<|(cH (eS l)<|aS c x<|aH y 65536).rq6,u_<|(cH (eS l)<|aS c x<|aH y 65536).rq7,u_<|(cH (eS l)<|aS c x<|aH y 65536).rq8,b_<|(cH (eS l)<|aS c x<|aH y 65536).rq9,Eo l c x y] ?_
  show((K4 l c x y):Value)=(.agg (iE<|jO l c x y).toArray)
  unfold jO yG bG;simp_all[iE]
 refine az<|bY [5] 6<|eR 1 [.ld 3,.ld 3,.cq<|u_<|jN (aS c x<|aH y 65536) y] (rg 0 5) [(25,K3 c x y)] (o1<|qw<|Em (aS c x<|aH y 65536) y) ?_
 refine bF 5 rfl (dQ 2 [b_ true,u_<|(aS c x<|aH y 65536).rq1,u_<|(aS c x<|aH y 65536).rq2,u_<|(aS c x<|aH y 65536).rq3,u_<|(aS c x<|aH y 65536).rq4,u_<|(aS c x<|aH y 65536).rq5,u_<|(aS c x<|aH y 65536).rq6,u_<|(aS c x<|aH y 65536).rq7,u_<|(aS c x<|aH y 65536).rq8,b_<|(aS c x<|aH y 65536).rq9,u_<|jN (aS c x<|aH y 65536) y] rfl (dV ?_))
 refine aF<|ez 2 [b_ true,u_<|(aS c x<|aH y 65536).rq1,u_<|(aS c x<|aH y 65536).rq2,u_<|(aS c x<|aH y 65536).rq3,u_<|(aS c x<|aH y 65536).rq4,u_<|(aS c x<|aH y 65536).rq5,u_<|(aS c x<|aH y 65536).rq6,u_<|(aS c x<|aH y 65536).rq7,u_<|(aS c x<|aH y 65536).rq8,b_<|(aS c x<|aH y 65536).rq9,u_<|jN (aS c x<|aH y 65536) y] ?_
 show((K3 c x y):Value)=(.agg (iE<|jO l c x y).toArray)
 unfold jO yG bG;simp_all[iE]
abbrev K6(p0)(p1:Sh)(p2):=(aA p0 [b_ p1.sq1,u_ p1.sq2,u_ p1.sq3,u_ p1.sq4,u_ p1.sq5,u_ p1.sq6,u_ p1.sq7,u_ p1.sq8,u_ p1.sq9,b_ p1.sq10,u_<|jN (eS p1) p2] 221:V.aI)
abbrev Uc(p0:Sh)(p1):=(.agg #[b_ p0.sq1,u_ p0.sq2,u_ p0.sq3,u_ p0.sq4,u_ p0.sq5,u_ p0.sq6,u_ p0.sq7,u_ p0.sq8,u_ p0.sq9,b_ p0.sq10,u_<|jN (eS p0) p1]:Value)
theorem Ud(l:Sh)(x:Int)(w:World):
  CW 154 #[.agg (iE l).toArray,u_ x] w (.agg (iE<|jo l x).toArray):=by
 refine aU Tryz.func154 rfl (HS.nil w) (aC<|iK [.al,.al] [] (λb1 b2=>[(2,p_ b1),(4,p_ b2)]) (λb1 b2=>[aA b1 (iE l) 221,Ad b2]) ?_)
 intro b1 b2
 refine bS<|bB [.ld 0] [(6,b_ l.sq1)]<|iD l.sq1 (λe1=>?_)<|λe1=>?_
 ·refine aM<|gJ [.ld 0,.cq<|u_<|jN (eS l) x,.st 0] [] [] [(0,K6 b1 l x)] (o1<|qw<|Em (eS l) x)<|aC<|bL [.ld 0,.st 1] [] [(1,K6 b2 l x)]<|aF<|ez 1 [b_ l.sq1,u_ l.sq2,u_ l.sq3,u_ l.sq4,u_ l.sq5,u_ l.sq6,u_ l.sq7,u_ l.sq8,u_ l.sq9,b_ l.sq10,u_<|jN (eS l) x] ?_
  show((Uc l x):Value)=(.agg (iE<|jo l x).toArray)
  unfold jo;simp_all[iE]
 refine aO<|aC<|bL [.ld 0,.st 1] [] [(1,aA b2 (iE l) 221)]<|aF<|ez 1 (iE l) ?_
 show((.agg (iE l).toArray):Value)=(.agg (iE<|jo l x).toArray)
 unfold jo;simp_all[iE]
def rB:Li:=⟨false,0,0,0,0,0,0,0,0,false,0⟩
def eD(l:Li):Rn:=⟨l.uq2,l.uq3,l.uq4,l.uq5,l.uq6,l.uq7,l.uq8,l.uq9,l.uq10⟩
def jU(l:Li)(x:Int):Li:=if l.uq1 then{l with uq11:=i8 (eD l)<|aH x 65536} else l
def Ge(b:Bool)(r:Rn)(x:Int):Li:=⟨b,r.rq1,r.rq2,r.rq3,r.rq4,r.rq5,r.rq6,r.rq7,r.rq8,r.rq9,x⟩
def lg(l:Li)(c:Cv)(x y:Int):Li:=if kC c≤1 then rB else jU (Ge true (bG l.uq1 (eD l)<|aS c x<|aH y 65536) 0) y
abbrev Ue(p0:Li)(p1):=(.agg #[b_ p0.uq1,u_ p0.uq2,u_ p0.uq3,u_ p0.uq4,u_ p0.uq5,u_ p0.uq6,u_ p0.uq7,u_ p0.uq8,u_ p0.uq9,b_ p0.uq10,u_<|i8 (eD p0)<|aH p1 65536]:Value)
abbrev Uf(p0)(p1:Li)(p2):=(aA p0 [b_ p1.uq1,u_ p1.uq2,u_ p1.uq3,u_ p1.uq4,u_ p1.uq5,u_ p1.uq6,u_ p1.uq7,u_ p1.uq8,u_ p1.uq9,b_ p1.uq10,u_<|i8 (eD p1)<|aH p2 65536] 223:V.aI)
theorem Es(l:Li)(x:Int)(w:World):
  CW 155 #[.agg (gu l).toArray,u_ x] w (.agg (gu<|jU l x).toArray):=by
 refine aU Tryz.func155 rfl (HS.nil w) (aC<|iK [.al,.al] [] (λb1 b2=>[(2,p_ b1),(4,p_ b2)]) (λb1 b2=>[aA b1 (gu l) 223,aA b2 [b_ false,u_ 0,u_ 0,u_ 0,u_ 0,u_ 0,u_ 0,u_ 0,u_ 0,b_ false,u_ 0] 223]) ?_)
 intro b1 b2
 refine bS<|bB [.ld 0] [(6,b_ l.uq1)]<|iD l.uq1 (λe1=>?_)<|λe1=>?_
 ·refine bY [6] 7<|eR 1 [.ld 0,.cq<|.agg (cY<|aH x 65536).toArray,.cq<|u_<|i8 (eD l)<|aH x 65536] (rg 0 6) [(11,u_<|i8 (eD l)<|aH x 65536),(12,q_ b1 10)] (oc (qw<|sK x 65536)<|o1<|qw<|zZ (eD l)<|aH x 65536)<|bF 6 rfl (dQ 0 [u_<|i8 (eD l)<|aH x 65536] rfl (dV<|aC<|bL [.ld 0,.st 1] [(4,p_ b2)] [(1,Uf b2 l x)]<|aF<|ez 1 [b_ l.uq1,u_ l.uq2,u_ l.uq3,u_ l.uq4,u_ l.uq5,u_ l.uq6,u_ l.uq7,u_ l.uq8,u_ l.uq9,b_ l.uq10,u_<|i8 (eD l)<|aH x 65536] ?_))
  show((Ue l x):Value)=(.agg (gu<|jU l x).toArray)
  unfold jU;simp_all[gu]
 refine aO<|aC<|bL [.ld 0,.st 1] [] [(1,aA b2 (gu l) 223)]<|aF<|ez 1 (gu l) ?_
 show((.agg (gu l).toArray):Value)=(.agg (gu<|jU l x).toArray)
 unfold jU;simp_all[gu]
theorem K7(l:Li)(c:Cv)(x y:Int)(w:World):
  CW 150 #[.agg (gu l).toArray,.agg (de c).toArray,u_ x,u_ y] w (.agg (gu<|lg l c x y).toArray):=by
 refine aU Tryz.func150 rfl (HS.nil w) (aC<|nW [.al,.al,.al] [2,3,4,5,8] (λb1 b2 b3=>[(2,u_ x),(3,u_ y),(4,p_ b1),(5,p_ b2),(8,p_ b3)]) (λb1 b2 b3=>[aA b1 (gu l) 223,aA b2 (de c) 60,aA b3 [b_ false,u_ 0,u_ 0,u_ 0,u_ 0,u_ 0,u_ 0,u_ 0,u_ 0,b_ false,u_ 0] 223]) (λb1 b2 b3=>[]) (λ_ _ _=>T0) (λ_ _ _=>by kernel_rfl) (λb1 b2 b3=>trivial) ?_)
 intro b1 b2 b3
 refine aD<|jx [5,6] 7 [aA b1 (gu l) 223,aA b2 (de c) 60,aA b3 [b_ false,u_ 0,u_ 0,u_ 0,u_ 0,u_ 0,u_ 0,u_ 0,u_ 0,b_ false,u_ 0] 223]<|tG 2 [.ld 1,.cq<|.agg (cY<|aH y 65536).toArray,.cq<|.agg (cZ<|aS c x<|aH y 65536).toArray] (rg 0 5) [(3,u_ y),(4,p_ b1),(5,p_ b2),(8,p_ b3),(14,.agg (cZ<|aS c x<|aH y 65536).toArray)] (.refl _) (oc (qw<|sK y 65536)<|o1<|qw<|Dw c x<|aH y 65536)<|gR 5 rfl (nV 9 [u_ 0,u_ 0,u_ 0,u_ 0,u_ 0,u_ 0,u_ 0,u_ 0,b_ false] (by kernel_rfl) rfl (by kernel_rfl) (λb4=>[aA b1 (gu l) 223,aA b2 (de c) 60,aA b3 [b_ false,u_ 0,u_ 0,u_ 0,u_ 0,u_ 0,u_ 0,u_ 0,u_ 0,b_ false,u_ 0] 223,aA b4 [u_ 0,u_ 0,u_ 0,u_ 0,u_ 0,u_ 0,u_ 0,u_ 0,b_ false] 217]) (λ_=>rfl) ?_)
 intro b4
 refine gI (sd [3])<|gR 6 rfl (dQ 3 (cZ<|aS c x<|aH y 65536) rfl (gI (sd [3])<|je<|aD<|dF [.ld 1,.cq<|i_<|ai c.ka c.kb c.kc] [(4,p_ b1),(8,p_ b3),(9,p_ b4),(16,i_<|ai c.ka c.kb c.kc)] (o1<|qw<|tc c.ka c.kb c.kc)<|aR<|aD<|aR<|aR<|aD<|aD<|aE [(17,b_<|(ai c.ka c.kb c.kc)==0)]<|aL rfl (λe1=>?_) (λe1=>?_)))
 ·refine bg (bS<|bL [.st 2] [] [(2,aA b3 [b_ false,u_ 0,u_ 0,u_ 0,u_ 0,u_ 0,u_ 0,u_ 0,u_ 0,b_ false,u_ 0] 223)]<|aF<|ez 2 [b_ false,u_ 0,u_ 0,u_ 0,u_ 0,u_ 0,u_ 0,u_ 0,u_ 0,b_ false,u_ 0] ?_)
  (rw[show lg l c x y=_ from if_pos (by unfold kC;simp_all)];rfl)
 refine aO<|aE [(19,b_<|(ai c.ka c.kb c.kc)==1)]<|aL rfl (λe2=>?_) (λe2=>?_)
 ·have p2:=e2
  refine bg (qO<|wL rfl (Bn<|eF<|bS<|bL [.st 2] [] [(2,aA b3 [b_ false,u_ 0,u_ 0,u_ 0,u_ 0,u_ 0,u_ 0,u_ 0,u_ 0,b_ false,u_ 0] 223)]<|eF<|aF<|Gl<|ZE<|Gl<|fE [.agg #[b_ false,u_ 0,u_ 0,u_ 0,u_ 0,u_ 0,u_ 0,u_ 0,u_ 0,b_ false,u_ 0]] (λ_ w r s=>⟨dS 2 r s,trivial⟩) ?_))
  (rw[show lg l c x y=_ from if_pos (by unfold kC;simp_all)];rfl)
 refine aO<|bg<|wL rfl (wL rfl (bS<|bB [.ld 0] [(23,b_ l.uq1)]<|iD l.uq1 (λe3=>?_)<|λe3=>?_))
 ·refine aM<|gJ [.ld 0,.ld 3,.cq<|.agg (cZ<|cH (eD l)<|aS c x<|aH y 65536).toArray,.st 3] [] [] [(3,aA b4 (cZ<|cH (eD l)<|aS c x<|aH y 65536) 217)] (o1<|qw<|AX (eD l)<|aS c x<|aH y 65536)<|aC<|gJ [.ld 3,.cq<|.agg (gu<|jU (⟨true,(cH (eD l)<|aS c x<|aH y 65536).rq1,(cH (eD l)<|aS c x<|aH y 65536).rq2,(cH (eD l)<|aS c x<|aH y 65536).rq3,(cH (eD l)<|aS c x<|aH y 65536).rq4,(cH (eD l)<|aS c x<|aH y 65536).rq5,(cH (eD l)<|aS c x<|aH y 65536).rq6,(cH (eD l)<|aS c x<|aH y 65536).rq7,(cH (eD l)<|aS c x<|aH y 65536).rq8,(cH (eD l)<|aS c x<|aH y 65536).rq9,0⟩:Li) y).toArray,.st 2] [] [] [(2,aA b3 (gu<|jU (⟨true,(cH (eD l)<|aS c x<|aH y 65536).rq1,(cH (eD l)<|aS c x<|aH y 65536).rq2,(cH (eD l)<|aS c x<|aH y 65536).rq3,(cH (eD l)<|aS c x<|aH y 65536).rq4,(cH (eD l)<|aS c x<|aH y 65536).rq5,(cH (eD l)<|aS c x<|aH y 65536).rq6,(cH (eD l)<|aS c x<|aH y 65536).rq7,(cH (eD l)<|aS c x<|aH y 65536).rq8,(cH (eD l)<|aS c x<|aH y 65536).rq9,0⟩:Li) y) 223)] (o1<|qw<|Es (⟨true,(cH (eD l)<|aS c x<|aH y 65536).rq1,(cH (eD l)<|aS c x<|aH y 65536).rq2,(cH (eD l)<|aS c x<|aH y 65536).rq3,(cH (eD l)<|aS c x<|aH y 65536).rq4,(cH (eD l)<|aS c x<|aH y 65536).rq5,(cH (eD l)<|aS c x<|aH y 65536).rq6,(cH (eD l)<|aS c x<|aH y 65536).rq7,(cH (eD l)<|aS c x<|aH y 65536).rq8,(cH (eD l)<|aS c x<|aH y 65536).rq9,0⟩:Li) y)<|aF<|ez 2 (gu<|jU (⟨true,(cH (eD l)<|aS c x<|aH y 65536).rq1,(cH (eD l)<|aS c x<|aH y 65536).rq2,(cH (eD l)<|aS c x<|aH y 65536).rq3,(cH (eD l)<|aS c x<|aH y 65536).rq4,(cH (eD l)<|aS c x<|aH y 65536).rq5,(cH (eD l)<|aS c x<|aH y 65536).rq6,(cH (eD l)<|aS c x<|aH y 65536).rq7,(cH (eD l)<|aS c x<|aH y 65536).rq8,(cH (eD l)<|aS c x<|aH y 65536).rq9,0⟩:Li) y) ?_
  show((.agg (gu<|jU (⟨true,(cH (eD l)<|aS c x<|aH y 65536).rq1,(cH (eD l)<|aS c x<|aH y 65536).rq2,(cH (eD l)<|aS c x<|aH y 65536).rq3,(cH (eD l)<|aS c x<|aH y 65536).rq4,(cH (eD l)<|aS c x<|aH y 65536).rq5,(cH (eD l)<|aS c x<|aH y 65536).rq6,(cH (eD l)<|aS c x<|aH y 65536).rq7,(cH (eD l)<|aS c x<|aH y 65536).rq8,(cH (eD l)<|aS c x<|aH y 65536).rq9,0⟩:Li) y).toArray):Value)=(.agg (gu<|lg l c x y).toArray)
  (rw[show lg l c x y=_ from if_neg (by unfold kC;have hr_:=rR c.ka c.kb c.kc;simp_all;omega)];unfold Ge bG;simp_all;done)
 refine aO<|aC<|gJ [.ld 3,.cq<|.agg (gu<|jU (⟨true,(aS c x<|aH y 65536).rq1,(aS c x<|aH y 65536).rq2,(aS c x<|aH y 65536).rq3,(aS c x<|aH y 65536).rq4,(aS c x<|aH y 65536).rq5,(aS c x<|aH y 65536).rq6,(aS c x<|aH y 65536).rq7,(aS c x<|aH y 65536).rq8,(aS c x<|aH y 65536).rq9,0⟩:Li) y).toArray,.st 2] [] [] [(2,aA b3 (gu<|jU (⟨true,(aS c x<|aH y 65536).rq1,(aS c x<|aH y 65536).rq2,(aS c x<|aH y 65536).rq3,(aS c x<|aH y 65536).rq4,(aS c x<|aH y 65536).rq5,(aS c x<|aH y 65536).rq6,(aS c x<|aH y 65536).rq7,(aS c x<|aH y 65536).rq8,(aS c x<|aH y 65536).rq9,0⟩:Li) y) 223)] (o1<|qw<|Es (⟨true,(aS c x<|aH y 65536).rq1,(aS c x<|aH y 65536).rq2,(aS c x<|aH y 65536).rq3,(aS c x<|aH y 65536).rq4,(aS c x<|aH y 65536).rq5,(aS c x<|aH y 65536).rq6,(aS c x<|aH y 65536).rq7,(aS c x<|aH y 65536).rq8,(aS c x<|aH y 65536).rq9,0⟩:Li) y)<|aF<|ez 2 (gu<|jU (⟨true,(aS c x<|aH y 65536).rq1,(aS c x<|aH y 65536).rq2,(aS c x<|aH y 65536).rq3,(aS c x<|aH y 65536).rq4,(aS c x<|aH y 65536).rq5,(aS c x<|aH y 65536).rq6,(aS c x<|aH y 65536).rq7,(aS c x<|aH y 65536).rq8,(aS c x<|aH y 65536).rq9,0⟩:Li) y) ?_
 show((.agg (gu<|jU (⟨true,(aS c x<|aH y 65536).rq1,(aS c x<|aH y 65536).rq2,(aS c x<|aH y 65536).rq3,(aS c x<|aH y 65536).rq4,(aS c x<|aH y 65536).rq5,(aS c x<|aH y 65536).rq6,(aS c x<|aH y 65536).rq7,(aS c x<|aH y 65536).rq8,(aS c x<|aH y 65536).rq9,0⟩:Li) y).toArray):Value)=(.agg (gu<|lg l c x y).toArray)
 (rw[show lg l c x y=_ from if_neg (by unfold kC;have hr_:=rR c.ka c.kb c.kc;simp_all;omega)];unfold Ge bG;simp_all;done)
abbrev Ae(p0:Pk):=(b_ ((decide (p0.qn≥1))&&(decide (p0.qn≤16384))):Value)
theorem Ug(p:Pk)(hp:1≤p.qn∧p.qn≤16384)(w:World):
  CW 158 #[.agg #[u_ p.qi,i_ p.qn,w_ p.qa,w_ p.qb,w_ p.qc,w_ p.qd],i_ 16384] w (i_ 0):=by
 refine aU Tryz.func158 rfl (HS.nil w) (aC<|dL [.al] [] (λb1=>[(2,p_ b1)]) (λb1=>aA b1 [u_ p.qi,i_ p.qn,w_ p.qa,w_ p.qb,w_ p.qc,w_ p.qd] 45) ?_)
 intro b1
 refine aD<|aR<|aC<|cV [.p] [(6,i_ 16384)]<|aG<|eM (some 7) [i_ 16384,i_ 16384] Tryz.func219 rfl (aE []<|(aE [(4,b_ true)]<|aF<|d6 [b_ true]<|aQ [(2,p_ b1),(5,b_ false)]<|bM<|aC<|an 3 [.ld 0] [(11,i_ p.qn),(12,i_ 16384)]<|aG<|eM (some 13) [i_ p.qn,i_ 16384] Tryz.func219 rfl (aE []<|aC<|bB [.o,.cl] [(4,Ae p)]<|aF<|d6 [Ae p]<|j6 [] (sd [0])<|aQ [(9,b_ (!((decide (p.qn≥1))&&(decide (p.qn≤16384)))))]<|aL rfl (λe1=>?_) (λe1=>?_))))
 ·exact absurd e1<|by(intro h_;simp at h_;omega)
 refine aO<|aE [(4,i_ 0)]<|aF<|bJ [i_ 0] ?_
 rfl
theorem QP(p:Pk)(t:Int)(hp:1≤p.qn∧p.qn≤16384)(ht:1≤t∧t≤65536)(w:World):
  CW 159 #[.agg #[u_ p.qi,i_ p.qn,w_ p.qa,w_ p.qb,w_ p.qc,w_ p.qd],i_ t] w (.tuple #[u_<|p.qn*t,i_ 0]):=by
 have h1_:p.qn*t≤16384*65536:=Int.mul_le_mul (by omega) (by omega) (by omega)<|by omega
 have h2_:0≤p.qn*t:=Int.mul_nonneg (by omega)<|by omega
 refine aU Tryz.func159 rfl (HS.nil w) (aC<|dL [.al] [] (λb1=>[(2,p_ b1)]) (λb1=>aA b1 [u_ p.qi,i_ p.qn,w_ p.qa,w_ p.qb,w_ p.qc,w_ p.qd] 45) ?_)
 intro b1
 refine bS<|cV [.p] [(6,i_ t)]<|aG<|eM (some 7) [i_ t,i_ 65536] Tryz.func219 rfl (aE []<|aC<|bB [.o,.cl] [(4,b_<|(decide (t≥1))&&(decide (t≤65536)))]<|aF<|d6 [b_<|(decide (t≥1))&&(decide (t≤65536))]<|an 2 [] [(2,p_ b1),(9,b_ (!((decide (t≥1))&&(decide (t≤65536)))))]<|i5 (!((decide (t≥1))&&(decide (t≤65536)))) (λe1=>?_)<|λe1=>?_)
 ·refine dO 9 (b_ true) (gB e1)<|bB [.sk,.sk,.sk,.sk] [(14,b_ true)]<|dU<|aE [(4,u_ 0),(5,i_ 1)]<|aF<|bJ [u_ 0,i_ 1] ?_
  simp_all
 refine dO 9 (b_ false) (gB e1)<|an 2 [.ld 0] [(11,i_ p.qn)]<|aG<|eM (some 12) [i_ p.qn,i_ 16384] Tryz.func219 rfl (aE []<|aC<|bB [.o,.cl] [(4,Ae p)]<|(aF<|d6 [Ae p]<|aQ [(14,b_ (!((decide (p.qn≥1))&&(decide (p.qn≤16384)))))]<|aL rfl (λe2=>?_) (λe2=>?_)))
 ·refine aE [(4,u_ 0),(5,i_ 1)]<|aF<|bJ [u_ 0,i_ 1] ?_
  simp_all
 refine aO<|dF [.ld 0,.w p.qn,.w t,.w<|p.qn*t] [(4,u_<|p.qn*t),(5,i_ 0)] (oc (wv p.qn<|by omega)<|oc (wv t<|by omega)<|o1<|wv (p.qn*t)<|by omega)<|aF<|bJ [u_<|p.qn*t,i_ 0] ?_
 rfl
theorem Uh(t:Int)(ht:1≤t∧t≤65536):
  CS 42 #[i_ t] [] (λ(bl:Nat)=>(.tuple #[p_ bl,i_ 0])) (λ_=>True) λbl=>[aA bl [u_ 0,u_ 0,u_ 0,i_ t,u_ 0] 146]:=by
 intro w hs
 refine aU Tryz.func42 rfl hs (aE []<|bS<|bB [.o,.cl] [(9,b_<|(decide (t<1))||(decide (t>65536)))]<|aL rfl (λe1=>?_) (λe1=>?_))
 ·exact absurd e1<|by(intro h_;simp at h_;omega)
 refine aO<|aC<|dL [.al] [] (λb1=>[(2,p_ b1),(3,i_ 0)]) (λb1=>aA b1 [u_ 0,u_ 0,u_ 0,i_ t,u_ 0] 146) ?_
 intro b1
 refine aF<|bR [0] [p_ b1,i_ 0] (b1) ?_ ?_
 ·rfl
 trivial
theorem Dx(bl:Nat)(c1 c2 c3 t un:Int)(nw:Int)(w:World)(r0:(aA bl [u_ c1,u_ c2,u_ c3,i_ t,u_ un] 146).holds w):
  CW 47 #[p_ bl,u_ nw] w (b_<|decide (nw≥un)):=by
 refine aU Tryz.func47 rfl (HS.nil w) (aD ?_)
 refine bZ []<|dF [.rd [u_ un]] [(4,b_<|decide (nw≥un))] (o1<|ro ⟨bl,4,none⟩ (vs:=[u_ un])<|cE r0 rfl)<|aF<|bJ [b_<|decide (nw≥un)] ?_
 rfl
theorem QQ(bl:Nat)(c1 c2 c3 t un:Int)(w:World)(r0:(aA bl [u_ c1,u_ c2,u_ c3,i_ t,u_ un] 146).holds w):
  CW 118 #[p_ bl] w (u_ un):=by
 refine aU Tryz.func118 rfl (HS.nil w) (aE []<|aD<|aE [(4,b_ false)]<|bM<|aO<|dF [.rd [u_ un]] [(2,u_ un)] (o1<|ro ⟨bl,4,none⟩ (vs:=[u_ un])<|cE r0 rfl)<|aF<|bJ [u_ un] ?_)
 rfl
theorem SB(bl:Nat)(c1 c2 c3 t un:Int)(nw:Int)(p:Pk)(hw:0≤nw∧nw≤4611686018427387904)(hp:1≤p.qn∧p.qn≤16384)(ht:1≤t∧t≤65536)(hu:un≤nw):
  CS 115 #[p_ bl,u_ nw,.agg #[u_ p.qi,i_ p.qn,w_ p.qa,w_ p.qb,w_ p.qc,w_ p.qd]] [aA bl [u_ c1,u_ c2,u_ c3,i_ t,u_ un] 146] (λ((z1,z2,z3):Int×Int×Int)=>(.tuple #[u_<|nw+p.qn*t,i_ 0])) (λ_=>True) λ(z1,z2,z3)=>[aA bl [u_ z1,u_ z2,u_ z3,i_ t,u_<|nw+p.qn*t] 146]:=by
 intro w hs
 have h1_:p.qn*t≤16384*65536:=Int.mul_le_mul (by omega) (by omega) (by omega)<|by omega
 have h2_:1≤p.qn*t:=Int.le_trans (by omega)<|Int.mul_le_mul hp.1 ht.1 (by omega)<|by omega
 refine aU Tryz.func115 rfl hs (aC<|dL [.al] [] (λb1=>[(5,p_ b1)]) (λb1=>aA b1 [u_ p.qi,i_ p.qn,w_ p.qa,w_ p.qb,w_ p.qc,w_ p.qd] 45) ?_)
 intro b1
 refine aD<|aR<|aE [(10,b_ false)]<|bM<|aE [(13,b_<|decide (nw>4611686018427387904))]<|aL rfl (λe1=>?_) (λe1=>?_)
 ·exact absurd e1<|by(intro h_;simp at h_;omega)
 have p1:=Zh e1
 refine dF [.ld 1,.cq<|i_ 0] [(16,b_ false)] (o1<|qo<|λw s=>Ug p ‹_› w)<|bM<|dF [.cq<|b_<|decide (nw≥un)] [(20,b_ (!(decide (nw≥un))))] (o1<|qo<|λw s=>Dx bl c1 c2 c3 t un nw w<|s.mem (i:=0) rfl)<|aL rfl (λe2=>?_) (λe2=>?_)
 ·exact absurd e2<|by(intro h_;simp at h_;omega)
 refine aO<|aD<|jw [.ld 1,.ld 0,.cq<|.tuple #[u_<|p.qn*t,i_ 0]] (rg 0 11) [] [(8,u_<|p.qn*t)] (o1<|qo<|λw s=>QP p t ‹_› ‹_› w)<|aC<|bL [.st 0] [] [(0,aA bl [u_ c1,u_ c2,u_ c3,i_ t,u_<|wU<|nw+(p.qn*t)] 146)]<|aD<|bY [6] 7<|cQ 1 [.ld 1] (rg 0 6) [(42,p_ bl),(44,i_ p.qn),(45,u_<|p.qn*t)]<|bF 6 rfl (eM (some 46) [p_ bl,i_ p.qn,u_<|p.qn*t] Tryz.func160 rfl (aC<|bL [.ld 0,.st 0] [] [(0,aA bl [u_<|wU<|c1+1,u_ c2,u_ c3,i_ t,u_<|wU<|nw+(p.qn*t)] 146)]<|aC<|bL [.ld 0,.st 0] [] [(0,aA bl [u_<|wU<|c1+1,u_<|wU<|c2+(wU<|p.qn),u_ c3,i_ t,u_<|wU<|nw+(p.qn*t)] 146)]<|aM<|bL [.ld 0,.st 0] [] [(0,aA bl [u_<|wU<|c1+1,u_<|wU<|c2+(wU<|p.qn),u_<|wU<|c3+(p.qn*t),i_ t,u_<|wU<|nw+(p.qn*t)] 146)]<|u0 [] (λ_ w r s=>trivial)<|pG (by kernel_rfl)<|j6 [aA bl [u_<|wU<|c1+1,u_<|wU<|c2+(wU<|p.qn),u_<|wU<|c3+(p.qn*t),i_ t,u_<|wU<|nw+(p.qn*t)] 146] (sd [1])<|cb<|eN<|aC<|bB [.ld 0] [(6,u_<|wU<|nw+(p.qn*t)),(7,i_ 0)]<|aF<|ca 0 (aA bl [u_<|wU<|c1+1,u_<|wU<|c2+(wU<|p.qn),u_<|wU<|c3+(p.qn*t),i_ t,u_<|nw+p.qn*t] 146) rfl (gx<|cc rfl (cc rfl (cc rfl (cc rfl (cc (congrArg u_ (by exact wrap_u64 (by constructor<;>omega):wU (nw+(p.qn*t))=(nw+p.qn*t))) rfl))))) ?_))
 refine bR [0] [u_<|wU<|nw+(p.qn*t),i_ 0] (wU<|c1+1,wU<|c2+(wU<|p.qn),wU<|c3+(p.qn*t)) ?_ ?_
 ·show((.tuple #[u_<|IntKind.u64.wrap<|nw+(p.qn*t),i_ 0]):Value)=(.tuple #[u_<|nw+p.qn*t,i_ 0])
  (rw[wrap_u64 (by constructor<;>omega)])
 trivial
def s5(a b:Int):Int:=if a<b then b else a
def po(a b c:Int):Int:=cF 9223372036854775808<|s5 (s5 a b) c
abbrev rf(p0):=(.slice (some ⟨p0,0,none⟩) 2 2:Value)
abbrev rj(p0):=(.slice (some ⟨p0,0,none⟩) 1 1:Value)
abbrev ji(p0):=(u_ (cF 9223372036854775808 p0):Value)
theorem SC(a b c:Int):
  CS 117 #[u_ a,u_ b,u_ c] [] (λ(zz:Unit)=>(u_<|po a b c)) (λ_=>True) λ_=>[]:=by
 intro w hs
 refine aU Tryz.func117 rfl hs (aE []<|aC<|an 3 [] [(7,u_ a),(8,u_ b),(9,u_ c)]<|aG<|eB 10 (e:=40) [u_ b,u_ c] (by kernel_rfl) rfl (λ_=>by kernel_rfl) _ (λ_=>rfl) ?_)
 intro b1
 refine aG<|eM (some 11) [u_ a,rf b1] Tryz.func162 rfl (aE []<|aD<|aE [(7,rf b1),(8,i_ 2),(9,i_ 0)]<|aR<|i4 400<|cd (m:=399)<|aE [(10,b_ true)]<|aD<|dU<|az<|aR<|aC<|aG<|cC (some 11) (p_ b1) (lJ (off:=0) (sz:=1) (el:=40) (e:=0) (len:=2) rfl rfl rfl (by kernel_rfl) (by kernel_rfl) (by omega))<|bB [.ld 0] [(6,u_ b)]<|aC<|an 2 [] [(13,u_ a),(14,u_ b)]<|aG<|eM (some 15) [u_ a,u_ b] Tryz.func220 rfl (aE []<|aC<|cV [.p] [(5,u_ a)]<|aG<|eM (some 6) [u_ a] Tryz.func256 rfl (aE []<|(aE [(2,b_<|a !=a)]<|aF<|d6 [b_<|a !=a]<|k9 [.p] [(0,u_ a),(1,u_ b),(7,b_<|a !=a)]<|i5 (a !=a) (λe1=>?_)<|λe1=>?_))))
 ·exact absurd e1<|by simp
 refine dO 7 (b_ false) (gB e1)<|bB [.sk,.sk,.sk] [(4,b_<|decide (a<b))]<|aF<|d6 [b_<|decide (a<b)]<|eE<|aL rfl (λe2=>?_) (λe2=>?_)
 ·have p2:=Zg e2
  refine aM<|da [] [(0,u_ b),(7,rf b1),(8,i_ 2),(9,i_ 0)]<|bZ [(9,i_ 1)]<|cd (m:=398)<|aE [(10,b_ true)]<|(aD<|dU<|az<|aR<|aC<|aG<|cC (some 11) (q_ b1 1) (lJ (off:=0) (sz:=1) (el:=40) (e:=1) (len:=2) rfl rfl rfl (by kernel_rfl) (by kernel_rfl) (by omega))<|bB [.ld 0] [(6,u_ c)]<|(aC<|an 2 [] [(13,u_ b),(14,u_ c)]<|aG<|eM (some 15) [u_ b,u_ c] Tryz.func220 rfl (aE []<|aC<|cV [.p] [(5,u_ b)]<|aG<|eM (some 6) [u_ b] Tryz.func256 rfl (aE []<|aE [(2,b_<|b !=b)]<|aF<|d6 [b_<|b !=b]<|k9 [.p] [(0,u_ b),(1,u_ c),(7,b_<|b !=b)]<|i5 (b !=b) (λe3=>?_)<|λe3=>?_))))
  ·exact absurd e3<|by simp
  refine dO 7 (b_ false) (gB e3)<|bB [.sk,.sk,.sk] [(4,b_<|decide (b<c))]<|aF<|d6 [b_<|decide (b<c)]<|eE<|aL rfl (λe4=>?_) (λe4=>?_)
  ·have p4:=Zg e4
   refine aM<|da [] [(0,u_ c),(7,rf b1),(8,i_ 2),(9,i_ 1)]<|bZ [(9,i_ 2)]<|cd (m:=397)<|aE [(10,b_ false)]<|(aD<|bM<|bg<|aE [(4,u_ c)]<|aF<|d6 [u_ c]<|aG<|eB 12 (e:=40) [u_ c] (by kernel_rfl) rfl (λ_=>by kernel_rfl) _ (λ_=>rfl) ?_)
   intro b2
   refine aG<|eM (some 13) [rj b2] Tryz.func161 rfl (aE []<|aE [(3,u_ 9223372036854775808)]<|aD<|aE [(6,rj b2),(7,i_ 1),(8,i_ 0)]<|aR<|i4 400<|cd (m:=399)<|aE [(9,b_ true)]<|aD<|dU<|az<|aR<|aC<|aG<|cC (some 10) (p_ b2) (lJ (off:=0) (sz:=1) (el:=40) (e:=0) (len:=1) rfl rfl rfl (by kernel_rfl) (by kernel_rfl) (by omega))<|bB [.ld 1] [(5,u_ c)]<|bZ [(3,ji c)]<|(bZ [(8,i_ 1)]<|cd (m:=398)<|aE [(9,b_ false)]<|aD<|bM<|bg<|aE [(2,ji c)]<|aF<|d6 [ji c]<|da [] [(6,ji c)]<|aF<|bR [] [ji c] () ?_ ?_))
   ·unfold po s5;(repeat(rw[if_pos<|by omega]));(try rfl)
   trivial
  have p4:=Zh e4
  refine aO<|aM<|da [] [(0,u_ b),(7,rf b1),(8,i_ 2),(9,i_ 2)]<|cd (m:=397)<|aE [(10,b_ false)]<|aD<|bM<|bg<|aE [(4,u_ b)]<|aF<|d6 [u_ b]<|aG<|eB 12 (e:=40) [u_ b] (by kernel_rfl) rfl (λ_=>by kernel_rfl) _ (λ_=>rfl) ?_
  intro b3
  refine aG<|eM (some 13) [rj b3] Tryz.func161 rfl (aE []<|aE [(3,u_ 9223372036854775808)]<|aD<|aE [(6,rj b3),(7,i_ 1),(8,i_ 0)]<|aR<|i4 400<|cd (m:=399)<|aE [(9,b_ true)]<|aD<|dU<|az<|aR<|aC<|aG<|cC (some 10) (p_ b3) (lJ (off:=0) (sz:=1) (el:=40) (e:=0) (len:=1) rfl rfl rfl (by kernel_rfl) (by kernel_rfl) (by omega))<|bB [.ld 1] [(5,u_ b)]<|bZ [(3,ji b)]<|(bZ [(8,i_ 1)]<|cd (m:=398)<|aE [(9,b_ false)]<|aD<|bM<|bg<|aE [(2,ji b)]<|aF<|d6 [ji b]<|da [] [(6,ji b)]<|aF<|bR [] [ji b] () ?_ ?_))
  ·unfold po s5;(repeat(first|rw[if_pos ‹_›]|rw[if_neg<|by omega]));(try rfl)
  trivial
 have p2:=Zh e2
 refine aO<|aM<|da [] [(0,u_ a),(7,rf b1),(8,i_ 2),(9,i_ 1)]<|cd (m:=398)<|aE [(10,b_ true)]<|aD<|dU<|az<|aR<|aC<|aG<|cC (some 11) (q_ b1 1) (lJ (off:=0) (sz:=1) (el:=40) (e:=1) (len:=2) rfl rfl rfl (by kernel_rfl) (by kernel_rfl) (by omega))<|bB [.ld 0] [(6,u_ c)]<|aC<|an 2 [] [(13,u_ a),(14,u_ c)]<|aG<|eM (some 15) [u_ a,u_ c] Tryz.func220 rfl (aE []<|aC<|cV [.p] [(5,u_ a)]<|aG<|eM (some 6) [u_ a] Tryz.func256 rfl (aE []<|aE [(2,b_<|a !=a)]<|aF<|d6 [b_<|a !=a]<|k9 [.p] [(0,u_ a),(1,u_ c),(7,b_<|a !=a)]<|i5 (a !=a) (λe5=>?_)<|λe5=>?_))
 ·exact absurd e5<|by simp
 refine dO 7 (b_ false) (gB e5)<|bB [.sk,.sk,.sk] [(4,b_<|decide (a<c))]<|aF<|d6 [b_<|decide (a<c)]<|eE<|aL rfl (λe6=>?_) (λe6=>?_)
 ·have p6:=Zg e6
  refine bZ [(0,u_ c),(7,rf b1),(8,i_ 2),(9,i_ 1)]<|bZ [(9,i_ 2)]<|cd (m:=397)<|aE [(10,b_ false)]<|(aD<|bM<|bg<|aE [(4,u_ c)]<|aF<|d6 [u_ c]<|aG<|eB 12 (e:=40) [u_ c] (by kernel_rfl) rfl (λ_=>by kernel_rfl) _ (λ_=>rfl) ?_)
  intro b4
  refine aG<|eM (some 13) [rj b4] Tryz.func161 rfl (aE []<|aE [(3,u_ 9223372036854775808)]<|aD<|aE [(6,rj b4),(7,i_ 1),(8,i_ 0)]<|aR<|i4 400<|cd (m:=399)<|aE [(9,b_ true)]<|aD<|dU<|az<|aR<|aC<|aG<|cC (some 10) (p_ b4) (lJ (off:=0) (sz:=1) (el:=40) (e:=0) (len:=1) rfl rfl rfl (by kernel_rfl) (by kernel_rfl) (by omega))<|bB [.ld 1] [(5,u_ c)]<|bZ [(3,ji c)]<|(bZ [(8,i_ 1)]<|cd (m:=398)<|aE [(9,b_ false)]<|aD<|bM<|bg<|aE [(2,ji c)]<|aF<|d6 [ji c]<|aQ [(6,ji c)]<|aF<|bR [] [ji c] () ?_ ?_))
  ·unfold po s5;(repeat(rw[if_pos<|by omega]));(try rfl)
  trivial
 have p6:=Zh e6
 refine aO<|bZ [(7,rf b1),(8,i_ 2),(9,i_ 2)]<|cd (m:=397)<|aE [(10,b_ false)]<|aD<|bM<|bg<|aE [(4,u_ a)]<|aF<|d6 [u_ a]<|aG<|eB 12 (e:=40) [u_ a] (by kernel_rfl) rfl (λ_=>by kernel_rfl) _ (λ_=>rfl) ?_
 intro b5
 refine aG<|eM (some 13) [rj b5] Tryz.func161 rfl (aE []<|aE [(3,u_ 9223372036854775808)]<|aD<|aE [(6,rj b5),(7,i_ 1),(8,i_ 0)]<|aR<|i4 400<|cd (m:=399)<|aE [(9,b_ true)]<|aD<|dU<|az<|aR<|aC<|aG<|cC (some 10) (p_ b5) (lJ (off:=0) (sz:=1) (el:=40) (e:=0) (len:=1) rfl rfl rfl (by kernel_rfl) (by kernel_rfl) (by omega))<|bB [.ld 1] [(5,u_ a)]<|bZ [(3,ji a)]<|(bZ [(8,i_ 1)]<|cd (m:=398)<|aE [(9,b_ false)]<|aD<|bM<|bg<|aE [(2,ji a)]<|aF<|d6 [ji a]<|aQ [(6,ji a)]<|aF<|bR [] [ji a] () ?_ ?_))
 ·unfold po s5;(repeat(rw[if_neg<|by omega]));(try rfl)
 trivial
end Go.Proofs.YtobgjpigngoggaaGreat
namespace Go.Proofs.YtobgjpigngoggaaGreat
open Go V
def gq(x:Int):List Value:=[(i_ x)]
theorem dG(x:Int):(gq x).length=1:=rfl
theorem j9(x:Int):(gq x).all Value.oneCell'=true:=rfl
abbrev sI(A:k0)(xs:Wx)(c:Nat):V.aI:=sl A xs.length c 3 1<|V.aP gq xs
structure Cl where
 hi:Int
 hp:Int
 hl:Bool
 ra:Int
 rb:Int
 rc:Int
 la:Int
 lb:Int
 lc:Int
 ua:Int
 ub:Int
 uc:Int
 hk:Int
 hq:Int
 deriving Inhabited,DecidableEq
def aX(x:Cl):List Value:=[(i_ x.hi),(i_ x.hp),(b_ x.hl),(u_ x.ra),(u_ x.rb),(u_ x.rc),(u_ x.la),(u_ x.lb),(u_ x.lc),(u_ x.ua),(u_ x.ub),(u_ x.uc),(i_ x.hk),(i_ x.hq)]
def cG:Cl:=⟨0,0,false,0,0,0,0,0,0,0,0,0,0,0⟩
theorem nD:jk Tryz.prog 3 (λk:Int=>i_ k):=yh<|by kernel_rfl
def gb(l:List Int):List Int:=l.mergeSort λx y=>decide (x≤y)
def bf(kv:List (Int×Cl))(f:Cl→Bool)(seen:List Nat):List Int:=seen.filterMap λj=>match kv[j]? with|some p=>if f p.2 then some p.1 else none|none=>none
variable{kv:hV Cl}{f:Cl→Bool}{seen:E6}{j:Nat}
theorem rp{k:Int}{v:Cl}(h:kv[j]? =some (k,v))(hf:f v=true):bf kv f seen++[k]=bf kv f (seen++[j]):=by unfold bf;rw[List.filterMap_append];simp[h,hf]
theorem vH{k:Int}{v:Cl}(h:kv[j]? =some (k,v))(hf:f v=false):bf kv f seen=bf kv f (seen++[j]):=by unfold bf;rw[List.filterMap_append];simp[h,hf]
theorem yy(kv:hV Cl)(f:Cl→Bool)(seen:E6):(bf kv f seen).length≤seen.length:=List.length_filterMap_le _ _
theorem ue: ∀{n:Nat}{l:E6},l.Nodup→(∀j∈l,j<n)→l.length≤n
 |0,l,_,h=>by
  cases l with
  |nil=>simp
  |cons a l=>exact absurd (h a<|by simp)<|by omega
 |n+1,l,hn,h=>by
  have h1:=ue (n:=n) (l:=l.erase n) (hn.erase n) (λj hj=>by have h2:=(hn.mem_erase_iff).1 hj;have:=h j h2.2;have:=h2.1;omega)
  rw[List.length_erase] at h1;split at h1<;>omega
def aV(kv:List (Int×Cl))(f:Cl→Bool):List Int:=gb ((kv.filter λp=>f p.2).map (·.1))
theorem HT{a b:Wx}(h:a.Perm b):gb a=gb b:=by
 have tr: ∀a b c:Int,decide (a≤b)=true→decide (b≤c)=true→decide (a≤c)=true:=λa b c h1 h2=>by simp only[decide_eq_true_eq] at*;omega
 have to: ∀a b:Int,(decide (a≤b)||decide (b≤a))=true:=λa b=>by simp only[Bool.or_eq_true,decide_eq_true_eq];omega
 unfold gb
 refine List.Perm.eq_of_pairwise (le:=λa b:Int=>decide (a≤b)=true) (λa b _ _ h1 h2=>?_) (List.pairwise_mergeSort tr to _) (List.pairwise_mergeSort tr to _)<|((List.mergeSort_perm _ _).trans h).trans (List.mergeSort_perm _ _).symm
 simp only[decide_eq_true_eq] at h1 h2;omega
theorem HU(f:Cl→Bool): ∀(kv:hV Cl),bf kv f (List.range kv.length)=(kv.filter λp=>f p.2).map (·.1)
 |[]=>rfl
 |p::kv=>by
  have ih:=HU f kv
  unfold bf at ih⊢
  rw[List.length_cons,List.range_succ_eq_map,List.filterMap_cons,List.filterMap_map]
  have e:((λj=>match(p::kv)[j]? with|some p=>if f p.2 then some p.1 else none|none=>none)∘Nat.succ)=λj=>match kv[j]? with|some p=>if f p.2 then some p.1 else none|none=>none:=by
   funext j;simp
  rw[e,ih];simp only[List.getElem?_cons_zero,List.filter_cons]
  cases f p.2<;>simp
theorem tf(hn:seen.Nodup)(hb: ∀j∈seen,j<kv.length)(ha: ∀j,j<kv.length→j∈seen):gb (bf kv f seen)=aV kv f:=by
 unfold aV;rw[←HU];refine HT ?_
 have hp:seen.Perm (List.range kv.length):=(List.perm_ext_iff_of_nodup hn List.nodup_range).2 λj=>by rw[List.mem_range];exact⟨hb j,ha j⟩
 exact hp.filterMap _
theorem pM(l:Wx):(gb l).length=l.length:=by unfold gb;simp
theorem ja{p:Int×Cl}(hn:seen.Nodup)(hb: ∀j∈seen,j<kv.length)(hj:kv[j]? =some p)(hs:j∉seen):(seen++[j]).Nodup∧(∀i∈seen++[j],i<kv.length)∧seen.length<kv.length:=by
 have hl:=(Zf.1 hj).1
 have h1:(seen++[j]).Nodup:=List.nodup_append.2 ⟨hn,by simp,λa ha b hb e=>by simp at hb;subst hb;subst e;exact hs ha⟩
 have h2: ∀i∈seen++[j],i<kv.length:=λi hi=>by
  rcases List.mem_append.1 hi with hi|hi
  ·exact hb i hi
  ·simp at hi;omega
 have:=ue h1 h2
 exact⟨h1,h2,by simp at this;omega⟩
theorem QR:gb []=[]:=by simp[gb]
abbrev cN(b:Nat)(kv:hV Cl):V.aI:=bH (λk:Int=>i_ k) (λv_:Cl=>(.agg (aX v_).toArray)) b kv
open Go.RowKit Go.Maps Go.Sort Go.Shelf
def Tryz.sortA_ren:Go.Shelf.Ren:=⟨λ|5=>96|8=>140|7=>139|19=>192|20=>193|10=>183|11=>184|12=>185|13=>186|14=>187|15=>188|16=>189|17=>190|18=>191|30=>236|31=>237|32=>238|33=>239|34=>240|35=>241|40=>260|n=>n,λ|23=>65|25=>3|3=>3|32=>263|22=>65|0=>0|44=>312|46=>40|4=>4|36=>305|35=>304|41=>152|5=>5|9=>9|53=>348|57=>351|63=>371|64=>372|n=>n,λ|n=>n⟩
theorem Tryz.sortA:Go.Proofs.SlLaysM.n5 Tryz.prog Tryz.sortA_ren:={
 mixed:=by kernel_rfl,
 f5:=⟨Tryz.f96.name,by decide,Tryz.func96.trans<|congrArg some<|by kernel_rfl⟩,
 f7:=⟨Tryz.f139.name,by decide,Tryz.func139.trans<|congrArg some<|by kernel_rfl⟩,
 f8:=Tryz.func140.trans<|congrArg some<|by kernel_rfl,
 f10:=⟨Tryz.f183.name,by decide,Tryz.func183.trans<|congrArg some<|by kernel_rfl⟩,
 f11:=⟨Tryz.f184.name,by decide,Tryz.func184.trans<|congrArg some<|by kernel_rfl⟩,
 f12:=⟨Tryz.f185.name,by decide,Tryz.func185.trans<|congrArg some<|by kernel_rfl⟩,
 f13:=⟨Tryz.f186.name,by decide,Tryz.func186.trans<|congrArg some<|by kernel_rfl⟩,
 f14:=⟨Tryz.f187.name,by decide,Tryz.func187.trans<|congrArg some<|by kernel_rfl⟩,
 f15:=⟨Tryz.f188.name,by decide,Tryz.func188.trans<|congrArg some<|by kernel_rfl⟩,
 f16:=⟨Tryz.f189.name,by decide,Tryz.func189.trans<|congrArg some<|by kernel_rfl⟩,
 f17:=⟨Tryz.f190.name,by decide,Tryz.func190.trans<|congrArg some<|by kernel_rfl⟩,
 f18:=⟨Tryz.f191.name,by decide,Tryz.func191.trans<|congrArg some<|by kernel_rfl⟩,
 f19:=Tryz.func192.trans<|congrArg some<|by kernel_rfl,
 f20:=Tryz.func193.trans<|congrArg some<|by kernel_rfl,
 f30:=⟨Tryz.f236.name,by decide,Tryz.func236.trans<|congrArg some<|by kernel_rfl⟩,
 f31:=Tryz.func237.trans<|congrArg some<|by kernel_rfl,
 f32:=Tryz.func238.trans<|congrArg some<|by kernel_rfl,
 f33:=⟨Tryz.f239.name,by decide,Tryz.func239.trans<|congrArg some<|by kernel_rfl⟩,
 f34:=⟨Tryz.f240.name,by decide,Tryz.func240.trans<|congrArg some<|by kernel_rfl⟩,
 f35:=⟨Tryz.f241.name,by decide,Tryz.func241.trans<|congrArg some<|by kernel_rfl⟩,
 f40:=⟨Tryz.f260.name,by decide,Tryz.func260.trans<|congrArg some<|by kernel_rfl⟩,
 t0:=Tryz.underlying0,
 a0:=Tryz.isAgg0,
 z0:=Tryz.sizeOf0,
 v0:=Tryz.zeroValue0,
 t3:=Tryz.underlying3,
 a3:=Tryz.isAgg3,
 z3:=Tryz.sizeOf3,
 v3:=Tryz.zeroValue3,
 t4:=Tryz.underlying4,
 a4:=Tryz.isAgg4,
 z4:=Tryz.sizeOf4,
 v4:=Tryz.zeroValue4,
 t5:=Tryz.underlying5,
 a5:=Tryz.isAgg5,
 z5:=Tryz.sizeOf5,
 v5:=Tryz.zeroValue5,
 t9:=Tryz.underlying9,
 a9:=Tryz.isAgg9,
 z9:=Tryz.sizeOf9,
 v9:=Tryz.zeroValue9,
 t22:=Tryz.underlying65,
 a22:=Tryz.isAgg65,
 z22:=Tryz.sizeOf65,
 v22:=Tryz.zeroValue65,
 t23:=Tryz.underlying65,
 a23:=Tryz.isAgg65,
 z23:=Tryz.sizeOf65,
 v23:=Tryz.zeroValue65,
 t25:=Tryz.underlying3,
 a25:=Tryz.isAgg3,
 z25:=Tryz.sizeOf3,
 v25:=Tryz.zeroValue3,
 t32:=Tryz.underlying263,
 a32:=Tryz.isAgg263,
 z32:=Tryz.sizeOf263,
 v32:=Tryz.zeroValue263,
 t35:=Tryz.underlying304,
 a35:=Tryz.isAgg304,
 z35:=Tryz.sizeOf304,
 v35:=Tryz.zeroValue304,
 t36:=Tryz.underlying305,
 a36:=Tryz.isAgg305,
 z36:=Tryz.sizeOf305,
 v36:=Tryz.zeroValue305,
 t41:=Tryz.underlying152,
 a41:=Tryz.isAgg152,
 z41:=Tryz.sizeOf152,
 v41:=Tryz.zeroValue152,
 t44:=Tryz.underlying312,
 a44:=Tryz.isAgg312,
 z44:=Tryz.sizeOf312,
 v44:=Tryz.zeroValue312,
 t46:=Tryz.underlying40,
 a46:=Tryz.isAgg40,
 z46:=Tryz.sizeOf40,
 v46:=Tryz.zeroValue40,
 t53:=Tryz.underlying348,
 a53:=Tryz.isAgg348,
 z53:=Tryz.sizeOf348,
 v53:=Tryz.zeroValue348,
 t57:=Tryz.underlying351,
 a57:=Tryz.isAgg351,
 z57:=Tryz.sizeOf351,
 v57:=Tryz.zeroValue351,
 t63:=Tryz.underlying371,
 a63:=Tryz.isAgg371,
 z63:=Tryz.sizeOf371,
 v63:=Tryz.zeroValue371,
 t64:=Tryz.underlying372,
 a64:=Tryz.isAgg372,
 z64:=Tryz.sizeOf372,
 v64:=Tryz.zeroValue372}
theorem w8(A:k0)(l:Wx)(c:Nat)(hl:l.length≤100000):
  CS 96 #[vS A l c] [sI A l c] (λ(zz:Unit)=>(.tuple #[])) (λ_=>True) λ_=>[sI A (gb l) c]:=by
 intro w hs
 have h0:(sI A l c).holds w:=hs.all _<|by simp
 cases A with
 |none=>
  have hl0:l=[]:=by
   obtain⟨_,h2,_,⟨_,h4⟩|⟨_,_,_,h4,_⟩⟩:=h0
   ·exact List.eq_nil_of_length_eq_zero<|by omega
   ·cases h4
  subst hl0
  refine(AnyM.slices_Sort_int_none Tryz.sortA none c w).mono ?_
  rintro e w' ⟨rfl,rfl⟩
  refine⟨(),rfl,trivial,?_⟩
  rw[QR];exact Turn.of hs<|.refl _
 |some a=>
  obtain⟨g,off,rfl⟩: ∃g off,a=⟨g,off,none⟩:=by
   obtain⟨_,_,_,⟨h4,_⟩|⟨g,off,_,h4,_⟩⟩:=id h0
   ·cases h4
   ·cases h4;exact⟨g,off,rfl⟩
  obtain⟨hH,hlt⟩:=QM (λ_=>rfl) h0
  refine(AnyM.slices_Sort_int Tryz.sortA g off c l w hH hlt<|by omega).mono ?_
  rintro e w' ⟨rfl,k,os,rfl⟩
  exact⟨(),rfl,trivial,PS (λ_=>rfl) (by simp[gb]) h0⟩
end Go.Proofs.YtobgjpigngoggaaGreat
namespace Go.Proofs.YtobgjpigngoggaaGreat
open Go V
def iF(n a b:Int):Bool:=decide (n≥a)&&decide (n≤b)
def fK(y:Cl):Int:=
 if y.hi<1∨y.hi>65536∨y.hp<0∨y.hp>65536∨y.hi=y.hp then 1
 else if(ai y.ra y.rb y.rc)=0∨(ai y.la y.lb y.lc)=0∨(ai y.ua y.ub y.uc)=0∨(ai y.la y.lb y.lc)=4∨(ai y.ua y.ub y.uc)=4 then 21
 else if(ai y.ua y.ub y.uc)>1∧(ai y.la y.lb y.lc)=1 then 29
 else if y.hl=true then(if y.hk<1∨y.hk>64∨y.hq<1∨y.hq>1048576∨((ai y.ra y.rb y.rc)=1∧(ai y.la y.lb y.lc)=1) then 29 else 0)
 else if y.hk≠0∨y.hq≠0∨(ai y.ra y.rb y.rc)≠1 then 29 else 0
def rq(y:Cl):Int:=
 if y.hi<1∨y.hi>65536∨y.hp<0∨y.hp>65536∨y.hi=y.hp then 1
 else if(bD y.ra y.rb y.rc)=0∨(bD y.la y.lb y.lc)=0∨(bD y.ua y.ub y.uc)=0∨(bD y.la y.lb y.lc)=4∨(bD y.ua y.ub y.uc)=4 then 21
 else if(bD y.ua y.ub y.uc)>1∧(bD y.la y.lb y.lc)=1 then 29
 else if y.hl=true then(if y.hk<1∨y.hk>64∨y.hq<1∨y.hq>1048576∨((bD y.ra y.rb y.rc)=1∧(bD y.la y.lb y.lc)=1) then 29 else 0)
 else if y.hk≠0∨y.hq≠0∨(bD y.ra y.rb y.rc)≠1 then 29 else 0
theorem DY(a b c:Int)(w:World):
  CW 130 #[.agg #[u_ a,u_ b,u_ c]] w (b_<|decide (ai a b c>1)):=by
 refine aU Tryz.func130 rfl (HS.nil w) (aC<|dL [.al] [] (λb1=>[(1,p_ b1)]) (λb1=>aA b1 [u_ a,u_ b,u_ c] 60) ?_)
 intro b1
 refine dF [.ld 0,.cq<|i_<|ai a b c] [(2,b_<|decide ((ai a b c)>1))] (o1<|qw<|tc a b c)<|aF<|bJ [b_<|decide ((ai a b c)>1)] ?_
 rfl
abbrev Dy(p0:Cl):=(b_ (decide (ai p0.ra p0.rb p0.rc>1)):Value)
theorem tL(y:Cl)(w:World):
  CW 103 #[.agg (aX y).toArray] w (b_<|decide ((ai y.ra y.rb y.rc)>1)):=by
 refine aU Tryz.func103 rfl (HS.nil w) (aC<|dL [.al] [] (λb1=>[(1,p_ b1)]) (λb1=>aA b1 (aX y) 62) ?_)
 intro b1
 refine dF [.ld 0,.cq<|Dy y] [(2,Dy y)] (o1<|qw<|DY y.ra y.rb y.rc)<|aF<|bJ [Dy y] ?_
 rfl
abbrev Dz(p0:Cl):=(b_ (decide (ai p0.la p0.lb p0.lc>1)):Value)
theorem pI(y:Cl)(w:World):
  CW 90 #[.agg (aX y).toArray] w (b_<|decide ((ai y.la y.lb y.lc)>1)):=by
 refine aU Tryz.func90 rfl (HS.nil w) (aC<|dL [.al] [] (λb1=>[(1,p_ b1)]) (λb1=>aA b1 (aX y) 62) ?_)
 intro b1
 refine dF [.ld 0,.cq<|Dz y] [(2,Dz y)] (o1<|qw<|DY y.la y.lb y.lc)<|aF<|bJ [Dz y] ?_
 rfl
abbrev EA(p0:Cl):=(b_ (decide (ai p0.ua p0.ub p0.uc>1)):Value)
theorem Og(y:Cl)(w:World):
  CW 224 #[.agg (aX y).toArray] w (b_<|decide ((ai y.ua y.ub y.uc)>1)):=by
 refine aU Tryz.func224 rfl (HS.nil w) (aC<|dL [.al] [] (λb1=>[(1,p_ b1)]) (λb1=>aA b1 (aX y) 62) ?_)
 intro b1
 refine dF [.ld 0,.cq<|EA y] [(2,EA y)] (o1<|qw<|DY y.ua y.ub y.uc)<|aF<|bJ [EA y] ?_
 rfl
theorem yl(n a b:Int)(w:World):
  CW 223 #[i_ n,i_ a,i_ b] w (b_<|iF n a b):=by
 refine aU Tryz.func223 rfl (HS.nil w) (aE []<|aC<|bB [.o,.cl] [(6,b_<|(decide (n≥a))&&(decide (n≤b)))]<|aF<|bJ [b_<|(decide (n≥a))&&(decide (n≤b))] ?_)
 rfl
def aK(kv:List (Int×Cl))(k:Int):Cl:=(aB kv k).getD cG
def fN(kv:List (Int×Cl))(k:Int):Int:=if(aB kv k).isSome=true then 0 else 6
variable{kv:hV Cl}
theorem Fv{k:Int}(h:fN kv k=0):aB kv k≠none:=by unfold fN at h;cases hm:aB kv k with|none=>simp[hm] at h|some v=>simp
theorem GA{k:Int}(h:fN kv k≠0):aB kv k=none:=by unfold fN at h;cases hm:aB kv k with|none=>rfl|some v=>simp[hm] at h
def i7(kv:List (Int×Cl))(k:Int):Bool:=k==0||decide ((ai (aK kv k).la (aK kv k).lb (aK kv k).lc)>1)
def fS(kv:List (Int×Cl))(ci:Int):Nat→Int
 |0=>ci
 |k+1=>(aK kv<|fS kv ci k).hp
def fb(kv:List (Int×Cl))(ci:Int)(k:Nat):List Int:=(List.range k).map (fS kv ci)
theorem I1(kv:hV Cl)(ci:Int)(k:Nat):fb kv ci k++[fS kv ci k]=fb kv ci (k+1):=by unfold fb;rw[List.range_succ];simp
variable{k:Nat}
theorem K8{ci:Int}{d:Nat}(hd: ∀j,j<d→aB kv (fS kv ci j)≠none)(hk:k≤d)(h: ¬fN kv (fS kv ci k)=0):k=d:=by
 rcases Nat.lt_or_ge k d with h1|h1
 ·exact absurd (GA h)<|hd k h1
 ·omega
theorem XG{ci:Int}{d:Nat}(he:aB kv (fS kv ci d)=none)(hk:k≤d)(h:fN kv (fS kv ci k)=0):k<d:=by
 rcases Nat.lt_or_ge k d with h1|h1
 ·exact h1
 ·have:k=d:=by omega
  subst this;exact absurd he<|Fv h
theorem EB(kv:hV Cl)(ci:Int)(k:Nat):(fb kv ci k).length=k:=by simp[fb]
theorem tu(bt mb:Nat)(kv:hV Cl)(ci:Int)(w:World)(r0:(aA bt [.map<|some mb] 185).holds w)(r1:(cN mb kv).holds w):
  CW 72 #[p_ bt,i_ ci] w (.tuple #[.agg (aX<|aK kv ci).toArray,i_<|fN kv ci]):=by
 refine aU Tryz.func72 rfl (HS.nil w) (aC<|dL [.al] [] (λb1=>[(4,p_ b1)]) (λb1=>aA b1 [i_ 0,i_ 0,b_ false,u_ 0,u_ 0,u_ 0,u_ 0,u_ 0,u_ 0,u_ 0,u_ 0,u_ 0,i_ 0,i_ 0] 62) ?_)
 intro b1
 refine aD<|aE [(9,b_ false)]<|bM<|aO<|aC<|eI 5 [.rd [.map<|some mb]] [(15,.map<|some mb),(16,i_ ci)] (o1<|ro ⟨bt,0,none⟩ (vs:=[.map<|some mb])<|cE r0 rfl)<|aG<|cC (some 17) _ (vv 3 62 ci cG (λw s=>bK s r1) nD)<|dM [.al,.st 1] [] (λb2=>[(6,p_ b2),(7,b_<|(aB kv ci).isSome)]) (λb2=>[]) (λb2=>aA b2 (aX<|(aB kv ci).getD cG) 62) ?_
 intro b2
 refine aD<|aE [(21,b_ (!((aB kv ci).isSome)))]<|aL rfl (λe1=>?_) (λe1=>?_)
 ·refine aC (bL [.st 0] [(5,i_ 6)] []<|aF<|pF 0 [i_ 0,i_ 0,b_ false,u_ 0,u_ 0,u_ 0,u_ 0,u_ 0,u_ 0,u_ 0,u_ 0,u_ 0,i_ 0,i_ 0] (i_ 6) ?_)
  ((have hn_:aB kv ci=none:=by simp_all);simp[aK,fN,hn_];rfl)
 refine aO<|aC<|bL [.ld 1,.st 0] [(5,i_ 0)] [(0,aA b1 (aX<|(aB kv ci).getD cG) 62)]<|aF<|pF 0 (aX<|(aB kv ci).getD cG) (i_ 0) ?_
 show((.tuple #[.agg (aX<|(aB kv ci).getD cG).toArray,i_ 0]):Value)=(.tuple #[.agg (aX<|aK kv ci).toArray,i_<|fN kv ci])
 ((simp_all[aK,fN];done))
theorem Gy(bt mb:Nat)(kv:hV Cl)(ci:Int)(w:World)(r0:(aA bt [.map<|some mb] 185).holds w)(r1:(cN mb kv).holds w):
  CW 170 #[p_ bt,i_ ci] w (b_<|i7 kv ci):=by
 refine aU Tryz.func170 rfl (HS.nil w) (aE []<|aC<|an 3 [] [(7,b_<|ci==0)]<|i5 (ci==0) (λe1=>?_)<|λe1=>?_)
 ·refine dO 7 (b_ true) (gB e1)<|bB [.sk,.sk,.sk,.sk,.sk,.sk,.sk] [(4,b_ true)]<|aF<|bJ [b_ true] ?_
  show((b_ true):Value)=(b_<|i7 kv ci)
  simp_all[i7,aK]
 refine dO 7 (b_ false) (gB e1)<|eI 5 [.rd [.map<|some mb]] [(11,.map<|some mb),(12,i_ ci)] (o1<|ro ⟨bt,0,none⟩ (vs:=[.map<|some mb])<|cE r0 rfl)<|aG<|cC (some 13) _ (qL 3 62 ci cG (λw s=>bK s r1) nD)<|aj [.cq<|b_<|decide ((ai ((aB kv ci).getD cG).la ((aB kv ci).getD cG).lb ((aB kv ci).getD cG).lc)>1)] [(4,b_<|decide ((ai ((aB kv ci).getD cG).la ((aB kv ci).getD cG).lb ((aB kv ci).getD cG).lc)>1))] (o1<|qw<|pI<|(aB kv ci).getD cG)<|aF<|bJ [b_<|decide ((ai ((aB kv ci).getD cG).la ((aB kv ci).getD cG).lb ((aB kv ci).getD cG).lc)>1)] ?_
 show((b_<|decide ((ai ((aB kv ci).getD cG).la ((aB kv ci).getD cG).lb ((aB kv ci).getD cG).lc)>1)):Value)=(b_<|i7 kv ci)
 simp_all[i7,aK]
theorem M1(bt mb:Nat)(kv:hV Cl)(ci:Int)(d:Nat)(hd: ∀j,j<d→aB kv (fS kv ci j)≠none)(he:aB kv (fS kv ci d)=none)(hd7:d≤1000)(w:World)(r0:(aA bt [.map<|some mb] 185).holds w)(r1:(cN mb kv).holds w)(hs:HI w []):
  CV 101 #[p_ bt,i_ ci] w [] (λ((al',cl'):(k0)×Nat)=>(vS al' (fb kv ci d) cl')) (λ_=>True) λ(al',cl')=>[sI al' (fb kv ci d) cl']:=by
 refine aU Tryz.func101 rfl hs (aE []<|aE [(5,e_)]<|aR<|gW 3 1 [sI none ([]:Wx) 0] rfl (dO 1 (i_<|fS kv ci 0) (qI<|by rfl)<|ca 0 (sI none (fb kv ci 0) 0) rfl (eJ (by rfl:([]:Wx)=(fb kv ci 0))) (dO 5 (vS none (fb kv ci 0) 0) (congrArg (λz_:Wx=>some<|Value.slice none z_.length 0) (by rfl:([]:Wx)=(fb kv ci 0)))<|iC (σ:=Nat×(k0)×Nat) [] (λ(k,ao,co)=>[(5,vS ao (fb kv ci k) co),(1,i_<|fS kv ci k)]) [0] (λ(k,ao,co)=>[sI ao (fb kv ci k) co]) (λ(k,ao,co)=>(k≤d)) (λ(k,ao,co)=>d+1-k) (0,none,0) (by omega) ?_ ?_)))
 ·exact cX [0]
 rintro⟨k,ao,co⟩ hk
 have hk:k≤d:=hk
 refine aR<|aC<|jI [.cq<|.tuple #[.agg (aX<|aK kv<|fS kv ci k).toArray,i_<|fN kv<|fS kv ci k],.al,.st 1] [] (λb2=>[(6,p_ b2),(7,i_<|fN kv<|fS kv ci k)]) (λb2=>[]) (λb2=>aA b2 (aX<|aK kv<|fS kv ci k) 62) (λb2=>o1<|qo<|λw s=>tu bt mb kv (fS kv ci k) w (bK s r0)<|bK s r1) ?_
 intro b2
 refine aD<|aE [(15,b_<|(fN kv<|fS kv ci k)!=0)]<|aL rfl (λe1=>?_) (λe1=>?_)
 ·have p1:=e1;try simp only[cR] at p1
  refine aE [(4,vS ao (fb kv ci k) co)]<|aF<|ca 0 (sI ao (fb kv ci d) co) rfl (eJ (by rw[K8 hd hk ‹_›]:(fb kv ci k)=(fb kv ci d))) (bR [0] [vS ao (fb kv ci k) co] (ao,co) ?_ ?_)
  ·show((vS ao (fb kv ci k) co):Value)=(vS ao (fb kv ci d) co)
   rw[K8 hd hk ‹_›]
  trivial
 have p1:=e1;try simp only[cR] at p1
 refine aO<|aC<|an 2 [] [(17,vS ao (fb kv ci k) co),(18,i_<|fS kv ci k)]<|aG<|eB 19 (e:=3) [i_<|fS kv ci k] (by kernel_rfl) rfl (λ_=>by kernel_rfl) _ (λ_=>rfl) ?_
 intro b3
 refine aG<|iJ gq (fb kv ci k) ([fS kv ci k]) 0 20 (i_ 0) 8 dG j9 (ef (i:=2) rfl) (by simp[EB];omega) ?_
 intro A4 c4
 refine aQ [(5,vS A4 ((fb kv ci k)++([fS kv ci k])) c4)]<|aM<|bB [.ld 1] [(1,i_<|(aK kv<|fS kv ci k).hp)]<|dO 1 (i_<|fS kv ci<|k+1) (qI<|by rfl)<|ca 0 (sI A4 (fb kv ci<|k+1) c4) rfl (eJ (I1 _ _ _:(fb kv ci k)++([fS kv ci k])=(fb kv ci<|k+1))) (dO 5 (vS A4 (fb kv ci<|k+1) c4) (kJ<|I1 _ _ _)<|bN (k+1,A4,c4) (XG he hk ‹_›) (by(show d+1-(k+1)<d+1-k;omega)) ?_)
 exact cX [0]
theorem QS(bt mb:Nat)(kv:hV Cl)(ci:Int)(d:Nat)(hd: ∀j,j<d→aB kv (fS kv ci j)≠none)(he:aB kv (fS kv ci d)=none)(hd7:d≤1000)(w:World)(r0:(aA bt [.map<|some mb] 185).holds w)(r1:(cN mb kv).holds w):
  CW 171 #[p_ bt,i_ ci] w (c_ d):=by
 refine aU Tryz.func171 rfl (HS.nil w) (aE []<|aC<|an 2 [] [(5,p_ bt),(6,i_ ci)]<|aG<|dH (some 7) [] (λw s h=>M1 bt mb kv ci d ‹_› ‹_› ‹_› w (bK s r0) (bK s r1) h) ?_)
 rintro⟨al'1,cl'2⟩-
 refine aQ [(4,i_ ((fb kv ci d).length:Int))]<|aF<|bJ [i_ ((fb kv ci d).length:Int)] ?_
 show((i_ ((fb kv ci d).length:Int)):Value)=(c_ d)
 rw[EB]
abbrev JQ(p0:Cl):=((30,.agg #[u_ p0.ra,u_ p0.rb,u_ p0.rc,u_ p0.la,u_ p0.lb,u_ p0.lc,u_ p0.ua,u_ p0.ub,u_ p0.uc]):Nat×Value)
abbrev xK(p0:Cl):=(b_ ((ai p0.la p0.lb p0.lc)==4):Value)
theorem HV(y:Cl)(w:World):
  CW 169 #[.agg (aX y).toArray] w (i_<|fK y):=by
 have q1:=rR y.ra y.rb y.rc;have q2:=rR y.la y.lb y.lc;have q3:=rR y.ua y.ub y.uc
 refine aU Tryz.func169 rfl (HS.nil w) (aC<|dL [.al] [0] (λb1=>[(1,p_ b1)]) (λb1=>aA b1 (aX y) 62) ?_)
 intro b1
 refine aD<|dF [.ld 0,.cq<|b_<|iF y.hi 1 65536,.p,.p,.o,.ld 0,.cq<|b_<|iF y.hp 0 65536,.p,.cl,.p,.o,.ld 0,.ld 0,.p,.cl] [(23,b_<|((!(iF y.hi 1 65536))||(!(iF y.hp 0 65536)))||(y.hp==y.hi))] (oc (qw<|yl y.hi 1 65536)<|o1<|go (true&&((!(iF y.hi 1 65536))==false)) λh_=>(qw<|yl y.hp 0 65536))<|aL rfl (λe1=>?_) (λe1=>?_)
 ·refine aC<|db [] [1,23] [(2,i_ 1)]<|aF<|bJ [i_ 1] ?_
  refine congrArg (Value.int .i64) ?_;unfold fK;unfold iF at*;grind
 refine aO<|bS<|db [.ld 0,.ld 0,.ld 0] [23] [(JQ y),(31,i_ 0)]<|aR<|i4 400<|cd (m:=399)<|aE [(32,b_ true)]<|aD<|dU<|az<|aR<|aC<|dM [.al,.st 1] [32] (λb2=>[(4,p_ b2),(3,i_ 0)]) (λb2=>[]) (λb2=>aA b2 [u_ y.ra,u_ y.rb,u_ y.rc] 60) ?_
 intro b2
 refine aC<|eI 4 [.ld 1,.cq<|b_<|ai y.ra y.rb y.rc !=0] [(38,b_ (!(ai y.ra y.rb y.rc !=0)))] (o1<|qw<|CU y.ra y.rb y.rc)<|i5 (!(ai y.ra y.rb y.rc !=0)) (λe2=>?_)<|λe2=>?_
 ·refine dO 38 (b_ true) (gB e2)<|db [.sk,.sk,.sk,.sk,.sk,.sk,.sk] [4,3,38] [(46,b_ true)]<|dU<|aC<|db [] [1,30,31,46] [(2,i_ 21)]<|aF<|bJ [i_ 21] ?_
  refine congrArg (Value.int .i64) ?_;unfold fK;unfold iF at*;grind
 refine dO 38 (b_ false) (gB e2)<|db [.p,.p,.p,.sk,.sk,.sk] [4,3,38] [(39,i_ 0),(40,b_ false),(41,b_ false),(45,b_ false),(46,b_ false)]<|bM<|aO<|aM<|db [] [46] [(31,i_ 1)]<|cd (m:=398)<|aE [(32,b_ true)]<|aD<|dU<|az<|aR<|aC<|dM [.al,.st 2] [32] (λb3=>[(4,p_ b3),(3,i_ 1)]) (λb3=>[]) (λb3=>aA b3 [u_ y.la,u_ y.lb,u_ y.lc] 60) ?_
 intro b3
 refine aC<|eI 4 [.ld 2,.cq<|b_<|ai y.la y.lb y.lc !=0] [(38,b_ (!(ai y.la y.lb y.lc !=0)))] (o1<|qw<|CU y.la y.lb y.lc)<|i5 (!(ai y.la y.lb y.lc !=0)) (λe3=>?_)<|λe3=>?_
 ·refine dO 38 (b_ true) (gB e3)<|db [.sk,.sk,.sk,.sk,.sk,.sk,.sk] [39,40,41,45,4,3,38] [(46,b_ true)]<|dU<|aC<|db [] [1,30,31,46] [(2,i_ 21)]<|aF<|bJ [i_ 21] ?_
  refine congrArg (Value.int .i64) ?_;unfold fK;unfold iF at*;grind
 refine dO 38 (b_ false) (gB e3)<|lH [.ld 2,.cq<|i_<|ai y.la y.lb y.lc] [4,3,38] [(39,i_ 1),(40,b_ true),(41,b_ true),(45,xK y),(42,.agg #[u_ y.la,u_ y.lb,u_ y.lc]),(43,i_<|ai y.la y.lb y.lc),(44,xK y),(46,xK y)] (o1<|qw<|tc y.la y.lb y.lc)<|aL rfl (λe4=>?_) (λe4=>?_)
 ·refine aC<|db [] [1,30,31,39,40,41,45,42,43,44,46] [(2,i_ 21)]<|aF<|bJ [i_ 21] ?_
  refine congrArg (Value.int .i64) ?_;unfold fK;unfold iF at*;grind
 have p4:=e4
 refine aO<|aM<|db [] [46] [(31,i_ 2)]<|cd (m:=397)<|aE [(32,b_ true)]<|aD<|dU<|az<|aR<|aC<|yR [.al,.st 3] (λb4=>[(1,p_ b1),(JQ y),(31,i_ 2),(39,i_ 1),(40,b_ true),(41,b_ true),(45,xK y),(42,.agg #[u_ y.la,u_ y.lb,u_ y.lc]),(43,i_<|ai y.la y.lb y.lc),(44,xK y),(4,p_ b4),(3,i_ 2)]) (λ_=>[]) (λb4=>aA b4 [u_ y.ua,u_ y.ub,u_ y.uc] 60) ?_
 intro b4
 refine aC<|eI 4 [.ld 3,.cq<|b_<|ai y.ua y.ub y.uc !=0] [(38,b_ (!(ai y.ua y.ub y.uc !=0)))] (o1<|qw<|CU y.ua y.ub y.uc)<|i5 (!(ai y.ua y.ub y.uc !=0)) (λe5=>?_)<|λe5=>?_
 ·refine dO 38 (b_ true) (gB e5)<|db [.sk,.sk,.sk,.sk,.sk,.sk,.sk] [39,40,41,45,42,43,44,4,3,38] [(46,b_ true)]<|dU<|aE [(2,i_ 21)]<|aF<|bJ [i_ 21] ?_
  refine congrArg (Value.int .i64) ?_;unfold fK;unfold iF at*;grind
 refine dO 38 (b_ false) (gB e5)<|aj [.ld 3,.cq<|i_<|ai y.ua y.ub y.uc] [(39,i_ 2),(45,b_<|(ai y.ua y.ub y.uc)==4),(42,.agg #[u_ y.ua,u_ y.ub,u_ y.uc]),(43,i_<|ai y.ua y.ub y.uc),(44,b_<|(ai y.ua y.ub y.uc)==4),(46,b_<|(ai y.ua y.ub y.uc)==4)] (o1<|qw<|tc y.ua y.ub y.uc)<|aL rfl (λe6=>?_) (λe6=>?_)
 ·refine aE [(2,i_ 21)]<|aF<|bJ [i_ 21] ?_
  refine congrArg (Value.int .i64) ?_;unfold fK;unfold iF at*;grind
 have p6:=e6
 refine aO<|bZ [(31,i_ 3)]<|cd (m:=396)<|aE [(32,b_ false)]<|aD<|bM<|bg<|dF [.ld 0,.cq<|b_<|iF y.hk 1 64,.p,.o,.ld 0,.cq<|b_<|iF y.hq 1 1048576,.cl,.p,.o,.ld 0,.cq<|b_<|decide ((ai y.ra y.rb y.rc)>1),.p,.o,.ld 0,.cq<|b_<|decide ((ai y.la y.lb y.lc)>1),.cl,.cl] [(5,b_<|((iF y.hk 1 64)&&(iF y.hq 1 1048576))&&((decide ((ai y.ra y.rb y.rc)>1))||(decide ((ai y.la y.lb y.lc)>1))))] (oc (qw<|yl y.hk 1 64)<|oc (go (true&&((iF y.hk 1 64)==true)) λh_=>(qw<|yl y.hq 1 1048576))<|oc (go (true&&(((iF y.hk 1 64)&&(iF y.hq 1 1048576))==true)) λh_=>(qw<|tL y))<|o1<|go ((true&&(((iF y.hk 1 64)&&(iF y.hq 1 1048576))==true))&&((decide ((ai y.ra y.rb y.rc)>1))==false)) λh_=>(qw<|pI y))<|dF [.ld 0,.p,.p,.o,.ld 0,.p,.cl,.p,.o,.ld 0,.cq<|b_<|decide ((ai y.ra y.rb y.rc)>1),.p,.cl] [(6,b_<|((y.hk==0)&&(y.hq==0))&&(!(decide ((ai y.ra y.rb y.rc)>1))))] (o1<|go (true&&(((y.hk==0)&&(y.hq==0))==true)) λh_=>(qw<|tL y))<|aD<|dF [.ld 0,.p,.o,.p,.p,.cl,.p,.o,.ld 0,.p,.p,.o,.p,.p,.cl,.cl,.p,.o,.ld 0,.cq<|b_<|decide ((ai y.ua y.ub y.uc)>1),.p,.o,.ld 0,.cq<|b_<|decide ((ai y.la y.lb y.lc)>1),.p,.cl,.cl] [(100,b_<|((y.hl&&(!(((iF y.hk 1 64)&&(iF y.hq 1 1048576))&&((decide ((ai y.ra y.rb y.rc)>1))||(decide ((ai y.la y.lb y.lc)>1))))))||((!y.hl)&&(!(((y.hk==0)&&(y.hq==0))&&(!(decide ((ai y.ra y.rb y.rc)>1)))))))||((decide ((ai y.ua y.ub y.uc)>1))&&(!(decide ((ai y.la y.lb y.lc)>1)))))] (oc (go (true&&(((y.hl&&(!(((iF y.hk 1 64)&&(iF y.hq 1 1048576))&&((decide ((ai y.ra y.rb y.rc)>1))||(decide ((ai y.la y.lb y.lc)>1))))))||((!y.hl)&&(!(((y.hk==0)&&(y.hq==0))&&(!(decide ((ai y.ra y.rb y.rc)>1)))))))==false)) λh_=>(qw<|Og y))<|o1<|go ((true&&(((y.hl&&(!(((iF y.hk 1 64)&&(iF y.hq 1 1048576))&&((decide ((ai y.ra y.rb y.rc)>1))||(decide ((ai y.la y.lb y.lc)>1))))))||((!y.hl)&&(!(((y.hk==0)&&(y.hq==0))&&(!(decide ((ai y.ra y.rb y.rc)>1)))))))==false))&&((decide ((ai y.ua y.ub y.uc)>1))==true)) λh_=>(qw<|pI y))<|aL rfl (λe7=>?_) (λe7=>?_)
 ·refine aE [(2,i_ 29)]<|aF<|bJ [i_ 29] ?_
  refine congrArg (Value.int .i64) ?_;unfold fK;unfold iF at*;grind
 refine aO<|aE [(2,i_ 0)]<|aF<|bJ [i_ 0] ?_
 refine congrArg (Value.int .i64) ?_;unfold fK;unfold iF at*;grind
def fC(kv:List (Int×Cl)):Nat→Int→Nat
 |0,_=>0
 |n+1,k=>if(aB kv k).isSome then fC kv n (aK kv k).hp+1 else 0
def dep(kv:List (Int×Cl))(k:Int):Nat:=fC kv 17 k
theorem uf(kv:hV Cl)(k:Int): ∀j,fS kv k (j+1)=fS kv (aK kv k).hp j
 |0=>rfl
 |j+1=>by show(aK kv<|fS kv k<|j+1).hp=(aK kv<|fS kv (aK kv k).hp j).hp;rw[uf kv k j]
theorem JR(kv:hV Cl): ∀(n:Nat)(k:Int)(j:Nat),j<fC kv n k→aB kv (fS kv k j)≠none
 |0,k,j,h=>by simp[fC] at h
 |n+1,k,j,h=>by
  unfold fC at h
  split at h
  ·rename_i hs
   cases j with
   |zero=>intro e;simp only[fS] at e;rw[e] at hs;cases hs
   |succ j=>rw[uf];exact JR kv n _ j<|by omega
  ·omega
theorem I2(kv:hV Cl): ∀(n:Nat)(k:Int),fC kv n k<n→aB kv (fS kv k<|fC kv n k)=none
 |0,k,h=>by omega
 |n+1,k,h=>by
  unfold fC at h⊢
  split
  ·rename_i hs;rw[if_pos hs] at h;rw[uf];exact I2 kv n _<|by omega
  ·rename_i hs;simpa[fS] using hs
def HOk(kv:List (Int×Cl)):Prop:= ∀k,dep kv k≤16
theorem HOk.lt(h:HOk kv)(k:Int):(∀j,j<dep kv k→aB kv (fS kv k j)≠none)∧aB kv (fS kv k<|dep kv k)=none∧dep kv k≤1000:=
 ⟨λj=>JR kv 17 k j,I2 kv 17 k (by have:=h k;unfold dep at this;omega),by have:=h k;omega⟩
def ik(kv:List (Int×Cl))(y:Cl):Int:=
 if fK y≠0 then fK y else if(aB kv y.hi).isSome=true then 8 else if(kv.length:Int)=64 then 5
 else if(y.hp≠0∧(aB kv y.hp).isSome=false)∨(aK kv y.hp).hl=true then 23
 else if(ai y.la y.lb y.lc)>1∧i7 kv y.hp=false then 29 else if(dep kv y.hp:Int)=16 then 25 else 0
def mW(kv:List (Int×Cl))(y:Cl):List (Int×Cl):=if ik kv y=0 then aJ kv y.hi y else kv
abbrev rS(p0)(p1):=(aA p0 [.map<|some p1] 185:V.aI)
theorem yn:
  CS 59 #[] [] (λ((bt,mb):Nat×Nat)=>(p_ bt)) (λ_=>True) λ(bt,mb)=>[rS bt mb,cN mb ([]:hV Cl)]:=by
 intro w hs
 refine aU Tryz.func59 rfl hs (aE []<|aC<|aG<|nU (λk:Int=>i_ k) (λv_:Cl=>(.agg (aX v_).toArray)) 1 (by kernel_rfl) rfl (λm1=>[cN m1 ([]:hV Cl)]) (λ_=>rfl) ?_)
 intro m1
 refine dM [.al] [] (λb2=>[(0,p_ b2)]) (λ_=>[]) (λb2=>rS b2 m1) ?_
 intro b2
 refine aF<|bR [1,0] [p_ b2] (b2,m1) ?_ ?_
 ·rfl
 trivial
abbrev JS(p0):=(aA p0 [i_ 0,i_ 0,b_ false,u_ 0,u_ 0,u_ 0,u_ 0,u_ 0,u_ 0,u_ 0,u_ 0,u_ 0,i_ 0,i_ 0] 62:V.aI)
theorem Ui(bt mb:Nat)(kv:hV Cl)(y:Cl)(hO:HOk kv)(hl:kv.length≤64):
  CS 132 #[p_ bt,.agg (aX y).toArray] [rS bt mb,cN mb kv] (λ(kv':(hV Cl))=>(i_<|ik kv y)) (λkv'=>kv'=mW kv y) λkv'=>[rS bt mb,cN mb kv']:=by
 intro w hs
 obtain⟨hd,he,hd7⟩:=hO.lt y.hp;have hwr:fK y≠0→ik kv y=fK y:=λh=>by unfold ik;rw[if_pos h]
 refine aU Tryz.func132 rfl hs (aC<|dL [.al] [] (λb1=>[(3,p_ b1)]) (λb1=>aA b1 (aX y) 62) ?_)
 intro b1
 refine aD<|aE [(11,b_ false)]<|bM<|az<|dF [.ld 2,.cq<|i_<|fK y] [(5,i_<|fK y)] (o1<|qw<|HV y)<|aE [(15,b_<|(fK y)!=0)]<|aL rfl (λe1=>?_) (λe1=>?_)
 ·refine aE [(4,i_<|fK y)]<|aF<|bR [0,0] [i_<|fK y] (kv) ?_ ?_
  ·refine congrArg (Value.int .i64) ?_;unfold ik;cases hm_:aB kv y.hp<;>(simp_all[aK];done)
  unfold mW ik;cases hm_:aB kv y.hp<;>(simp_all[aK];done)
 refine az<|jx [10,11] 13 [rS bt mb,cN mb kv,aA b1 (aX y) 62]<|iL 7 [.ld 0,.ld 2] (rg 0 6) [(0,p_ bt),(3,p_ b1),(21,.map<|some mb),(23,i_ y.hi)] (.refl _)<|Gm 6 (some 24) (.tuple #[.agg (aX<|(aB kv y.hi).getD cG).toArray,b_<|(aB kv y.hi).isSome]) rfl (by kernel_rfl) (by kernel_rfl) (.refl _) (pH (kt:=3) (et:=62) (enck:=(λk:Int=>i_ k)) (encv:=(λv_:Cl=>(.agg (aX v_).toArray))) (b:=mb) (kv:=kv) (k:=y.hi) (d0:=cG) (λw s=>s.mem (i:=1) rfl) rfl rfl rfl (by kernel_rfl) nD (by kernel_rfl) rfl) (iL 3 [] [7,8,9] [(0,p_ bt),(3,p_ b1),(25,.agg (aX<|(aB kv y.hi).getD cG).toArray),(26,b_<|(aB kv y.hi).isSome)] (.refl _)<|gR 10 rfl (nV 6 [i_ 0,i_ 0,b_ false,u_ 0,u_ 0,u_ 0,u_ 0,u_ 0,u_ 0,u_ 0,u_ 0,u_ 0,i_ 0,i_ 0] (by kernel_rfl) rfl (by kernel_rfl) (λb2=>[rS bt mb,cN mb kv,aA b1 (aX y) 62,JS b2]) (λ_=>rfl) ?_))
 intro b2
 refine gI (sd [3])<|gR 11 rfl (dQ 3 (aX<|(aB kv y.hi).getD cG) rfl (gI (sd [3])<|iL 0 [] [12] [(0,p_ bt),(3,p_ b1),(7,b_<|(aB kv y.hi).isSome)] (sd [3])<|je<|aD<|jx [10,11] 13 [rS bt mb,cN mb kv,aA b1 (aX y) 62,aA b2 (aX<|(aB kv y.hi).getD cG) 62]<|iL 7 [.ld 0,.ld 2] (rg 0 6) [(0,p_ bt),(3,p_ b1),(7,b_<|(aB kv y.hi).isSome),(31,.map<|some mb),(33,i_ y.hp)] (.refl _)<|Gm 6 (some 34) (.tuple #[.agg (aX<|(aB kv y.hp).getD cG).toArray,b_<|(aB kv y.hp).isSome]) rfl (by kernel_rfl) (by kernel_rfl) (.refl _) (pH (kt:=3) (et:=62) (enck:=(λk:Int=>i_ k)) (encv:=(λv_:Cl=>(.agg (aX v_).toArray))) (b:=mb) (kv:=kv) (k:=y.hp) (d0:=cG) (λw s=>s.mem (i:=1) rfl) rfl rfl rfl (by kernel_rfl) nD (by kernel_rfl) rfl) (iL 3 [] [7,8,9] [(0,p_ bt),(3,p_ b1),(7,b_<|(aB kv y.hi).isSome),(35,.agg (aX<|(aB kv y.hp).getD cG).toArray),(36,b_<|(aB kv y.hp).isSome)] (.refl _)<|gR 10 rfl (nV 8 [i_ 0,i_ 0,b_ false,u_ 0,u_ 0,u_ 0,u_ 0,u_ 0,u_ 0,u_ 0,u_ 0,u_ 0,i_ 0,i_ 0] (by kernel_rfl) rfl (by kernel_rfl) (λb3=>[rS bt mb,cN mb kv,aA b1 (aX y) 62,aA b2 (aX<|(aB kv y.hi).getD cG) 62,JS b3]) (λ_=>rfl) ?_))))
 intro b3
 refine gI (sd [4])<|gR 11 rfl (dQ 4 (aX<|(aB kv y.hp).getD cG) rfl (gI (sd [4])<|iL 0 [] [12] [(0,p_ bt),(3,p_ b1),(7,b_<|(aB kv y.hi).isSome),(8,p_ b3),(9,b_<|(aB kv y.hp).isSome)] (sd [4])<|je<|aD<|aR<|aE [(37,b_<|(aB kv y.hi).isSome)]<|aL rfl (λe2=>?_) (λe2=>?_)))
 ·refine aE [(4,i_ 8)]<|aF<|bR [0,0] [i_ 8] (kv) ?_ ?_
  ·refine congrArg (Value.int .i64) ?_;unfold ik;cases hm_:aB kv y.hp<;>(simp_all[aK];done)
  unfold mW ik;cases hm_:aB kv y.hp<;>(simp_all[aK];done)
 refine aC<|an 4 [.ld 0] [(43,.map<|some mb)]<|aG<|cC (some 44) (c_ kv.length) (u7 (kt:=3) (et:=62) (enck:=(λk:Int=>i_ k)) (encv:=(λv_:Cl=>(.agg (aX v_).toArray))) (b:=mb) (kv:=kv) (qM 1 rfl) rfl rfl (by kernel_rfl))<|aQ [(39,b_<|(kv.length:Int)==64)]<|aL rfl (λe3=>?_) (λe3=>?_)
 ·refine aE [(4,i_ 5)]<|aF<|bR [0,0] [i_ 5] (kv) ?_ ?_
  ·refine congrArg (Value.int .i64) ?_;unfold ik;cases hm_:aB kv y.hp<;>(simp_all[aK];done)
  unfold mW ik;cases hm_:aB kv y.hp<;>(simp_all[aK];done)
 refine aC<|bB [.ld 2,.o,.cl,.o,.ld 4,.cl] [(46,b_<|((y.hp !=0)&&(!((aB kv y.hp).isSome)))||(((aB kv y.hp).getD cG).hl))]<|aL rfl (λe4=>?_) (λe4=>?_)
 ·refine aE [(4,i_ 23)]<|aF<|bR [0,0] [i_ 23] (kv) ?_ ?_
  ·refine congrArg (Value.int .i64) ?_;unfold ik;cases hm_:aB kv y.hp<;>(simp_all[aK];done)
  unfold mW ik;cases hm_:aB kv y.hp<;>(simp_all[aK];done)
 refine dF [.ld 2,.cq<|b_<|decide ((ai y.la y.lb y.lc)>1),.o,.ld 2,.cq<|b_<|i7 kv y.hp,.cl] [(58,b_<|(decide ((ai y.la y.lb y.lc)>1))&&(!(i7 kv y.hp)))] (oc (qw<|pI y)<|o1<|go (true&&((decide ((ai y.la y.lb y.lc)>1))==true)) λh_=>(qo<|λw s=>Gy bt mb kv y.hp w (s.mem (i:=0) rfl)<|s.mem (i:=1) rfl))<|aL rfl (λe5=>?_) (λe5=>?_)
 ·refine aE [(4,i_ 29)]<|aF<|bR [0,0] [i_ 29] (kv) ?_ ?_
  ·refine congrArg (Value.int .i64) ?_;unfold ik;cases hm_:aB kv y.hp<;>(simp_all[aK];done)
  unfold mW ik;cases hm_:aB kv y.hp<;>(simp_all[aK];done)
 refine dF [.ld 2,.cq<|c_<|dep kv y.hp] [(68,b_<|((dep kv y.hp):Int)==16)] (o1<|qo<|λw s=>QS bt mb kv y.hp (dep kv y.hp) ‹_› ‹_› ‹_› w (s.mem (i:=0) rfl) (s.mem (i:=1) rfl))<|aL rfl (λe6=>?_) (λe6=>?_)
 ·refine aE [(4,i_ 25)]<|aF<|bR [0,0] [i_ 25] (kv) ?_ ?_
  ·refine congrArg (Value.int .i64) ?_;unfold ik;cases hm_:aB kv y.hp<;>(simp_all[aK];done)
  unfold mW ik;cases hm_:aB kv y.hp<;>grind[aK]
 refine aO<|aD<|bY [7] 8<|cQ 1 [.ld 0,.ld 2,.ld 2] (rg 0 7) [(77,.map<|some mb),(79,i_ y.hi),(80,.agg (aX y).toArray)]<|bF 7 rfl (gV 3 62 1 y.hi y rfl nD (cb<|eN<|aE [(4,i_ 0)]<|aF<|bR [0,0] [i_ 0] (aJ kv y.hi y) ?_ ?_))
 ·refine congrArg (Value.int .i64) ?_;unfold ik;cases hm_:aB kv y.hp<;>(simp_all[aK];done)
 unfold mW ik;cases hm_:aB kv y.hp<;>(simp_all[aK];done)
def GY(y:Cl):Cv:=⟨y.ra,y.rb,y.rc⟩
def jA(kv:List (Int×Cl))(k:Nat):List Cv:=((aV kv<|λv_=>decide ((ai v_.ra v_.rb v_.rc)>1)).take k).map λi=>GY<|(aB kv i).getD cG
def fg(kv:List (Int×Cl)):List Cv:=(aV kv<|λv_=>decide ((ai v_.ra v_.rb v_.rc)>1)).map λi=>GY<|(aB kv i).getD cG
variable{i:Int}
theorem HG(h:(aV kv<|λv_=>decide ((ai v_.ra v_.rb v_.rc)>1))[k]? =some i):jA kv k++[(⟨((aB kv i).getD cG).ra,((aB kv i).getD cG).rb,((aB kv i).getD cG).rc⟩:Cv)]=jA kv (k+1):=by
 unfold jA;rw[List.take_add_one,h];simp[GY]
theorem HW(h:(aV kv<|λv_=>decide ((ai v_.ra v_.rb v_.rc)>1)).length≤k):jA kv k=fg kv:=by unfold jA fg;rw[List.take_of_length_le h]
theorem Oq(kv:hV Cl)(k:Nat):(jA kv k).length≤k:=by unfold jA;simp;omega
theorem rM(kv:hV Cl)(f:Cl→Bool):(aV kv f).length≤kv.length:=by
 unfold aV;rw[pM,List.length_map];exact List.length_filter_le _ _
abbrev xM:=((1,.func (.func 129) #[] #[]):Nat×Value)
abbrev uk(p0):=((.agg (aX p0).toArray):Value)
abbrev rT(p0):=(.agg (aX p0).toArray:Value)
abbrev nh(p0)(p1)(p2)(p3):=(vS p0 (bf p1 (λv_=>true) p2) p3:Value)
theorem Et(bt mb:Nat)(kv:hV Cl)(hl:kv.length≤1000)(w:World)(r0:(aA bt [.map<|some mb] 185).holds w)(r1:(cN mb kv).holds w)(hs:HI w []):
  CV 89 #[p_ bt] w [] (λ((al',cl'):(k0)×Nat)=>(vS al' (aV kv<|λv_=>true) cl')) (λ_=>True) λ(al',cl')=>[sI al' (aV kv<|λv_=>true) cl']:=by
 refine aU Tryz.func89 rfl hs (aE []<|aC<|cV [.p] [(3,p_ bt)]<|aG<|eM (some 4) [p_ bt,.func (.func 129) #[] #[]] Tryz.func128 rfl (aE []<|aD<|aE [(9,b_ false)]<|bM<|aO<|aE [(5,e_)]<|bS<|eI 4 [.rd [.map<|some mb]] [(13,.map<|some mb)] (o1<|ro ⟨bt,0,none⟩ (vs:=[.map<|some mb])<|cE r0 rfl) ?_))
 obtain⟨⟨es1,cl1,hhp1,hEn1,hbo1,hnd1⟩,hkn1⟩:=id r1
 refine aG<|Bw (kt:=3) (et:=62) (es:=es1) (clock:=cl1) 14 (by kernel_rfl) rfl rfl (by kernel_rfl) (λw s=>na s hhp1<|by simp[aN]) (λb2=>[gZ b2 mb es1 cl1 ([]:E6)]) (λ_=>rfl) ?_
 intro b2
 refine eE<|aR<|gW 3 1 [gZ b2 mb es1 cl1 ([]:E6),sI none ([]:Wx) 0] rfl (ca 1 (sI none (bf kv (λv_=>true) ([]:E6)) 0) rfl (eJ (by rfl:([]:Wx)=(bf kv (λv_=>true) ([]:E6)))) (ei [xM,(5,vS none (bf kv (λv_=>true) ([]:E6)) 0),(13,.map<|some mb),(14,p_ b2)] ⟨rfl,congrArg (λz_:Wx=>some<|Value.slice none z_.length 0) (by rfl:([]:Wx)=(bf kv (λv_=>true) ([]:E6))),rfl,rfl,trivial⟩<|iC (σ:=(E6)×(k0)×Nat) [13] (λ(seen,ao,co)=>[(5,nh ao kv seen co)]) [0,0] (λ(seen,ao,co)=>[gZ b2 mb es1 cl1 seen,sI ao (bf kv (λv_=>true) seen) co]) (λ(seen,ao,co)=>seen.Nodup∧(∀j∈seen,j<kv.length)) (λ(seen,ao,co)=>kv.length-seen.length) (([]:E6),none,0) ⟨(by simp),(by simp)⟩ ?_ ?_))
 ·exact cX [0,0]
 rintro⟨seen,ao,co⟩ ⟨hn,hb⟩
 have hsl:=ue hn hb;have hsk:=yy kv (λv_=>true) seen
 refine aC<|aG<|By (enck:=(λk:Int=>i_ k)) (encv:=(λv_:Cl=>(uk v_))) (kv:=kv) 0 15 (by kernel_rfl) rfl rfl rfl (λw s=>na s hhp1<|by simp[aN]) hEn1 hbo1 hnd1 ‹_› (λj4=>[gZ b2 mb es1 cl1<|seen++[j4],sI ao (bf kv (λv_=>true) seen) co]) (λ_=>rfl) (λhall4=>?_) (λj4 mk4 mv4 hj4 hn4=>?_)
 ·refine da [] [xM,(14,p_ b2),(5,nh ao kv seen co),(16,b_ false)]<|aD<|bM<|bg<|aC<|cV [.p] [(27,nh ao kv seen co)]<|aG<|b0 (some 28) [1] (w8 ao (bf kv (λv_=>true) seen) co<|by omega) ?_
  rintro⟨⟩-
  refine eE<|aE [(4,nh ao kv seen co)]<|aF<|d6 [nh ao kv seen co]<|aQ [(2,nh ao kv seen co)]<|aF<|ca 0 (sI ao (aV kv<|λv_=>true) co) rfl (eJ (tf hn hb ‹_›:(gb<|bf kv (λv_=>true) seen)=(aV kv<|λv_=>true))) (bR [0] [nh ao kv seen co] (ao,co) ?_ ?_)
  ·show((nh ao kv seen co):Value)=(vS ao (aV kv<|λv_=>true) co)
   rw[←tf (f:=λv_=>true) hn hb ‹_›];unfold vS;rw[pM]
  trivial
 refine da [] [xM,(14,p_ b2),(5,nh ao kv seen co),(16,b_ true)]<|aD<|dU<|aO<|aR<|aC<|aG<|cC (some 17) (.tuple #[i_ mk4,rT mv4]) (yx (enck:=(λk:Int=>i_ k)) (encv:=(λv_:Cl=>(uk v_))) (kv:=kv) (k:=mk4) (v:=mv4) 0 j4 rfl rfl rfl (λw s=>na s hhp1<|by simp[aN]) hEn1 hnd1 hj4)<|yR [.al,.st 2] (λb5=>[xM,(14,p_ b2),(5,nh ao kv seen co),(7,p_ b5),(6,i_ mk4)]) (λ_=>[]) (λb5=>aA b5 (aX mv4) 62) ?_
 intro b5
 refine aC<|an 2 [.ld 2] [(20,.func (.func 129) #[] #[]),(21,rT mv4)]<|aG<|eM (some 22) [rT mv4] Tryz.func129 rfl (aC<|dL [.al] [] (λb6=>[]) (λb6=>aA b6 (aX mv4) 62) ?_)
 intro b6
 refine aE [(2,b_ true)]<|aF<|d6 [b_ true]<|j6 [gZ b2 mb es1 cl1<|seen++[j4],sI ao (bf kv (λv_=>true) seen) co] (sd [3,2])<|eE<|dU<|aM<|k9 [.p,.p] [xM,(14,p_ b2),(5,nh ao kv seen co),(23,nh ao kv seen co),(24,i_ mk4)]<|aG<|eB 25 (e:=3) [i_ mk4] (by kernel_rfl) rfl (λ_=>by kernel_rfl) _ (λ_=>rfl) ?_
 intro b7
 refine aG<|iJ gq (bf kv (λv_=>true) seen) ([mk4]) 1 26 (i_ 0) 8 dG j9 (ef (i:=2) rfl) (by simp;omega) ?_
 intro A8 c8
 refine aQ [(5,vS A8 ((bf kv (λv_=>true) seen)++([mk4])) c8)]<|(ca 1 (sI A8 (bf kv (λv_=>true)<|seen++[j4]) c8) rfl (eJ (rp ‹_› (by rfl):(bf kv (λv_=>true) seen)++([mk4])=(bf kv (λv_=>true)<|seen++[j4]))) (dO 5 (vS A8 (bf kv (λv_=>true)<|seen++[j4]) c8) (kJ<|rp ‹_› (by rfl))<|bN ((seen++[j4]),A8,c8) ⟨((ja hn hb ‹_› ‹_›).1),((ja hn hb ‹_› ‹_›).2.1)⟩ (by((have h_:=(ja hn hb ‹_› ‹_›).2.2);simp;omega)) ?_))
 exact cX [0,0]
abbrev um:=((1,.func (.func 142) #[] #[]):Nat×Value)
theorem PU(bt mb:Nat)(kv:hV Cl)(hl:kv.length≤1000)(w:World)(r0:(aA bt [.map<|some mb] 185).holds w)(r1:(cN mb kv).holds w)(hs:HI w []):
  CV 105 #[p_ bt] w [] (λ((al',cl'):(k0)×Nat)=>(vS al' (aV kv<|λv_=>v_.hl) cl')) (λ_=>True) λ(al',cl')=>[sI al' (aV kv<|λv_=>v_.hl) cl']:=by
 refine aU Tryz.func105 rfl hs (aE []<|aC<|cV [.p] [(3,p_ bt)]<|aG<|eM (some 4) [p_ bt,.func (.func 142) #[] #[]] Tryz.func128 rfl (aE []<|aD<|aE [(9,b_ false)]<|bM<|aO<|aE [(5,e_)]<|bS<|eI 4 [.rd [.map<|some mb]] [(13,.map<|some mb)] (o1<|ro ⟨bt,0,none⟩ (vs:=[.map<|some mb])<|cE r0 rfl) ?_))
 obtain⟨⟨es1,cl1,hhp1,hEn1,hbo1,hnd1⟩,hkn1⟩:=id r1
 refine aG<|Bw (kt:=3) (et:=62) (es:=es1) (clock:=cl1) 14 (by kernel_rfl) rfl rfl (by kernel_rfl) (λw s=>na s hhp1<|by simp[aN]) (λb2=>[gZ b2 mb es1 cl1 ([]:E6)]) (λ_=>rfl) ?_
 intro b2
 refine eE<|aR<|gW 3 1 [gZ b2 mb es1 cl1 ([]:E6),sI none ([]:Wx) 0] rfl (ca 1 (sI none (bf kv (λv_=>v_.hl) ([]:E6)) 0) rfl (eJ (by rfl:([]:Wx)=(bf kv (λv_=>v_.hl) ([]:E6)))) (ei [um,(5,vS none (bf kv (λv_=>v_.hl) ([]:E6)) 0),(13,.map<|some mb),(14,p_ b2)] ⟨rfl,congrArg (λz_:Wx=>some<|Value.slice none z_.length 0) (by rfl:([]:Wx)=(bf kv (λv_=>v_.hl) ([]:E6))),rfl,rfl,trivial⟩<|iC (σ:=(E6)×(k0)×Nat) [13] (λ(seen,ao,co)=>[(5,vS ao (bf kv (λv_=>v_.hl) seen) co)]) [0,0] (λ(seen,ao,co)=>[gZ b2 mb es1 cl1 seen,sI ao (bf kv (λv_=>v_.hl) seen) co]) (λ(seen,ao,co)=>seen.Nodup∧(∀j∈seen,j<kv.length)) (λ(seen,ao,co)=>kv.length-seen.length) (([]:E6),none,0) ⟨(by simp),(by simp)⟩ ?_ ?_))
 ·exact cX [0,0]
 rintro⟨seen,ao,co⟩ ⟨hn,hb⟩
 have hsl:=ue hn hb;have hsk:=yy kv (λv_=>v_.hl) seen
 refine aC<|aG<|By (enck:=(λk:Int=>i_ k)) (encv:=(λv_:Cl=>(uk v_))) (kv:=kv) 0 15 (by kernel_rfl) rfl rfl rfl (λw s=>na s hhp1<|by simp[aN]) hEn1 hbo1 hnd1 ‹_› (λj4=>[gZ b2 mb es1 cl1<|seen++[j4],sI ao (bf kv (λv_=>v_.hl) seen) co]) (λ_=>rfl) (λhall4=>?_) (λj4 mk4 mv4 hj4 hn4=>?_)
 ·refine da [] [um,(14,p_ b2),(5,vS ao (bf kv (λv_=>v_.hl) seen) co),(16,b_ false)]<|aD<|bM<|bg<|aC<|cV [.p] [(27,vS ao (bf kv (λv_=>v_.hl) seen) co)]<|aG<|b0 (some 28) [1] (w8 ao (bf kv (λv_=>v_.hl) seen) co<|by omega) ?_
  rintro⟨⟩-
  refine eE<|aE [(4,vS ao (bf kv (λv_=>v_.hl) seen) co)]<|aF<|d6 [vS ao (bf kv (λv_=>v_.hl) seen) co]<|aQ [(2,vS ao (bf kv (λv_=>v_.hl) seen) co)]<|aF<|ca 0 (sI ao (aV kv<|λv_=>v_.hl) co) rfl (eJ (tf hn hb ‹_›:(gb<|bf kv (λv_=>v_.hl) seen)=(aV kv<|λv_=>v_.hl))) (bR [0] [vS ao (bf kv (λv_=>v_.hl) seen) co] (ao,co) ?_ ?_)
  ·show((vS ao (bf kv (λv_=>v_.hl) seen) co):Value)=(vS ao (aV kv<|λv_=>v_.hl) co)
   rw[←tf (f:=λv_=>v_.hl) hn hb ‹_›];unfold vS;rw[pM]
  trivial
 refine da [] [um,(14,p_ b2),(5,vS ao (bf kv (λv_=>v_.hl) seen) co),(16,b_ true)]<|aD<|dU<|aO<|aR<|aC<|aG<|cC (some 17) (.tuple #[i_ mk4,rT mv4]) (yx (enck:=(λk:Int=>i_ k)) (encv:=(λv_:Cl=>(uk v_))) (kv:=kv) (k:=mk4) (v:=mv4) 0 j4 rfl rfl rfl (λw s=>na s hhp1<|by simp[aN]) hEn1 hnd1 hj4)<|yR [.al,.st 2] (λb5=>[um,(14,p_ b2),(5,vS ao (bf kv (λv_=>v_.hl) seen) co),(7,p_ b5),(6,i_ mk4)]) (λ_=>[]) (λb5=>aA b5 (aX mv4) 62) ?_
 intro b5
 refine aC<|an 2 [.ld 2] [(20,.func (.func 142) #[] #[]),(21,rT mv4)]<|aG<|eM (some 22) [rT mv4] Tryz.func142 rfl (aC<|dL [.al] [] (λb6=>[(1,p_ b6)]) (λb6=>aA b6 (aX mv4) 62) ?_)
 intro b6
 refine aC<|bB [.ld 3] [(2,b_ mv4.hl)]<|aF<|d6 [b_ mv4.hl]<|j6 [gZ b2 mb es1 cl1<|seen++[j4],sI ao (bf kv (λv_=>v_.hl) seen) co] (sd [3,2])<|eE<|iD mv4.hl (λe2=>?_)<|λe2=>?_
 ·refine aM<|k9 [.p,.p] [um,(14,p_ b2),(5,vS ao (bf kv (λv_=>v_.hl) seen) co),(23,vS ao (bf kv (λv_=>v_.hl) seen) co),(24,i_ mk4)]<|aG<|eB 25 (e:=3) [i_ mk4] (by kernel_rfl) rfl (λ_=>by kernel_rfl) _ (λ_=>rfl) ?_
  intro b7
  refine aG<|iJ gq (bf kv (λv_=>v_.hl) seen) ([mk4]) 1 26 (i_ 0) 8 dG j9 (ef (i:=2) rfl) (by simp;omega) ?_
  intro A8 c8
  refine aQ [(5,vS A8 ((bf kv (λv_=>v_.hl) seen)++([mk4])) c8)]<|(ca 1 (sI A8 (bf kv (λv_=>v_.hl)<|seen++[j4]) c8) rfl (eJ (rp ‹_› ‹_›:(bf kv (λv_=>v_.hl) seen)++([mk4])=(bf kv (λv_=>v_.hl)<|seen++[j4]))) (dO 5 (vS A8 (bf kv (λv_=>v_.hl)<|seen++[j4]) c8) (kJ<|rp ‹_› ‹_›)<|bN ((seen++[j4]),A8,c8) ⟨((ja hn hb ‹_› ‹_›).1),((ja hn hb ‹_› ‹_›).2.1)⟩ (by((have h_:=(ja hn hb ‹_› ‹_›).2.2);simp;omega)) ?_))
  exact cX [0,0]
 refine aO<|ca 1 (sI ao (bf kv (λv_=>v_.hl)<|seen++[j4]) co) rfl (eJ (vH ‹_› ‹_›:(bf kv (λv_=>v_.hl) seen)=(bf kv (λv_=>v_.hl)<|seen++[j4]))) (ei [um,(14,p_ b2),(5,vS ao (bf kv (λv_=>v_.hl)<|seen++[j4]) co),(6,i_ mk4),(20,.func (.func 142) #[] #[]),(21,rT mv4),(22,b_ mv4.hl)] ⟨rfl,rfl,kJ<|by exact vH ‹_› ‹_›,rfl,rfl,rfl,rfl,trivial⟩<|bN ((seen++[j4]),ao,co) ⟨((ja hn hb ‹_› ‹_›).1),((ja hn hb ‹_› ‹_›).2.1)⟩ (by((have h_:=(ja hn hb ‹_› ‹_›).2.2);simp;omega)) ?_)
 exact cX [0,0]
abbrev JU(p0)(p1)(p2)(p3):=(sI p0 (bf p1 (λv_=>decide ((ai v_.ra v_.rb v_.rc)>1)) p2) p3:V.aI)
abbrev zd:=((1,.func (.func 103) #[] #[]):Nat×Value)
abbrev ze(p0)(p1)(p2):=(vS p0 (aV p1<|λv_=>decide ((ai v_.ra v_.rb v_.rc)>1)) p2:Value)
abbrev uo(p0)(p1)(p2)(p3):=(vS p0 (bf p1 (λv_=>decide ((ai v_.ra v_.rb v_.rc)>1)) p2) p3:Value)
theorem I3(bt mb:Nat)(kv:hV Cl)(hl:kv.length≤1000)(w:World)(r0:(aA bt [.map<|some mb] 185).holds w)(r1:(cN mb kv).holds w)(hs:HI w []):
  CV 94 #[p_ bt] w [] (λ((al',cl'):(k0)×Nat)=>(vS al' (fg kv) cl')) (λ_=>True) λ(al',cl')=>[nO al' (fg kv) cl']:=by
 have hkl:=rM kv<|λv_=>decide ((ai v_.ra v_.rb v_.rc)>1)
 refine aU Tryz.func94 rfl hs (aE []<|aE [(3,e_)]<|bS<|cV [.p] [(6,p_ bt)]<|aG<|eM (some 7) [p_ bt,.func (.func 103) #[] #[]] Tryz.func128 rfl (aE []<|aD<|aE [(9,b_ false)]<|bM<|aO<|aE [(5,e_)]<|bS<|eI 4 [.rd [.map<|some mb]] [(13,.map<|some mb)] (o1<|ro ⟨bt,0,none⟩ (vs:=[.map<|some mb])<|cE r0 rfl) ?_))
 obtain⟨⟨es1,cl1,hhp1,hEn1,hbo1,hnd1⟩,hkn1⟩:=id r1
 refine aG<|Bw (kt:=3) (et:=62) (es:=es1) (clock:=cl1) 14 (by kernel_rfl) rfl rfl (by kernel_rfl) (λw s=>na s hhp1<|by simp[aN]) (λb2=>[gZ b2 mb es1 cl1 ([]:E6)]) (λ_=>rfl) ?_
 intro b2
 refine eE<|aR<|gW 3 1 [gZ b2 mb es1 cl1 ([]:E6),sI none ([]:Wx) 0] rfl (ca 1 (sI none (bf kv (λv_=>decide ((ai v_.ra v_.rb v_.rc)>1)) ([]:E6)) 0) rfl (eJ (by rfl:([]:Wx)=(bf kv (λv_=>decide ((ai v_.ra v_.rb v_.rc)>1)) ([]:E6)))) (ei [zd,(5,vS none (bf kv (λv_=>decide ((ai v_.ra v_.rb v_.rc)>1)) ([]:E6)) 0),(13,.map<|some mb),(14,p_ b2)] ⟨rfl,congrArg (λz_:Wx=>some<|Value.slice none z_.length 0) (by rfl:([]:Wx)=(bf kv (λv_=>decide ((ai v_.ra v_.rb v_.rc)>1)) ([]:E6))),rfl,rfl,trivial⟩<|iC (σ:=(E6)×(k0)×Nat) [13] (λ(seen,ao,co)=>[(5,uo ao kv seen co)]) [0,0] (λ(seen,ao,co)=>[gZ b2 mb es1 cl1 seen,JU ao kv seen co]) (λ(seen,ao,co)=>seen.Nodup∧(∀j∈seen,j<kv.length)) (λ(seen,ao,co)=>kv.length-seen.length) (([]:E6),none,0) ⟨(by simp),(by simp)⟩ ?_ ?_))
 ·exact cX [0,0]
 rintro⟨seen,ao,co⟩ ⟨hn,hb⟩
 have hsl:=ue hn hb;have hsk:=yy kv (λv_=>decide ((ai v_.ra v_.rb v_.rc)>1)) seen
 refine aC<|aG<|By (enck:=(λk:Int=>i_ k)) (encv:=(λv_:Cl=>(uk v_))) (kv:=kv) 0 15 (by kernel_rfl) rfl rfl rfl (λw s=>na s hhp1<|by simp[aN]) hEn1 hbo1 hnd1 ‹_› (λj4=>[gZ b2 mb es1 cl1<|seen++[j4],JU ao kv seen co]) (λ_=>rfl) (λhall4=>?_) (λj4 mk4 mv4 hj4 hn4=>?_)
 ·refine da [] [zd,(14,p_ b2),(5,uo ao kv seen co),(16,b_ false)]<|aD<|bM<|bg<|aC<|cV [.p] [(27,uo ao kv seen co)]<|aG<|b0 (some 28) [1] (w8 ao (bf kv (λv_=>decide ((ai v_.ra v_.rb v_.rc)>1)) seen) co<|by omega) ?_
  rintro⟨⟩-
  refine eE<|aD ?_
  have hcv5:(gb<|bf kv (λv_=>decide ((ai v_.ra v_.rb v_.rc)>1)) seen)=(aV kv<|λv_=>decide ((ai v_.ra v_.rb v_.rc)>1)):=tf hn hb ‹_›
  refine ca 0 (sI ao (aV kv<|λv_=>decide ((ai v_.ra v_.rb v_.rc)>1)) co) rfl (eJ hcv5) (dO 5 (ze ao kv co) (uW<|by rw[←hcv5,pM])<|dO 27 (ze ao kv co) (uW<|by rw[←hcv5,pM])<|bZ [(4,ze ao kv co)]<|aF<|d6 [ze ao kv co]<|aQ [(3,e_),(8,i_ ((aV kv<|λv_=>decide ((ai v_.ra v_.rb v_.rc)>1)).length:Int)),(9,i_ 0)]<|aR<|gW 60 3 [sI ao (aV kv<|λv_=>decide ((ai v_.ra v_.rb v_.rc)>1)) co,gZ b2 mb es1 cl1 seen,nO none ([]:List Cv) 0] rfl (ca 2 (nO none (jA kv 0) 0) rfl (eJ (by rfl:([]:List Cv)=(jA kv 0))) (dO 3 (vS none (jA kv 0) 0) (congrArg (λz_:List Cv=>some<|Value.slice none z_.length 0) (by rfl:([]:List Cv)=(jA kv 0)))<|iC (σ:=Nat×(k0)×Nat) [] (λ(k,ar,cr)=>[(9,c_ k),(3,vS ar (jA kv k) cr)]) [2] (λ(k,ar,cr)=>[nO ar (jA kv k) cr]) (λ(k,ar,cr)=>(k≤(aV kv<|λv_=>decide ((ai v_.ra v_.rb v_.rc)>1)).length)) (λ(k,ar,cr)=>(aV kv<|λv_=>decide ((ai v_.ra v_.rb v_.rc)>1)).length-k) (0,none,0) (by omega) ?_ ?_)))
  ·exact cX [2,0,0]
  rintro⟨k,ar,cr⟩ hk
  have hk:k≤(aV kv<|λv_=>decide ((ai v_.ra v_.rb v_.rc)>1)).length:=hk
  have hrl:=Oq kv k
  refine aE [(10,b_<|decide ((k:Int)<((aV kv<|λv_=>decide ((ai v_.ra v_.rb v_.rc)>1)).length:Int)))]<|aD<|aL rfl (λe2=>?_) (λe2=>?_)
  ·have p2:=Zg e2
   refine az<|aR<|aC<|jJ [.ix] [(11,.pointer<|some<|(au ao).add (k*1))] (o1<|jV 1 k dG rfl (by omega)) ?_
   obtain⟨x7,hx7⟩: ∃x,((aV kv<|λv_=>decide ((ai v_.ra v_.rb v_.rc)>1)))[k]? =some x:=⟨_,Ze<|by omega⟩
   refine aj [.rd [i_ x7]] [(5,i_ x7)] (o1<|Y8 1 k [i_ x7] dG rfl hx7)<|aM<|eI 6 [.rd [.map<|some mb]] [(13,vS ar (jA kv k) cr),(17,.map<|some mb),(18,i_ x7)] (o1<|ro ⟨bt,0,none⟩ (vs:=[.map<|some mb])<|cE r0 rfl)<|aG<|cC (some 19) _ (qL 3 62 x7 cG (λw s=>bK s r1) nD)<|cV [.p] [(20,.agg #[u_<|((aB kv x7).getD cG).ra,u_<|((aB kv x7).getD cG).rb,u_<|((aB kv x7).getD cG).rc])]<|aG<|eB 21 (e:=60) [u_<|((aB kv x7).getD cG).ra,u_<|((aB kv x7).getD cG).rb,u_<|((aB kv x7).getD cG).rc] (by kernel_rfl) rfl (λ_=>by kernel_rfl) _ (λ_=>rfl) ?_
   intro b8
   refine aG<|iJ de (jA kv k) ([(⟨((aB kv x7).getD cG).ra,((aB kv x7).getD cG).rb,((aB kv x7).getD cG).rc⟩:Cv)]) 0 22 (.agg #[u_ 0,u_ 0,u_ 0]) 24 pL Hm (ef (i:=3) rfl) (by(simp only[List.length_append,List.length_cons,List.length_nil];omega)) ?_
   intro A9 c9
   refine aQ [(3,vS A9 ((jA kv k)++([(⟨((aB kv x7).getD cG).ra,((aB kv x7).getD cG).rb,((aB kv x7).getD cG).rc⟩:Cv)])) c9)]<|aM<|aj [.w<|(k:Int)+1] [(9,i_<|(k:Int)+1)] (o1<|wj ((k:Int)+1)<|by omega)<|ca 0 (nO A9 (jA kv<|k+1) c9) rfl (eJ (HG ‹_›:(jA kv k)++([(⟨((aB kv x7).getD cG).ra,((aB kv x7).getD cG).rb,((aB kv x7).getD cG).rc⟩:Cv)])=(jA kv<|k+1))) (dO 3 (vS A9 (jA kv<|k+1) c9) (kJ<|HG ‹_›)<|bN (k+1,A9,c9) (by omega) (by(simp_all;omega)) ?_)
   exact cX [0,0,0]
  have p2:=Zh e2
  refine bg<|aE [(2,vS ar (jA kv k) cr)]<|aF<|ca 0 (nO ar (fg kv) cr) rfl (eJ (HW (by omega):(jA kv k)=(fg kv))) (bR [0] [vS ar (jA kv k) cr] (ar,cr) ?_ ?_)
  ·show((vS ar (jA kv k) cr):Value)=(vS ar (fg kv) cr)
   rw[HW<|by omega]
  trivial
 refine da [] [zd,(14,p_ b2),(5,uo ao kv seen co),(16,b_ true)]<|aD<|dU<|aO<|aR<|aC<|aG<|cC (some 17) (.tuple #[i_ mk4,rT mv4]) (yx (enck:=(λk:Int=>i_ k)) (encv:=(λv_:Cl=>(uk v_))) (kv:=kv) (k:=mk4) (v:=mv4) 0 j4 rfl rfl rfl (λw s=>na s hhp1<|by simp[aN]) hEn1 hnd1 hj4)<|yR [.al,.st 2] (λb10=>[zd,(14,p_ b2),(5,uo ao kv seen co),(7,p_ b10),(6,i_ mk4)]) (λ_=>[]) (λb10=>aA b10 (aX mv4) 62) ?_
 intro b10
 refine dF [.ld 2,.cq<|b_<|decide ((ai mv4.ra mv4.rb mv4.rc)>1)] [(22,b_<|decide ((ai mv4.ra mv4.rb mv4.rc)>1))] (o1<|qw<|tL mv4)<|aL rfl (λe3=>?_) (λe3=>?_)
 ·have p3:=Zg e3
  refine aM<|an 2 [] [(23,uo ao kv seen co),(24,i_ mk4)]<|aG<|eB 25 (e:=3) [i_ mk4] (by kernel_rfl) rfl (λ_=>by kernel_rfl) _ (λ_=>rfl) ?_
  intro b11
  refine aG<|iJ gq (bf kv (λv_=>decide ((ai v_.ra v_.rb v_.rc)>1)) seen) ([mk4]) 1 26 (i_ 0) 8 dG j9 (ef (i:=3) rfl) (by(simp only[List.length_append,List.length_cons,List.length_nil];omega)) ?_
  intro A12 c12
  refine aQ [(5,vS A12 ((bf kv (λv_=>decide ((ai v_.ra v_.rb v_.rc)>1)) seen)++([mk4])) c12)]<|(ca 1 (sI A12 (bf kv (λv_=>decide ((ai v_.ra v_.rb v_.rc)>1))<|seen++[j4]) c12) rfl (eJ (rp ‹_› ‹_›:(bf kv (λv_=>decide ((ai v_.ra v_.rb v_.rc)>1)) seen)++([mk4])=(bf kv (λv_=>decide ((ai v_.ra v_.rb v_.rc)>1))<|seen++[j4]))) (dO 5 (vS A12 (bf kv (λv_=>decide ((ai v_.ra v_.rb v_.rc)>1))<|seen++[j4]) c12) (kJ<|rp ‹_› ‹_›)<|bN ((seen++[j4]),A12,c12) ⟨((ja hn hb ‹_› ‹_›).1),((ja hn hb ‹_› ‹_›).2.1)⟩ (by((have h_:=(ja hn hb ‹_› ‹_›).2.2);simp;omega)) ?_))
  exact cX [0,0]
 have p3:=Zh e3
 refine aO<|ca 1 (sI ao (bf kv (λv_=>decide ((ai v_.ra v_.rb v_.rc)>1))<|seen++[j4]) co) rfl (eJ (vH ‹_› ‹_›:(bf kv (λv_=>decide ((ai v_.ra v_.rb v_.rc)>1)) seen)=(bf kv (λv_=>decide ((ai v_.ra v_.rb v_.rc)>1))<|seen++[j4]))) (dO 5 (vS ao (bf kv (λv_=>decide ((ai v_.ra v_.rb v_.rc)>1))<|seen++[j4]) co) (kJ<|vH ‹_› ‹_›)<|bN ((seen++[j4]),ao,co) ⟨((ja hn hb ‹_› ‹_›).1),((ja hn hb ‹_› ‹_›).2.1)⟩ (by((have h_:=(ja hn hb ‹_› ‹_›).2.2);simp;omega)) ?_)
 exact cX [0,0]
abbrev uq(p0):=((1,.func (.func 225) #[] #[p_ p0]):Nat×Value)
theorem CX(bt mb:Nat)(kv:hV Cl)(ci:Int)(hl:kv.length≤1000)(w:World)(r0:(aA bt [.map<|some mb] 185).holds w)(r1:(cN mb kv).holds w)(hs:HI w []):
  CV 173 #[p_ bt,i_ ci] w [] (λ((al',cl'):(k0)×Nat)=>(vS al' (aV kv<|λv_=>v_.hp==ci) cl')) (λ_=>True) λ(al',cl')=>[sI al' (aV kv<|λv_=>v_.hp==ci) cl']:=by
 refine aU Tryz.func173 rfl hs (aC<|dL [.al] [] (λb1=>[(3,p_ b1)]) (λb1=>aA b1 [i_ ci] 3) ?_)
 intro b1
 refine aC<|an 2 [] [(5,p_ bt),(6,.func (.func 225) #[] #[p_ b1])]<|aG<|eM (some 7) [p_ bt,.func (.func 225) #[] #[p_ b1]] Tryz.func128 rfl (aE []<|aD<|aE [(9,b_ false)]<|bM<|aO<|aE [(5,e_)]<|bS<|eI 4 [.rd [.map<|some mb]] [(13,.map<|some mb)] (o1<|ro ⟨bt,0,none⟩ (vs:=[.map<|some mb])<|cE r0 rfl) ?_)
 obtain⟨⟨es2,cl2,hhp2,hEn2,hbo2,hnd2⟩,hkn2⟩:=id r1
 refine aG<|Bw (kt:=3) (et:=62) (es:=es2) (clock:=cl2) 14 (by kernel_rfl) rfl rfl (by kernel_rfl) (λw s=>na s hhp2<|by simp[aN]) (λb3=>[aA b1 [i_ ci] 3,gZ b3 mb es2 cl2 ([]:E6)]) (λ_=>rfl) ?_
 intro b3
 refine eE<|aR<|gW 3 1 [aA b1 [i_ ci] 3,gZ b3 mb es2 cl2 ([]:E6),sI none ([]:Wx) 0] rfl (ca 2 (sI none (bf kv (λv_=>v_.hp==ci) ([]:E6)) 0) rfl (eJ (by rfl:([]:Wx)=(bf kv (λv_=>v_.hp==ci) ([]:E6)))) (ei [(uq b1),(5,vS none (bf kv (λv_=>v_.hp==ci) ([]:E6)) 0),(13,.map<|some mb),(14,p_ b3)] ⟨rfl,congrArg (λz_:Wx=>some<|Value.slice none z_.length 0) (by rfl:([]:Wx)=(bf kv (λv_=>v_.hp==ci) ([]:E6))),rfl,rfl,trivial⟩<|iC (σ:=(E6)×(k0)×Nat) [13] (λ(seen,ao,co)=>[(5,vS ao (bf kv (λv_=>v_.hp==ci) seen) co)]) [1,1] (λ(seen,ao,co)=>[gZ b3 mb es2 cl2 seen,sI ao (bf kv (λv_=>v_.hp==ci) seen) co]) (λ(seen,ao,co)=>seen.Nodup∧(∀j∈seen,j<kv.length)) (λ(seen,ao,co)=>kv.length-seen.length) (([]:E6),none,0) ⟨(by simp),(by simp)⟩ ?_ ?_))
 ·exact cX [1,1,0]
 rintro⟨seen,ao,co⟩ ⟨hn,hb⟩
 have hsl:=ue hn hb;have hsk:=yy kv (λv_=>v_.hp==ci) seen
 refine aC<|aG<|By (enck:=(λk:Int=>i_ k)) (encv:=(λv_:Cl=>(.agg (aX v_).toArray))) (kv:=kv) 0 15 (by kernel_rfl) rfl rfl rfl (λw s=>na s hhp2<|by simp[aN]) hEn2 hbo2 hnd2 ‹_› (λj5=>[gZ b3 mb es2 cl2<|seen++[j5],sI ao (bf kv (λv_=>v_.hp==ci) seen) co,aA b1 [i_ ci] 3]) (λ_=>rfl) (λhall5=>?_) (λj5 mk5 mv5 hj5 hn5=>?_)
 ·refine da [] [(uq b1),(14,p_ b3),(5,vS ao (bf kv (λv_=>v_.hp==ci) seen) co),(16,b_ false)]<|aD<|bM<|bg<|aC<|cV [.p] [(27,vS ao (bf kv (λv_=>v_.hp==ci) seen) co)]<|aG<|b0 (some 28) [1] (w8 ao (bf kv (λv_=>v_.hp==ci) seen) co<|by omega) ?_
  rintro⟨⟩-
  refine eE<|aE [(4,vS ao (bf kv (λv_=>v_.hp==ci) seen) co)]<|aF<|d6 [vS ao (bf kv (λv_=>v_.hp==ci) seen) co]<|aQ [(4,vS ao (bf kv (λv_=>v_.hp==ci) seen) co)]<|aF<|ca 0 (sI ao (aV kv<|λv_=>v_.hp==ci) co) rfl (eJ (tf hn hb ‹_›:(gb<|bf kv (λv_=>v_.hp==ci) seen)=(aV kv<|λv_=>v_.hp==ci))) (bR [0] [vS ao (bf kv (λv_=>v_.hp==ci) seen) co] (ao,co) ?_ ?_)
  ·show((vS ao (bf kv (λv_=>v_.hp==ci) seen) co):Value)=(vS ao (aV kv<|λv_=>v_.hp==ci) co)
   rw[←tf (f:=λv_=>v_.hp==ci) hn hb ‹_›];unfold vS;rw[pM]
  trivial
 refine da [] [(uq b1),(14,p_ b3),(5,vS ao (bf kv (λv_=>v_.hp==ci) seen) co),(16,b_ true)]<|aD<|dU<|aO<|aR<|aC<|aG<|cC (some 17) (.tuple #[i_ mk5,.agg (aX mv5).toArray]) (yx (enck:=(λk:Int=>i_ k)) (encv:=(λv_:Cl=>(.agg (aX v_).toArray))) (kv:=kv) (k:=mk5) (v:=mv5) 0 j5 rfl rfl rfl (λw s=>na s hhp2<|by simp[aN]) hEn2 hnd2 hj5)<|yR [.al,.st 3] (λb6=>[(uq b1),(14,p_ b3),(5,vS ao (bf kv (λv_=>v_.hp==ci) seen) co),(7,p_ b6),(6,i_ mk5)]) (λ_=>[]) (λb6=>aA b6 (aX mv5) 62) ?_
 intro b6
 refine aC<|an 2 [.ld 3] [(20,.func (.func 225) #[] #[p_ b1]),(21,.agg (aX mv5).toArray)]<|aG<|eM (some 22) [.agg (aX mv5).toArray,p_ b1] Tryz.func225 rfl (aC<|dL [.al] [] (λb7=>[(2,p_ b7)]) (λb7=>aA b7 (aX mv5) 62) ?_)
 intro b7
 refine aC<|bB [.ld 4,.ld 2] [(3,b_<|mv5.hp==ci)]<|aF<|d6 [b_<|mv5.hp==ci]<|j6 [gZ b3 mb es2 cl2<|seen++[j5],sI ao (bf kv (λv_=>v_.hp==ci) seen) co,aA b1 [i_ ci] 3] (sd [4,3])<|eE<|aL rfl (λe2=>?_) (λe2=>?_)
 ·refine aM<|k9 [.p,.p] [(uq b1),(14,p_ b3),(5,vS ao (bf kv (λv_=>v_.hp==ci) seen) co),(23,vS ao (bf kv (λv_=>v_.hp==ci) seen) co),(24,i_ mk5)]<|aG<|eB 25 (e:=3) [i_ mk5] (by kernel_rfl) rfl (λ_=>by kernel_rfl) _ (λ_=>rfl) ?_
  intro b8
  refine aG<|iJ gq (bf kv (λv_=>v_.hp==ci) seen) ([mk5]) 1 26 (i_ 0) 8 dG j9 (ef (i:=3) rfl) (by simp;omega) ?_
  intro A9 c9
  refine aQ [(5,vS A9 ((bf kv (λv_=>v_.hp==ci) seen)++([mk5])) c9)]<|(ca 1 (sI A9 (bf kv (λv_=>v_.hp==ci)<|seen++[j5]) c9) rfl (eJ (rp ‹_› ‹_›:(bf kv (λv_=>v_.hp==ci) seen)++([mk5])=(bf kv (λv_=>v_.hp==ci)<|seen++[j5]))) (dO 5 (vS A9 (bf kv (λv_=>v_.hp==ci)<|seen++[j5]) c9) (kJ<|rp ‹_› ‹_›)<|bN ((seen++[j5]),A9,c9) ⟨((ja hn hb ‹_› ‹_›).1),((ja hn hb ‹_› ‹_›).2.1)⟩ (by((have h_:=(ja hn hb ‹_› ‹_›).2.2);simp;omega)) ?_))
  exact cX [0,0,0]
 refine aO<|ca 1 (sI ao (bf kv (λv_=>v_.hp==ci)<|seen++[j5]) co) rfl (eJ (vH ‹_› ‹_›:(bf kv (λv_=>v_.hp==ci) seen)=(bf kv (λv_=>v_.hp==ci)<|seen++[j5]))) (ei [(uq b1),(14,p_ b3),(5,vS ao (bf kv (λv_=>v_.hp==ci)<|seen++[j5]) co),(6,i_ mk5),(20,.func (.func 225) #[] #[p_ b1]),(21,.agg (aX mv5).toArray),(22,b_<|mv5.hp==ci)] ⟨rfl,rfl,kJ<|by exact vH ‹_› ‹_›,rfl,rfl,rfl,rfl,trivial⟩<|bN ((seen++[j5]),ao,co) ⟨((ja hn hb ‹_› ‹_›).1),((ja hn hb ‹_› ‹_›).2.1)⟩ (by((have h_:=(ja hn hb ‹_› ‹_›).2.2);simp;omega)) ?_)
 exact cX [0,0,0]
theorem XH:HOk []:=λk=>by simp[dep,fC,aB]
def kE(kv:List (Int×Cl))(ci:Int):Int:=if(aB kv ci).isSome=false then 6 else if(((aV kv<|λv_=>v_.hp==ci)).length:Int)>0 then 23 else 0
def py(kv:List (Int×Cl))(ci:Int):List (Int×Cl):=if kE kv ci=0 then aW kv ci else kv
theorem Uj(bt mb:Nat)(kv:hV Cl)(ci:Int)(hl:kv.length≤1000):
  CS 135 #[p_ bt,i_ ci] [aA bt [.map<|some mb] 185,cN mb kv] (λ(kv':(hV Cl))=>(i_<|kE kv ci)) (λkv'=>kv'=py kv ci) λkv'=>[aA bt [.map<|some mb] 185,cN mb kv']:=by
 intro w hs
 refine aU Tryz.func135 rfl hs (aE []<|aD<|aE [(8,b_ false)]<|bM<|aO<|bS<|an 5 [.ld 0] [(13,.map<|some mb),(14,i_ ci)]<|aG<|cC (some 15) _ (pH (kt:=3) (et:=62) (enck:=(λk:Int=>i_ k)) (encv:=(λv_:Cl=>(.agg (aX v_).toArray))) (b:=mb) (kv:=kv) (k:=ci) (d0:=cG) (λw s=>s.mem (i:=1) rfl) rfl rfl rfl (by kernel_rfl) nD (by kernel_rfl) rfl)<|dM [.al,.st 2] [] (λb1=>[(6,b_<|(aB kv ci).isSome)]) (λb1=>[]) (λb1=>aA b1 (aX<|(aB kv ci).getD cG) 62) ?_)
 intro b1
 refine aE [(19,b_ (!((aB kv ci).isSome)))]<|aL rfl (λe1=>?_) (λe1=>?_)
 ·refine aE [(4,i_ 6)]<|aF<|bR [0,0] [i_ 6] (kv) ?_ ?_
  ·refine congrArg (Value.int .i64) ?_;unfold kE;(simp_all;done)
  unfold py kE;(simp_all;done)
 refine aO<|bS<|an 2 [] [(20,p_ bt),(21,i_ ci)]<|aG<|dH (some 22) [] (λw s h=>CX bt mb kv ci ‹_› w (s.mem (i:=0) rfl) (s.mem (i:=1) rfl) h) ?_
 rintro⟨al'2,cl'3⟩-
 refine aQ [(24,b_<|decide (((aV kv<|λv_=>v_.hp==ci).length:Int)>0))]<|aL rfl (λe3=>?_) (λe3=>?_)
 ·have p3:=Zg e3
  refine aE [(4,i_ 23)]<|aF<|bR [1,1] [i_ 23] (kv) ?_ ?_
  ·refine congrArg (Value.int .i64) ?_;unfold kE;(simp_all;done)
  unfold py kE;(simp_all;done)
 have p3:=Zh e3
 refine aO<|aC<|an 5 [.ld 1] [(28,.map<|some mb),(29,i_ ci)]<|aG<|wQ (kt:=3) (et:=62) (enck:=(λk:Int=>i_ k)) (encv:=(λv_:Cl=>(.agg (aX v_).toArray))) (kv:=kv) (k:=ci) 2 [sI al'2 (aV kv<|λv_=>v_.hp==ci) cl'3,aA bt [.map<|some mb] 185,cN mb<|aW kv ci,aA b1 (aX<|(aB kv ci).getD cG) 62] (by kernel_rfl) rfl rfl rfl (by kernel_rfl) nD rfl rfl (eE<|aE [(4,i_ 0)]<|aF<|bR [1,1] [i_ 0] (aW kv ci) ?_ ?_)
 ·refine congrArg (Value.int .i64) ?_;unfold kE;(simp_all;done)
 unfold py kE;(simp_all;done)
def lD(kv:List (Int×Cl))(i:Int):Bool:=decide ((ai ((aB kv i).getD cG).la ((aB kv i).getD cG).lb ((aB kv i).getD cG).lc)>1)
def il(kv:List (Int×Cl))(y:Cl):Int:=
 if fK y≠0 then fK y else if(aB kv y.hi).isSome=false then 6
 else if y.hp≠(aK kv y.hi).hp∨y.hl≠(aK kv y.hi).hl then 1
 else if((ai y.la y.lb y.lc)>1∧i7 kv y.hp=false)∨((ai y.la y.lb y.lc)≤1∧((aV kv<|λv_=>v_.hp==y.hi)).any (lD kv)=true) then 29 else 0
def mC(kv:List (Int×Cl))(y:Cl):List (Int×Cl):=if il kv y=0 then aJ kv y.hi y else kv
variable{l:Wx}{f:Int→Bool}
theorem Af(h:l[k]? =some i)(hf:f i=true):l.any f=true:=List.any_eq_true.2 ⟨i,Zd h,hf⟩
theorem K9(hn: ∀x∈l.take k,f x=false)(hk:l.length≤k):l.any f=false:=by
 rw[List.take_of_length_le hk] at hn;rw[List.any_eq_false];intro x hx;simp[hn x hx]
theorem Uk(hn: ∀x∈l.take k,f x=false)(h:l[k]? =some i)(hf:f i=false): ∀x∈l.take (k+1),f x=false:=by
 rw[List.take_add_one,h];intro x hx;rcases List.mem_append.1 hx with hx|hx
 ·exact hn x hx
 ·simp at hx;rw[hx];exact hf
abbrev JV(p0:Cl):=((b_<|decide ((ai p0.la p0.lb p0.lc)>1)):Value)
abbrev zf(p0)(p1):=(aA p0 [.map<|some p1] 185:V.aI)
abbrev zg(p0):=((1,.func (.func 172) #[] #[p_ p0]):Nat×Value)
abbrev uu(p0):=((8,.func (.func 172) #[] #[p_ p0]):Nat×Value)
abbrev rU(p0):=((1,.agg (aX p0).toArray):Nat×Value)
abbrev qT(p0):=((14,b_<|(fK p0)!=0):Nat×Value)
theorem Ul(bt mb:Nat)(kv:hV Cl)(y:Cl)(hl:kv.length≤1000):
  CS 133 #[p_ bt,.agg (aX y).toArray] [zf bt mb,cN mb kv] (λ(kv':(hV Cl))=>(i_<|il kv y)) (λkv'=>kv'=mC kv y) λkv'=>[zf bt mb,cN mb kv']:=by
 intro w hs
 have hkl:=rM kv<|λv_=>v_.hp==y.hi
 refine aU Tryz.func133 rfl hs (aC<|iK [.al,.al] [] (λb1 b2=>[(2,p_ b1),(3,p_ b2),(4,i_ 0)]) (λb1 b2=>[aA b1 [p_ bt] 131,aA b2 (aX y) 62]) ?_)
 intro b1 b2
 refine bS<|bB [.ld 2] [(10,b_ false)]<|bM<|az<|dF [.ld 3,.cq<|i_<|fK y] [(5,i_<|fK y)] (o1<|qw<|HV y)<|aE [(qT y)]<|aL rfl (λe1=>?_) (λe1=>?_)
 ·refine aE [(4,i_<|fK y)]<|aF<|bR [0,0] [i_<|fK y] (kv) ?_ ?_
  ·refine congrArg (Value.int .i64) ?_;unfold il;(simp_all[aK];done)
  unfold mC il;(simp_all[aK];done)
 refine az<|jx [10,11] 13 [zf bt mb,cN mb kv,aA b1 [p_ bt] 131,aA b2 (aX y) 62]<|iL 7 [.ld 2,.ld 0,.ld 3] (rg 0 6) [(0,p_ bt),(rU y),(2,p_ b1),(3,p_ b2),(4,i_ 0),(10,b_ false),(5,i_<|fK y),(qT y),(20,.map<|some mb),(22,i_ y.hi)] (.refl _)<|Gm 6 (some 23) (.tuple #[.agg (aX<|(aB kv y.hi).getD cG).toArray,b_<|(aB kv y.hi).isSome]) rfl (by kernel_rfl) (by kernel_rfl) (.refl _) (pH (kt:=3) (et:=62) (enck:=(λk:Int=>i_ k)) (encv:=(λv_:Cl=>(.agg (aX v_).toArray))) (b:=mb) (kv:=kv) (k:=y.hi) (d0:=cG) (λw s=>s.mem (i:=1) rfl) rfl rfl rfl (by kernel_rfl) nD (by kernel_rfl) rfl) (iL 3 [] [7,8,9] [(0,p_ bt),(rU y),(2,p_ b1),(3,p_ b2),(4,i_ 0),(10,b_ false),(5,i_<|fK y),(qT y),(24,.agg (aX<|(aB kv y.hi).getD cG).toArray),(25,b_<|(aB kv y.hi).isSome)] (.refl _)<|gR 10 rfl (nV 6 [i_ 0,i_ 0,b_ false,u_ 0,u_ 0,u_ 0,u_ 0,u_ 0,u_ 0,u_ 0,u_ 0,u_ 0,i_ 0,i_ 0] (by kernel_rfl) rfl (by kernel_rfl) (λb3=>[zf bt mb,cN mb kv,aA b1 [p_ bt] 131,aA b2 (aX y) 62,aA b3 [i_ 0,i_ 0,b_ false,u_ 0,u_ 0,u_ 0,u_ 0,u_ 0,u_ 0,u_ 0,u_ 0,u_ 0,i_ 0,i_ 0] 62]) (λ_=>rfl) ?_))
 intro b3
 refine gI (sd [4])<|gR 11 rfl (dQ 4 (aX<|(aB kv y.hi).getD cG) rfl (gI (sd [4])<|iL 0 [] [12] [(0,p_ bt),(rU y),(2,p_ b1),(3,p_ b2),(4,i_ 0),(10,b_ false),(5,i_<|fK y),(qT y),(6,p_ b3),(7,b_<|(aB kv y.hi).isSome)] (sd [4])<|je<|aE [(uu b1)]<|aD<|aR<|aE [(27,b_ (!((aB kv y.hi).isSome)))]<|aL rfl (λe2=>?_) (λe2=>?_)))
 ·refine aE [(4,i_ 6)]<|aF<|bR [0,0] [i_ 6] (kv) ?_ ?_
  ·refine congrArg (Value.int .i64) ?_;unfold il;(simp_all[aK];done)
  unfold mC il;(simp_all[aK];done)
 refine aC<|bB [.ld 3,.ld 4,.o,.ld 3,.ld 4,.eq,.cl] [(30,b_<|(y.hp !=(((aB kv y.hi).getD cG).hp))||(!(y.hl==(((aB kv y.hi).getD cG).hl))))]<|aL rfl (λe3=>?_) (λe3=>?_)
 ·refine aE [(4,i_ 1)]<|aF<|bR [0,0] [i_ 1] (kv) ?_ ?_
  ·refine congrArg (Value.int .i64) ?_;unfold il;(simp_all[aK];done)
  unfold mC il;(simp_all[aK];done)
 refine aC<|eI 10 [.ld 3,.cq<|JV y,.o,.ld 2,.ld 3,.cq<|b_<|i7 kv y.hp,.cl] [(53,b_<|(decide ((ai y.la y.lb y.lc)>1))&&(!(i7 kv y.hp)))] (oc (qw<|pI y)<|o1<|go (true&&((decide ((ai y.la y.lb y.lc)>1))==true)) λh_=>(qo<|λw s=>Gy bt mb kv y.hp w (s.mem (i:=0) rfl)<|s.mem (i:=1) rfl))<|i5 ((decide ((ai y.la y.lb y.lc)>1))&&(!(i7 kv y.hp))) (λe4=>?_)<|λe4=>?_
 ·refine dO 53 (b_ true) (gB e4)<|bB [.sk,.sk,.sk,.sk,.sk,.sk,.sk,.sk,.sk,.sk,.sk] [(43,b_ true)]<|dU<|aE [(4,i_ 29)]<|aF<|bR [0,0] [i_ 29] (kv) ?_ ?_
  ·refine congrArg (Value.int .i64) ?_;unfold il;(simp_all[aK];done)
  unfold mC il;(simp_all[aK];done)
 refine dO 53 (b_ false) (gB e4)<|eI 4 [.ld 3,.cq<|JV y] [(57,b_ (!(decide ((ai y.la y.lb y.lc)>1))))] (o1<|qw<|pI y)<|i5 (!(decide ((ai y.la y.lb y.lc)>1))) (λe5=>?_)<|λe5=>?_
 ·refine dO 57 (b_ true) (gB e5)<|an 3 [.ld 2,.ld 3] [(58,p_ bt),(60,i_ y.hi)]<|aG<|dH (some 61) [] (λw s h=>CX bt mb kv y.hi ‹_› w (s.mem (i:=0) rfl) (s.mem (i:=1) rfl) h) ?_
  rintro⟨al'4,cl'5⟩-
  refine cV [.p] [(61,vS al'4 (aV kv<|λv_=>v_.hp==y.hi) cl'5),(62,.func (.func 172) #[] #[p_ b1])]<|aG<|eM (some 63) [vS al'4 (aV kv<|λv_=>v_.hp==y.hi) cl'5,.func (.func 172) #[] #[p_ b1]] Tryz.func68 rfl (aE [(4,b_ false)]<|aC<|an 2 [] [(5,vS al'4 (aV kv<|λv_=>v_.hp==y.hi) cl'5),(6,.func (.func 172) #[] #[p_ b1])]<|aG<|eM (some 7) [vS al'4 (aV kv<|λv_=>v_.hp==y.hi) cl'5,.func (.func 172) #[] #[p_ b1]] Tryz.func98 rfl (aE [(4,i_ 0)]<|aD<|aE [(7,i_ ((aV kv<|λv_=>v_.hp==y.hi).length:Int)),(8,i_ 0)]<|aR<|iC (σ:=Nat) [4] (λk=>[(8,c_ k)]) [] (λk=>[]) (λk=>(k≤(aV kv<|λv_=>v_.hp==y.hi).length)∧(∀x∈(aV kv<|λv_=>v_.hp==y.hi).take k,lD kv x=false)) (λk=>(aV kv<|λv_=>v_.hp==y.hi).length-k) (0:Nat) ⟨(by omega),(by simp)⟩ ?_ ?_))
  ·exact cX [0,0,0,0,0,0]
  rintro k ⟨hk,hn⟩
  refine aC<|da [] [(0,vS al'4 (aV kv<|λv_=>v_.hp==y.hi) cl'5),(zg b1),(7,i_ ((aV kv<|λv_=>v_.hp==y.hi).length:Int)),(8,c_ k),(9,b_<|decide ((k:Int)<((aV kv<|λv_=>v_.hp==y.hi).length:Int)))]<|aD<|aL rfl (λe7=>?_) (λe7=>?_)
  ·have p7:=Zg e7
   refine az<|aR<|aE [(5,c_ k)]<|aC<|eI 4 [.ix] [(11,.func (.func 172) #[] #[p_ b1]),(14,.pointer<|some<|(au al'4).add (k*1))] (o1<|jV 0 k dG rfl (by omega)) ?_
   obtain⟨x7,hx7⟩: ∃x,((aV kv<|λv_=>v_.hp==y.hi))[k]? =some x:=⟨_,Ze<|by omega⟩
   refine jJ [.rd [i_ x7]] [(15,i_ x7)] (o1<|ro ((au al'4).add (k*1))<|dr (vs:=[i_ x7]) dG (bW (i:=0) rfl) hx7 (Nat.le_of_ble_eq_true rfl) rfl)<|aG<|eM (some 16) [i_ x7,p_ b1] Tryz.func172 rfl (aE [(3,b_ false)]<|aC<|an 5 [.ld 3,.ld 1] [(7,.map<|some mb),(8,i_ x7)]<|aG<|cC (some 9) _ (kg (kt:=3) (et:=62) (enck:=(λk:Int=>i_ k)) (encv:=(λv_:Cl=>(.agg (aX v_).toArray))) (b:=mb) (kv:=kv) (k:=x7) (d0:=cG) (λw s=>s.mem (i:=2) rfl) rfl rfl rfl (by kernel_rfl) nD (by kernel_rfl) rfl)<|aj [.cq<|b_<|decide ((ai ((aB kv x7).getD cG).la ((aB kv x7).getD cG).lb ((aB kv x7).getD cG).lc)>1)] [(3,b_<|decide ((ai ((aB kv x7).getD cG).la ((aB kv x7).getD cG).lb ((aB kv x7).getD cG).lc)>1))] (o1<|qw<|pI<|(aB kv x7).getD cG)<|aF<|d6 [b_<|decide ((ai ((aB kv x7).getD cG).la ((aB kv x7).getD cG).lb ((aB kv x7).getD cG).lc)>1)]<|eE<|ei [(0,vS al'4 (aV kv<|λv_=>v_.hp==y.hi) cl'5),(zg b1),(7,i_ ((aV kv<|λv_=>v_.hp==y.hi).length:Int)),(8,c_ k),(9,b_<|decide ((k:Int)<((aV kv<|λv_=>v_.hp==y.hi).length:Int))),(5,c_ k),(16,b_<|decide ((ai ((aB kv x7).getD cG).la ((aB kv x7).getD cG).lb ((aB kv x7).getD cG).lc)>1))] ⟨rfl,rfl,rfl,rfl,rfl,rfl,rfl,trivial⟩<|aL rfl (λe8=>?_) (λe8=>?_))
   ·have p8:=Zg e8
    refine aE [(4,c_ k)]<|aF<|d6 [c_ k]<|da [] [(0,vS al'4 (aV kv<|λv_=>v_.hp==y.hi) cl'5),(zg b1),(4,b_<|decide ((k:Int)≥0))]<|aF<|d6 [b_<|decide ((k:Int)≥0)]<|da [] [(0,p_ bt),(rU y),(2,p_ b1),(3,p_ b2),(4,i_ 0),(10,b_ false),(5,i_<|fK y),(qT y),(6,p_ b3),(7,b_<|(aB kv y.hi).isSome),(uu b1),(27,b_ (!((aB kv y.hi).isSome))),(30,b_<|(y.hp !=(((aB kv y.hi).getD cG).hp))||(!(y.hl==(((aB kv y.hi).getD cG).hl)))),(43,b_<|decide ((k:Int)≥0))]<|aL rfl (λe9=>?_) (λe9=>?_)
    ·have p9:=Zg e9
     refine aE [(4,i_ 29)]<|aF<|bR [1,1] [i_ 29] (kv) ?_ ?_
     ·refine congrArg (Value.int .i64) ?_;unfold il;(have hq_:=Af (f:=lD kv) ‹_› (by unfold lD;assumption);simp only[hq_];simp_all[aK];done)
     unfold mC il;(have hq_:=Af (f:=lD kv) ‹_› (by unfold lD;assumption);simp only[hq_];simp_all[aK];done)
    have p9:=Zh e9
    refine aO<|aD<|bY [7] 8<|cQ 1 [.ld 3,.ld 1,.ld 4,.ld 4] (rg 0 7) [(69,.map<|some mb),(71,i_ y.hi),(72,.agg (aX y).toArray)]<|bF 7 rfl (gV 3 62 2 y.hi y rfl nD (cb<|eN<|ei [(0,p_ bt),(rU y),(2,p_ b1),(3,p_ b2),(4,i_ 0),(10,b_ false),(5,i_<|fK y),(qT y),(6,p_ b3),(7,b_<|(aB kv y.hi).isSome),(uu b1),(27,b_ (!((aB kv y.hi).isSome))),(30,b_<|(y.hp !=(((aB kv y.hi).getD cG).hp))||(!(y.hl==(((aB kv y.hi).getD cG).hl)))),(43,b_<|decide ((k:Int)≥0))] ⟨rfl,rfl,rfl,rfl,rfl,rfl,rfl,rfl,rfl,rfl,rfl,rfl,rfl,rfl,trivial⟩<|aE []<|aF<|bR [1,1] [i_ 0] (aJ kv y.hi y) ?_ ?_))
    ·refine congrArg (Value.int .i64) ?_;unfold il;(have hq_:=Af (f:=lD kv) ‹_› (by unfold lD;assumption);simp only[hq_];simp_all[aK];done)
    unfold mC il;(have hq_:=Af (f:=lD kv) ‹_› (by unfold lD;assumption);simp only[hq_];simp_all[aK];done)
   have p8:=Zh e8
   refine aO<|aM<|aj [.w<|(k:Int)+1] [(8,i_<|(k:Int)+1)] (o1<|wj ((k:Int)+1)<|by omega)<|bN (k+1) ⟨(by omega),(Uk hn ‹_› ‹_›)⟩ (by omega) ?_
   exact cX [0,0,0,0,0,0]
  have p7:=Zh e7
  refine bg<|aE [(4,i_ (-1))]<|aF<|d6 [i_ (-1)]<|da [] [(0,vS al'4 (aV kv<|λv_=>v_.hp==y.hi) cl'5),(zg b1),(4,b_ false)]<|aF<|d6 [b_ false]<|da [] [(0,p_ bt),(rU y),(2,p_ b1),(3,p_ b2),(4,i_ 0),(10,b_ false),(5,i_<|fK y),(qT y),(6,p_ b3),(7,b_<|(aB kv y.hi).isSome),(uu b1),(27,b_ (!((aB kv y.hi).isSome))),(30,b_<|(y.hp !=(((aB kv y.hi).getD cG).hp))||(!(y.hl==(((aB kv y.hi).getD cG).hl)))),(43,b_ false)]<|bM<|aO<|aD<|bY [7] 8<|cQ 1 [.ld 3,.ld 1,.ld 4,.ld 4] (rg 0 7) [(69,.map<|some mb),(71,i_ y.hi),(72,.agg (aX y).toArray)]<|bF 7 rfl (gV 3 62 2 y.hi y rfl nD (cb<|eN<|ei [(0,p_ bt),(rU y),(2,p_ b1),(3,p_ b2),(4,i_ 0),(10,b_ false),(5,i_<|fK y),(qT y),(6,p_ b3),(7,b_<|(aB kv y.hi).isSome),(uu b1),(27,b_ (!((aB kv y.hi).isSome))),(30,b_<|(y.hp !=(((aB kv y.hi).getD cG).hp))||(!(y.hl==(((aB kv y.hi).getD cG).hl)))),(43,b_ false)] ⟨rfl,rfl,rfl,rfl,rfl,rfl,rfl,rfl,rfl,rfl,rfl,rfl,rfl,rfl,trivial⟩<|aE []<|aF<|bR [1,1] [i_ 0] (aJ kv y.hi y) ?_ ?_))
  ·refine congrArg (Value.int .i64) ?_;unfold il;(have hq_:=K9 hn (by omega);simp only[hq_];simp_all[aK];done)
  unfold mC il;(have hq_:=K9 hn (by omega);simp only[hq_];simp_all[aK];done)
 refine dO 57 (b_ false) (gB e5)<|bB [.sk,.sk,.sk,.sk,.sk,.sk] [(43,b_ false)]<|bM<|aO<|aD<|bY [7] 8<|cQ 1 [.ld 2,.ld 0,.ld 3,.ld 3] (rg 0 7) [(69,.map<|some mb),(71,i_ y.hi),(72,.agg (aX y).toArray)]<|bF 7 rfl (gV 3 62 1 y.hi y rfl nD (cb<|eN<|ei [(0,p_ bt),(rU y),(2,p_ b1),(3,p_ b2),(4,i_ 0),(10,b_ false),(5,i_<|fK y),(qT y),(6,p_ b3),(7,b_<|(aB kv y.hi).isSome),(uu b1),(27,b_ (!((aB kv y.hi).isSome))),(30,b_<|(y.hp !=(((aB kv y.hi).getD cG).hp))||(!(y.hl==(((aB kv y.hi).getD cG).hl)))),(43,b_ false)] ⟨rfl,rfl,rfl,rfl,rfl,rfl,rfl,rfl,rfl,rfl,rfl,rfl,rfl,rfl,trivial⟩<|aE []<|aF<|bR [0,0] [i_ 0] (aJ kv y.hi y) ?_ ?_))
 ·refine congrArg (Value.int .i64) ?_;unfold il;grind[aK]
 unfold mC il;grind[aK]
theorem Ot{α:Type}{l:List α}{x:α}(hx:l[k]? =some x):l.take (k+1)=l.take k++[x]:=by rw[List.take_add_one,hx];rfl
def kX(l:List Cl):List (Int×Cl):=l.map λc=>(c.hi,c)
def vx(l:List Cl)(a:Int):Bool:=a==0||decide ((bD (aK (kX l) a).la (aK (kX l) a).lb (aK (kX l) a).lc)>1)
def Gf(l:List Cl)(a:Int):Nat:=fC (kX l) 70 a
def s7(l:List Cl)(a:Int):List Int:=(l.filter λc=>decide (c.hp=a)).map (·.hi)
def Nk(a:Int)(l:List Cl):List Cl:=l.filter<|λr=> !decide (r.hi=a)
def fG(x:Cl)(l:List Cl):Nat→List Cl×Bool
 |0=>([],false)
 |k+1=>match l[k]? with
  |none=>fG x l k
  |some r=>
   (if r.hi≠x.hi then(if !(fG x l k).2&&decide (r.hi≥x.hi) then(fG x l k).1++[x] else(fG x l k).1)++[r] else(if !(fG x l k).2&&decide (r.hi≥x.hi) then(fG x l k).1++[x] else(fG x l k).1),
    (fG x l k).2||(!(fG x l k).2&&decide (r.hi≥x.hi)))
variable{x:Cl}
theorem QT{r:Cl}{l:List Cl}(h:l[k]? =some r):fG x l (k+1)=
 (if r.hi≠x.hi then(if !(fG x l k).2&&decide (r.hi≥x.hi) then(fG x l k).1++[x] else(fG x l k).1)++[r] else(if !(fG x l k).2&&decide (r.hi≥x.hi) then(fG x l k).1++[x] else(fG x l k).1),
  (fG x l k).2||(!(fG x l k).2&&decide (r.hi≥x.hi))):=by rw[fG,h]
def uR(x:Cl)(l:List Cl):List Cl:=if(fG x l l.length).2 then(fG x l l.length).1 else(fG x l l.length).1++[x]
def GB(l:List Cl)(y:Cl):Int:=if rq y≠0 then rq y else if(aB (kX l) y.hi).isSome=true then 8 else if(l.length:Int)=64 then 5
 else if y.hp≠0∧(aB (kX l) y.hp=none∨(aK (kX l) y.hp).hl=true) then 23
 else if(bD y.la y.lb y.lc)>1∧vx l y.hp=false then 29 else if(Gf l y.hp:Int)≥16 then 25 else 0
def M3(l:List Cl)(y:Cl):List Cl:=if GB l y=0 then uR y l else l
def GF(l:List Cl)(a:Int):Int:=if aB (kX l) a=none then 6 else if((s7 l a).length:Int)>0 then 23 else 0
def M4(l:List Cl)(a:Int):List Cl:=if GF l a=0 then Nk a l else l
def B7(l:List Cl)(y:Cl)(i:Int):Bool:= !decide ((bD y.la y.lb y.lc)>1)&&vx l i
def GG(l:List Cl)(y:Cl):Int:=if rq y≠0 then rq y else if aB (kX l) y.hi=none then 6
 else if(aK (kX l) y.hi).hp≠y.hp∨(aK (kX l) y.hi).hl≠y.hl then 1
 else if(bD y.la y.lb y.lc)>1∧vx l y.hp=false then 29 else if(s7 l y.hi).any (B7 l y)=true then 29 else 0
def M5(l:List Cl)(y:Cl):List Cl:=if GG l y=0 then uR y l else l
def mX(x:Cl):Prop:=((-9223372036854775808)≤x.hi∧x.hi≤9223372036854775807)∧((-9223372036854775808)≤x.hp∧x.hp≤9223372036854775807)∧True∧(0≤x.ra∧x.ra≤18446744073709551615)∧(0≤x.rb∧x.rb≤18446744073709551615)∧(0≤x.rc∧x.rc≤18446744073709551615)∧(0≤x.la∧x.la≤18446744073709551615)∧(0≤x.lb∧x.lb≤18446744073709551615)∧(0≤x.lc∧x.lc≤18446744073709551615)∧(0≤x.ua∧x.ua≤18446744073709551615)∧(0≤x.ub∧x.ub≤18446744073709551615)∧(0≤x.uc∧x.uc≤18446744073709551615)∧((-9223372036854775808)≤x.hk∧x.hk≤9223372036854775807)∧((-9223372036854775808)≤x.hq∧x.hq≤9223372036854775807)
def RS(R:List Cl):Prop:=R.Pairwise<|λa b=>a.hi<b.hi
structure SF(x:Cl)(R:List Cl)(k:Nat):Prop where
 mem: ∀y,y∈(fG x R k).1↔((fG x R k).2=true∧y=x)∨(y∈R.take k∧y.hi≠x.hi)
 lo:(fG x R k).2=false→ ∀r∈R.take k,r.hi<x.hi
 hi:(fG x R k).2=true→ ∃r∈R.take k,x.hi≤r.hi
 srt:RS (fG x R k).1
variable{y:Cl}
theorem uv{A:List Cl}(h:RS A)(hy: ∀a∈A,a.hi<y.hi):RS (A++[y]):=List.pairwise_append.2 ⟨h,by simp,λa ha b hb=>by simp at hb;subst hb;exact hy a ha⟩
variable{R:List Cl}
theorem Eu(x:Cl)(h:RS R): ∀k,SF x R k
 |0=>⟨by simp[fG],by simp,by simp[fG],by simp[fG,RS]⟩
 |k+1=>by
  have ih:=Eu x h k
  cases hr:R[k]? with
  |none=>
   have e1:fG x R (k+1)=fG x R k:=by rw[fG,hr]
   have e2:R.take (k+1)=R.take k:=by rw[List.take_add_one,hr];simp
   exact⟨by rw[e1,e2];exact ih.mem,by rw[e1,e2];exact ih.lo,by rw[e1,e2];exact ih.hi,by rw[e1];exact ih.srt⟩
  |some r=>
   have et:R.take (k+1)=R.take k++[r]:=Ot hr
   have hlt: ∀a∈R.take k,a.hi<r.hi:=λa ha=>by
    obtain⟨i,hi⟩:=List.mem_iff_getElem?.1 ha
    rw[List.getElem?_take] at hi;split at hi
    ·obtain⟨h1,h2⟩:=Zf.1 hi
     obtain⟨h3,h4⟩:=Zf.1 hr
     have:=List.pairwise_iff_getElem.1 h i k h1 h3 ‹_›;rw[h2,h4] at this;exact this
    ·cases hi
   have es:=QT (x:=x) hr
   have keep: ∀a∈(fG x R k).1,a=x∨a.hi<r.hi:=λa ha=>by
    rcases(ih.mem a).1 ha with⟨_,e⟩|⟨e,_⟩
    ·exact .inl e
    ·exact .inr<|hlt a e
   cases hp:(fG x R k).2 with
   |true=>
    obtain⟨q,hq,hqx⟩:=ih.hi hp
    have hxr:x.hi<r.hi:=by have:=hlt q hq;omega
    have hne:r.hi≠x.hi:=by omega
    have e:fG x R (k+1)=((fG x R k).1++[r],true):=by rw[es,hp];simp[hne]
    refine⟨λy=>?_,?_,?_,?_⟩
    ·rw[e,et];simp only[List.mem_append,List.mem_singleton,ih.mem y,hp];constructor
     ·rintro((h1|⟨h1,h2⟩)|h1)
      ·exact .inl h1
      ·exact .inr ⟨.inl h1,h2⟩
      ·exact .inr ⟨.inr h1,by rw[h1];exact hne⟩
     ·rintro(h1|⟨h1|h1,h2⟩)
      ·exact .inl<|.inl h1
      ·exact .inl<|.inr ⟨h1,h2⟩
      ·exact .inr h1
    ·rw[e];intro g;cases g
    ·rw[e,et];intro _;exact⟨q,by simp[hq],hqx⟩
    ·rw[e];exact uv ih.srt λa ha=>by
      rcases keep a ha with rfl|g
      ·exact hxr
      ·exact g
   |false=>
    have hlo:=ih.lo hp
    have hsub: ∀a∈(fG x R k).1,a.hi<x.hi∧a.hi<r.hi:=λa ha=>by
     rcases(ih.mem a).1 ha with⟨e,_⟩|⟨e,_⟩
     ·rw[hp] at e;cases e
     ·exact⟨hlo a e,hlt a e⟩
    by_cases hge:x.hi≤r.hi
    ·by_cases hne:r.hi=x.hi
     ·have e:fG x R (k+1)=((fG x R k).1++[x],true):=by rw[es,hp];simp[hne]
      refine⟨λy=>?_,?_,?_,?_⟩
      ·rw[e,et];simp only[List.mem_append,List.mem_singleton,ih.mem y,hp];constructor
       ·rintro((⟨h1,_⟩|⟨h1,h2⟩)|h1)
        ·cases h1
        ·exact .inr ⟨.inl h1,h2⟩
        ·exact .inl ⟨trivial,h1⟩
       ·rintro(⟨_,h1⟩|⟨h1|h1,h2⟩)
        ·exact .inr h1
        ·exact .inl<|.inr ⟨h1,h2⟩
        ·exact absurd (by rw[h1];exact hne) h2
      ·rw[e];intro g;cases g
      ·rw[e,et];intro _;exact⟨r,by simp,hge⟩
      ·rw[e];exact uv ih.srt λa ha=>(hsub a ha).1
     ·have e:fG x R (k+1)=(((fG x R k).1++[x])++[r],true):=by rw[es,hp];simp[hne,hge]
      refine⟨λy=>?_,?_,?_,?_⟩
      ·rw[e,et];simp only[List.mem_append,List.mem_singleton,ih.mem y,hp];constructor
       ·rintro(((⟨h1,_⟩|⟨h1,h2⟩)|h1)|h1)
        ·cases h1
        ·exact .inr ⟨.inl h1,h2⟩
        ·exact .inl ⟨trivial,h1⟩
        ·exact .inr ⟨.inr h1,by rw[h1];exact hne⟩
       ·rintro(⟨_,h1⟩|⟨h1|h1,h2⟩)
        ·exact .inl<|.inr h1
        ·exact .inl<|.inl<|.inr ⟨h1,h2⟩
        ·exact .inr h1
      ·rw[e];intro g;cases g
      ·rw[e,et];intro _;exact⟨r,by simp,hge⟩
      ·rw[e];refine uv (uv ih.srt λa ha=>(hsub a ha).1) λa ha=>?_
       rcases List.mem_append.1 ha with ha|ha
       ·exact(hsub a ha).2
       ·simp at ha;subst ha;omega
    ·have hne:r.hi≠x.hi:=by omega
     have e:fG x R (k+1)=((fG x R k).1++[r],false):=by rw[es,hp];simp[hne,hge]
     refine⟨λy=>?_,?_,?_,?_⟩
     ·rw[e,et];simp only[List.mem_append,List.mem_singleton,ih.mem y,hp];constructor
      ·rintro((⟨h1,_⟩|⟨h1,h2⟩)|h1)
       ·cases h1
       ·exact .inr ⟨.inl h1,h2⟩
       ·exact .inr ⟨.inr h1,by rw[h1];exact hne⟩
      ·rintro(⟨h1,_⟩|⟨h1|h1,h2⟩)
       ·cases h1
       ·exact .inl<|.inr ⟨h1,h2⟩
       ·exact .inr h1
     ·rw[e,et];intro _ a ha
      rcases List.mem_append.1 ha with ha|ha
      ·exact hlo a ha
      ·simp at ha;subst ha;omega
     ·rw[e];intro g;cases g
     ·rw[e];exact uv ih.srt λa ha=>(hsub a ha).2
theorem wu(h:RS R)(y:Cl):y∈uR x R↔y=x∨(y∈R∧y.hi≠x.hi):=by
 have s:=(Eu x h R.length).mem y
 rw[List.take_length] at s
 unfold uR;split
 ·rename_i hp;rw[s,hp];simp
 ·rename_i hp;rw[List.mem_append,s];simp[hp];exact or_comm
theorem QU(h:RS R):RS (uR x R):=by
 have s:=Eu x h R.length
 unfold uR;split
 ·exact s.srt
 ·rename_i hp;refine uv s.srt λa ha=>?_
  rcases(s.mem a).1 ha with⟨e,_⟩|⟨e,_⟩
  ·exact absurd e hp
  ·exact s.lo (by simpa using hp) a e
structure KR(kv:List (Int×Cl))(R:List Cl):Prop where
 srt:RS R
 get: ∀k y,aB kv k=some y↔y∈R∧y.hi=k
 nd:(kv.map (·.1)).Nodup
 rng: ∀y∈R,mX y
theorem Um:KR [] []:=⟨by simp[RS],λk y=>by simp[aB],by simp,by simp⟩
theorem JW(h:RS R)(k:Int)(y:Cl):aB (kX R) k=some y↔y∈R∧y.hi=k:=by
 have hn:((kX R).map (·.1)).Nodup:=by
  unfold kX;rw[List.map_map];exact List.pairwise_map.2 (h.imp λh1 e=>by simp at e;omega)
 constructor
 ·intro e
  obtain⟨z,hz,e2⟩:=List.mem_map.1<|o0 e;cases e2;exact⟨hz,rfl⟩
 ·rintro⟨hy,rfl⟩;exact yY hn<|List.mem_map.2 ⟨y,hy,rfl⟩
theorem vI(h:KR kv R)(k:Int):aB kv k=aB (kX R) k:=by
 cases e:aB (kX R) k with
 |some y=>exact(h.get k y).2 ((JW h.srt k y).1 e)
 |none=>
  cases e2:aB kv k with
  |none=>rfl
  |some y=>have:=(JW h.srt k y).2 ((h.get k y).1 e2);rw[e] at this;cases this
theorem Ag(h:KR kv R)(k:Int):aK kv k=aK (kX R) k:=by unfold aK;rw[vI h]
theorem JX(h:KR kv R): ∀n k,fC kv n k=fC (kX R) n k
 |0,_=>rfl
 |n+1,k=>by unfold fC;rw[vI h,Ag h,JX h n]
theorem Ci(kv:hV Cl)(m:Nat): ∀(n:Nat)(k:Int),fC kv n k<n→fC kv (n+m) k=fC kv n k
 |0,k,h=>by omega
 |n+1,k,h=>by
  rw[show n+1+m=(n+m)+1 by omega]
  unfold fC at h⊢
  split
  ·rename_i hs;rw[if_pos hs] at h;rw[Ci kv m n _<|by omega]
  ·rfl
theorem Un(h:KR kv R)(hO:HOk kv)(k:Int):Gf R k=dep kv k:=by
 unfold Gf dep;rw[←JX h]
 exact Ci kv 53 17 k (by have:=hO k;unfold dep at this;omega)
theorem M6(h:KR kv R)(hy:y∈R):aB kv y.hi=some y:=(h.get _ _).2 ⟨hy,rfl⟩
theorem O2(h:l.Pairwise (· < ·)):gb l=l:=by
 have tr: ∀a b c:Int,decide (a≤b)=true→decide (b≤c)=true→decide (a≤c)=true:=λa b c h1 h2=>by simp only[decide_eq_true_eq] at*;omega
 have to: ∀a b:Int,(decide (a≤b)||decide (b≤a))=true:=λa b=>by simp only[Bool.or_eq_true,decide_eq_true_eq];omega
 unfold gb
 refine List.Perm.eq_of_pairwise (le:=λa b:Int=>decide (a≤b)=true) (λa b _ _ h1 h2=>?_) (List.pairwise_mergeSort tr to _) (h.imp λh1=>by simp;omega)<|List.mergeSort_perm _ _
 simp only[decide_eq_true_eq] at h1 h2;omega
theorem SD(h:KR kv R)(f:Cl→Bool):aV kv f=(R.filter f).map (·.hi):=by
 have hs:((R.filter f).map (·.hi)).Pairwise (· < ·):=List.pairwise_map.2<|h.srt.filter f
 unfold aV;rw[←O2 hs];refine HT ?_
 refine(List.perm_ext_iff_of_nodup ((h.nd).sublist (List.Sublist.map _ List.filter_sublist))<|hs.imp λh1 e=>by omega).2 λk=>?_
 rw[List.mem_map,List.mem_map];constructor
 ·rintro⟨p,hp,rfl⟩
  obtain⟨h1,h2⟩:=List.mem_filter.1 hp
  obtain⟨h3,h4⟩:=(h.get p.1 p.2).1 (yY h.nd h1)
  exact⟨p.2,List.mem_filter.2 ⟨h3,h2⟩,h4⟩
 ·rintro⟨r,hr,rfl⟩
  obtain⟨h1,h2⟩:=List.mem_filter.1 hr
  exact⟨_,List.mem_filter.2 ⟨o0<|M6 h h1,h2⟩,rfl⟩
theorem SE(h:KR kv R):(kv.map (·.1)).Perm (R.map (·.hi)):=by
 have hs:(R.map (·.hi)).Nodup:=List.pairwise_map.2<|h.srt.imp λh1 e=>by omega
 refine(List.perm_ext_iff_of_nodup h.nd hs).2 λk=>?_
 rw[List.mem_map,List.mem_map];constructor
 ·rintro⟨p,hp,rfl⟩
  obtain⟨h3,h4⟩:=(h.get p.1 p.2).1 (yY h.nd hp);exact⟨p.2,h3,h4⟩
 ·rintro⟨r,hr,rfl⟩;exact⟨_,o0<|M6 h hr,rfl⟩
theorem Uo(h:KR kv R):kv.length=R.length:=by simpa using(SE h).length_eq
theorem BR(h:mX y):(0≤y.ra∧0≤y.rb∧0≤y.rc)∧(0≤y.la∧0≤y.lb∧0≤y.lc)∧0≤y.ua∧0≤y.ub∧0≤y.uc:=by
 unfold mX at h;omega
theorem I4(h:mX y):fK y=rq y:=by
 obtain⟨⟨h1,h2,h3⟩,⟨h4,h5,h6⟩,h7,h8,h9⟩:=BR h
 unfold fK rq;rw[qS h1 h2 h3,qS h4 h5 h6,qS h7 h8 h9]
theorem GH(h:mX y):ai y.la y.lb y.lc=bD y.la y.lb y.lc:=qS (BR h).2.1.1 (BR h).2.1.2.1 (BR h).2.1.2.2
theorem Up:mX cG:=by unfold mX cG;decide
theorem Ur(h:KR kv R)(k:Int):mX (aK kv k):=by
 unfold aK;cases e:aB kv k with
 |none=>exact Up
 |some y=>exact h.rng y ((h.get k y).1 e).1
theorem Cj(h:KR kv R)(k:Int):i7 kv k=vx R k:=by
 unfold i7 vx;rw[GH<|Ur h k,Ag h]
theorem GI(h:KR kv R)(a:Int):aV kv (λv_=>v_.hp==a)=s7 R a:=by
 rw[SD h];unfold s7;congr 1
theorem Ko(h:KR kv R)(hx:mX x):KR (aJ kv x.hi x) (uR x R):=by
 refine⟨QU h.srt,λk y=>?_,mn h.nd _ _,λr hr=>?_⟩
 ·rw[ig];by_cases e:x.hi=k
  ·rw[if_pos e];subst e;constructor
   ·intro g;cases g;exact⟨(wu h.srt x).2 (.inl rfl),rfl⟩
   ·rintro⟨hr,e1⟩
    rcases(wu h.srt y).1 hr with rfl|⟨_,g⟩
    ·rfl
    ·exact absurd e1 g
  ·rw[if_neg e,h.get];constructor
   ·rintro⟨hr,e1⟩;exact⟨(wu h.srt y).2 (.inr ⟨hr,λg=>e<|by rw[←g,e1]⟩),e1⟩
   ·rintro⟨hr,e1⟩
    rcases(wu h.srt y).1 hr with rfl|⟨g,_⟩
    ·exact absurd e1 e
    ·exact⟨g,e1⟩
 ·rcases(wu h.srt r).1 hr with rfl|⟨g,_⟩
  ·exact hx
  ·exact h.rng r g
theorem Us(h:KR kv R)(a:Int):KR (aW kv a) (Nk a R):=by
 refine⟨List.Pairwise.filter _ h.srt,λk y=>?_,lX h.nd a,λr hr=>h.rng r (List.mem_filter.1 hr).1⟩
 rw[gP h.nd]
 by_cases e:a=k
 ·rw[if_pos e];subst e;constructor
  ·intro g;cases g
  ·rintro⟨hr,e1⟩;have:=(List.mem_filter.1 hr).2;simp[e1] at this
 ·rw[if_neg e,h.get];constructor
  ·rintro⟨hr,e1⟩;exact⟨List.mem_filter.2 ⟨hr,by simp[e1];exact λg=>e g.symm⟩,e1⟩
  ·rintro⟨hr,e1⟩;exact⟨(List.mem_filter.1 hr).1,e1⟩
structure cB(kv:List (Int×Cl)):Prop where
 nd:(kv.map (·.1)).Nodup
 key: ∀k y,aB kv k=some y→y.hi=k∧fK y=0
 par: ∀k y,aB kv k=some y→y.hp=0∨ ∃p,aB kv y.hp=some p∧p.hl=false
 shr: ∀k y,aB kv k=some y→(ai y.la y.lb y.lc)>1→i7 kv y.hp=true
 dep:HOk kv
 len:kv.length≤64
theorem I5:cB []:=⟨by simp,λk y h=>by simp[aB] at h,λk y h=>by simp[aB] at h,λk y h=>by simp[aB] at h,XH,by simp⟩
theorem ug(h:fK y=0):1≤y.hi∧0≤y.hp∧y.hi≠y.hp:=by
 unfold fK at h;split at h
 ·omega
 ·omega
theorem lO(h:cB kv):aB kv 0=none:=by
 cases e:aB kv 0 with
 |none=>rfl
 |some y=>obtain⟨h1,h2⟩:=h.key 0 y e;have:=ug h2;omega
variable{k:Int}
theorem fL(h:aB kv k=some y):aK kv k=y:=by unfold aK;rw[h];rfl
theorem Ew(h:aB kv k=none):aK kv k=cG:=by unfold aK;rw[h];rfl
theorem Ho(kv:hV Cl): ∀(n:Nat)(k:Int),fC kv n k≤fC kv (n+1) k
 |0,k=>by simp[fC]
 |n+1,k=>by
  rw[fC,fC];split
  ·have:=Ho kv n (aK kv k).hp;omega
  ·exact Nat.le_refl _
theorem Ut(h:ik kv y=0):fK y=0∧aB kv y.hi=none∧(kv.length:Int)≠64∧(y.hp=0∨aB kv y.hp≠none)∧(aK kv y.hp).hl=false∧((ai y.la y.lb y.lc)>1→i7 kv y.hp=true)∧(dep kv y.hp:Int)≠16:=by
 unfold ik at h
 repeat' split at h
 all_goals first|omega|skip
 rename_i h1 h2 h3 h4 h5 h6
 refine⟨by omega,?_,h3,?_,?_,?_,h6⟩
 ·cases e:aB kv y.hi with
  |none=>rfl
  |some z=>rw[e] at h2;simp at h2
 ·by_cases e:y.hp=0
  ·exact .inl e
  ·right;intro e2;apply h4;left;exact⟨e,by rw[e2];rfl⟩
 ·cases e:(aK kv y.hp).hl with
  |false=>rfl
  |true=>exact absurd (.inr e) h4
 ·intro g;cases e:i7 kv y.hp with
  |true=>rfl
  |false=>exact absurd ⟨g,e⟩ h5
theorem SG(h:cB kv)(hk:k=0∨aB kv k≠none):(aK kv k).hp=0∨aB kv (aK kv k).hp≠none:=by
 cases e:aB kv k with
 |none=>rw[Ew e];exact .inl rfl
 |some y=>rw[fL e];rcases h.par k y e with g|⟨p,g,_⟩
          ·exact .inl g
          ·right;rw[g];simp
theorem DZ(h:cB kv)(hn:aB kv y.hi=none)(h0:y.hi≠0): ∀(n:Nat)(k:Int),(k=0∨aB kv k≠none)→fC (aJ kv y.hi y) n k=fC kv n k
 |0,_,_=>rfl
 |n+1,k,hk=>by
  have hne: ¬y.hi=k:=by
   rcases hk with rfl|hk
   ·exact h0
   ·rintro rfl;exact hk hn
  have eg:aB (aJ kv y.hi y) k=aB kv k:=by rw[ig,if_neg hne]
  rw[fC,fC,eg,show aK (aJ kv y.hi y) k=aK kv k by unfold aK;rw[eg],DZ h hn h0 n _<|SG h hk]
theorem yZ(hne: ¬y.hi=k):i7 (aJ kv y.hi y) k=i7 kv k:=by
 unfold i7 aK;rw[ig,if_neg hne]
theorem QW(h:cB kv)(hE:ik kv y=0):cB (aJ kv y.hi y):=by
 obtain⟨h1,h2,h3,h4,h5,h6,h7⟩:=Ut hE
 obtain⟨w1,w2,w3⟩:=ug h1
 have old: ∀k z,aB kv k=some z→ ¬y.hi=z.hp:=λk z hz e=>by
  rcases h.par k z hz with g|⟨p,g,_⟩
  ·omega
  ·rw[←e,h2] at g;cases g
 refine⟨mn h.nd _ _,λk z hz=>?_,λk z hz=>?_,λk z hz hs=>?_,λk=>?_,?_⟩
 ·rw[ig] at hz;split at hz
  ·cases hz;exact⟨by assumption,h1⟩
  ·exact h.key k z hz
 ·rw[ig] at hz;split at hz
  ·cases hz
   rcases h4 with g|g
   ·exact .inl g
   ·right;cases e:aB kv y.hp with
    |none=>exact absurd e g
    |some p=>exact⟨p,by rw[ig,if_neg w3];exact e,by rw[←fL e];exact h5⟩
  ·rcases h.par k z hz with g|⟨p,g,g2⟩
   ·exact .inl g
   ·exact .inr ⟨p,by rw[ig,if_neg<|old k z hz];exact g,g2⟩
 ·rw[ig] at hz;split at hz
  ·cases hz;rw[yZ w3];exact h6 hs
  ·rw[yZ<|old k z hz];exact h.shr k z hz hs
 ·unfold dep
  by_cases e:y.hi=k
  ·subst e
   have eg:aB (aJ kv y.hi y) y.hi=some y:=by rw[ig,if_pos rfl]
   rw[fC,eg,fL eg,DZ h h2 (by omega) 16 _ h4]
   have q1:fC kv 16 y.hp≤fC kv 17 y.hp:=Ho kv 16 y.hp
   have q2:=h.dep y.hp
   unfold dep at*
   simp only[Option.isSome_some,if_true]
   omega
  ·cases hm:aB kv k with
   |none=>
    rw[fC,ig,if_neg e,hm];simp
   |some z=>rw[DZ h h2 (by omega) 17 k<|.inr (by rw[hm];simp)];exact h.dep k
 ·rw[CM _ h2];have:=h.len;omega
theorem Hq{kv':hV Cl}(h1: ∀k,(aB kv' k).isSome=(aB kv k).isSome)(h2: ∀k,(aK kv' k).hp=(aK kv k).hp): ∀(n:Nat)(k:Int),fC kv' n k=fC kv n k
 |0,_=>rfl
 |n+1,k=>by rw[fC,fC,h1,h2,Hq h1 h2 n]
theorem Uu(h:il kv y=0):fK y=0∧aB kv y.hi≠none∧y.hp=(aK kv y.hi).hp∧y.hl=(aK kv y.hi).hl∧((ai y.la y.lb y.lc)>1→i7 kv y.hp=true)∧((ai y.la y.lb y.lc)≤1→(aV kv<|λv_=>v_.hp==y.hi).any (lD kv)=false):=by
 unfold il at h
 repeat' split at h
 all_goals first|omega|skip
 rename_i h1 h2 h3 h4
 refine⟨by omega,?_,?_,?_,?_,?_⟩
 ·intro e;apply h2;rw[e];rfl
 ·exact Classical.byContradiction λg=>h3<|.inl g
 ·exact Classical.byContradiction λg=>h3<|.inr g
 ·intro g;cases e:i7 kv y.hp with
  |true=>rfl
  |false=>exact absurd (.inl ⟨g,e⟩) h4
 ·intro g;cases e:(aV kv<|λv_=>v_.hp==y.hi).any (lD kv) with
  |false=>rfl
  |true=>exact absurd (.inr ⟨g,e⟩) h4
theorem tM{f:Cl→Bool}{v:Cl}(h:aB kv k=some v)(hf:f v=true):k∈aV kv f:=by
 unfold aV gb;rw[(List.mergeSort_perm _ _).mem_iff,List.mem_map]
 exact⟨(k,v),List.mem_filter.2 ⟨o0 h,hf⟩,rfl⟩
theorem QX(h:cB kv)(hE:il kv y=0):cB (aJ kv y.hi y):=by
 obtain⟨h1,h2,h3,h4,h5,h6⟩:=Uu hE
 obtain⟨w1,w2,w3⟩:=ug h1
 obtain⟨x,hx⟩: ∃x,aB kv y.hi=some x:=by
  cases e:aB kv y.hi with
  |none=>exact absurd e h2
  |some x=>exact⟨x,rfl⟩
 rw[fL hx] at h3 h4
 have hsh: ∀z:Cl,z.hp=y.hi→ ∀k,aB kv k=some z→(ai z.la z.lb z.lc)>1→(ai y.la y.lb y.lc)>1:=λz e k hz hs=>by
  rcases Classical.em ((ai y.la y.lb y.lc)>1) with g|g
  ·exact g
  ·have:=List.any_eq_false.1 (h6<|by omega) k<|tM hz<|by simp[e]
   unfold lD at this;rw[hz] at this;simp at this;omega
 refine⟨mn h.nd _ _,λk z hz=>?_,λk z hz=>?_,λk z hz hs=>?_,λk=>?_,?_⟩
 ·rw[ig] at hz;split at hz
  ·cases hz;exact⟨by assumption,h1⟩
  ·exact h.key k z hz
 ·have par:z.hp=0∨ ∃p,aB kv z.hp=some p∧p.hl=false:=by
   rw[ig] at hz;split at hz
   ·cases hz;rw[h3];exact h.par _ _ hx
   ·exact h.par k z hz
  rcases par with g|⟨p,g,g2⟩
  ·exact .inl g
  ·right;by_cases e:y.hi=z.hp
   ·refine⟨y,by rw[ig,if_pos e],?_⟩
    rw[←e,hx] at g;cases g;rw[h4];exact g2
   ·exact⟨p,by rw[ig,if_neg e];exact g,g2⟩
 ·rw[ig] at hz;split at hz
  ·cases hz;rw[yZ w3];exact h5 hs
  ·by_cases e:y.hi=z.hp
   ·unfold i7 aK;rw[ig,if_pos e]
    have:=hsh z e.symm k hz hs
    simp;right;omega
   ·rw[yZ e];exact h.shr k z hz hs
 ·unfold dep;rw[Hq (kv:=kv) (λq=>?_)<|λq=>?_]
  ·exact h.dep k
  ·rw[ig];split
   ·rename_i e;subst e;rw[hx];rfl
   ·rfl
  ·unfold aK;rw[ig];split
   ·rename_i e;subst e;rw[hx];exact h3
   ·rfl
 ·rw[Gx _ h2];exact h.len
theorem Uw{a:Int}(h:kE kv a=0):aB kv a≠none∧ ∀k z,aB kv k=some z→z.hp≠a:=by
 unfold kE at h
 repeat' split at h
 all_goals first|omega|skip
 rename_i h1 h2
 refine⟨λe=>h1 (by rw[e];rfl),λk z hz e=>?_⟩
 have:k∈aV kv (λv_=>v_.hp==a):=tM hz<|by simp[e]
 have:=List.length_pos_of_mem this;omega
theorem QY(h:cB kv){a:Int}(hE:kE kv a=0):cB (aW kv a):=by
 obtain⟨h1,h2⟩:=Uw hE
 have gt: ∀k z,aB (aW kv a) k=some z→aB kv k=some z:=λk z hz=>by
  rw[gP h.nd] at hz;split at hz
  ·cases hz
  ·exact hz
 have same: ∀k,¬a=k→aB (aW kv a) k=aB kv k:=λk hk=>by rw[gP h.nd,if_neg hk]
 have dn: ∀(n:Nat)(k:Int),fC (aW kv a) n k≤fC kv n k:=by
  intro n;induction n with
  |zero=>intro k;simp[fC]
  |succ n ih=>
   intro k;by_cases e:a=k
   ·rw[fC];rw[gP h.nd,if_pos e];simp
   ·rw[fC,fC,same k e,show aK (aW kv a) k=aK kv k by unfold aK;rw[same k e]]
    split
    ·have:=ih (aK kv k).hp;omega
    ·exact Nat.le_refl _
 refine⟨lX h.nd a,λk z hz=>h.key k z<|gt k z hz,λk z hz=>?_,λk z hz hs=>?_,λk=>Nat.le_trans (dn 17 k)<|h.dep k,?_⟩
 ·rcases h.par k z (gt k z hz) with g|⟨p,g,g2⟩
  ·exact .inl g
  ·exact .inr ⟨p,by rw[same _<|Ne.symm<|h2 k z<|gt k z hz];exact g,g2⟩
 ·have:=h.shr k z (gt k z hz) hs
  unfold i7 aK at this⊢;rw[same _<|Ne.symm<|h2 k z<|gt k z hz];exact this
 ·have:=yw h1;have:=h.len;omega
theorem HY{g:Int→Bool}: ∀{l:Wx},(∀i∈l,f i=g i)→l.any f=l.any g
 |[],_=>rfl
 |x::l,h=>by rw[List.any_cons,List.any_cons,h x<|by simp,HY λi hi=>h i<|by simp[hi]]
theorem SH(h:KR kv R)(hi:i≠0):lD kv i=vx R i:=by
 rw[←Cj h];unfold lD i7;rw[show((aB kv i).getD cG)=aK kv i from rfl]
 have:(i==0)=false:=by simpa using hi
 rw[this];simp
theorem Ux(h:KR kv R)(hL:cB kv)(hy:mX y):ik kv y=GB R y:=by
 unfold ik GB
 rw[I4 hy,Cj h,GH hy,Un h hL.dep,←Uo h,←Ag h,←vI h,←vI h]
 have hd:=hL.dep y.hp
 by_cases c1:rq y≠0
 ·rw[if_pos c1,if_pos c1]
 rw[if_neg c1,if_neg c1]
 by_cases c2:(aB kv y.hi).isSome=true
 ·rw[if_pos c2,if_pos c2]
 rw[if_neg c2,if_neg c2]
 by_cases c3:(kv.length:Int)=64
 ·rw[if_pos c3,if_pos c3]
 rw[if_neg c3,if_neg c3]
 have e4:((y.hp≠0∧(aB kv y.hp).isSome=false)∨(aK kv y.hp).hl=true)↔(y.hp≠0∧(aB kv y.hp=none∨(aK kv y.hp).hl=true)):=by
  by_cases e0:y.hp=0
  ·rw[e0,Ew<|lO hL];simp[cG]
  ·simp[e0]
 simp only[e4]
 have e6:((dep kv y.hp:Int)=16)↔((dep kv y.hp:Int)≥16):=by omega
 simp only[e6]
theorem Uy(h:KR kv R)(a:Int):kE kv a=GF R a:=by
 unfold kE GF;rw[GI h,←vI h];cases aB kv a<;>simp
theorem Uz(h:KR kv R)(hL:cB kv)(hy:mX y):il kv y=GG R y:=by
 unfold il GG
 have ea:(s7 R y.hi).any (B7 R y)=(!decide ((bD y.la y.lb y.lc)>1)&&(s7 R y.hi).any (lD kv)):=by
  have e1:(s7 R y.hi).any (B7 R y)=(s7 R y.hi).any (λi=> !decide ((bD y.la y.lb y.lc)>1)&&lD kv i):=by
   refine HY λi hi=>?_
   rw[←GI h] at hi
   have hi2:i∈kv.map (·.1):=by
    unfold aV gb at hi;rw[(List.mergeSort_perm _ _).mem_iff] at hi
    obtain⟨p,hp,rfl⟩:=List.mem_map.1 hi;exact List.mem_map_of_mem (List.mem_filter.1 hp).1
   obtain⟨p,hp,rfl⟩:=List.mem_map.1 hi2
   obtain⟨k1,k2⟩:=hL.key p.1 p.2<|yY h.nd hp
   have:=ug k2
   unfold B7;rw[SH h<|by omega]
  rw[e1];cases decide ((bD y.la y.lb y.lc)>1)<;>simp
 rw[I4 hy,Cj h,GH hy,GI h,ea,←Ag h,←vI h]
 by_cases c1:rq y≠0
 ·rw[if_pos c1,if_pos c1]
 rw[if_neg c1,if_neg c1]
 cases c2:aB kv y.hi with
 |none=>simp
 |some x=>
  simp only[Option.isSome_some,reduceCtorEq,if_false]
  have e3:(y.hp≠(aK kv y.hi).hp∨y.hl≠(aK kv y.hi).hl)↔((aK kv y.hi).hp≠y.hp∨(aK kv y.hi).hl≠y.hl):=by rw[ne_comm,ne_comm (a:=y.hl)]
  simp only[e3]
  by_cases c4:(bD y.la y.lb y.lc)>1
  ·have: ¬(bD y.la y.lb y.lc)≤1:=by omega
   simp[c4,this]
  ·have:(bD y.la y.lb y.lc)≤1:=by omega
   simp[c4,this]
theorem PV(h:cB kv)(y:Cl):cB (mW kv y):=by
 unfold mW;split
 ·exact QW h ‹_›
 ·exact h
theorem PW(h:cB kv)(y:Cl):cB (mC kv y):=by
 unfold mC;split
 ·exact QX h ‹_›
 ·exact h
theorem PX(h:cB kv)(a:Int):cB (py kv a):=by
 unfold py;split
 ·exact QY h ‹_›
 ·exact h
theorem SI(h:KR kv R)(hL:cB kv)(hy:mX y):KR (mW kv y) (M3 R y):=by
 unfold mW M3;rw[Ux h hL hy];split
 ·exact Ko h hy
 ·exact h
theorem SJ(h:KR kv R)(hL:cB kv)(hy:mX y):KR (mC kv y) (M5 R y):=by
 unfold mC M5;rw[Uz h hL hy];split
 ·exact Ko h hy
 ·exact h
theorem SK(h:KR kv R)(a:Int):KR (py kv a) (M4 R a):=by
 unfold py M4;rw[Uy h];split
 ·exact Us h a
 ·exact h
structure Pl where
 pp:Int
 pf:Int
 deriving Inhabited,DecidableEq
def sL(x:Pl):List Value:=[(i_ x.pp),(i_ x.pf)]
def ak:Pl:=⟨0,0⟩
def fA(on:List (Int×Int))(kv:List (Int×MB))(i:Int):Bool:=(aB on i).isSome||decide ((kx kv i).length>0)
def bU(ym:List (Int×Pl))(i:Int):Int:=((aB ym i).getD ak).pp
def jT(ym:List (Int×Pl))(i:Int):Bool:=decide (((aB ym i).getD ak).pf≠0)
def mY(F:Int→List (Int×Int))(p i:Int):Int→List (Int×Int):=λq=>if p=q then aJ (F p) i 1 else F q
def iP(F:Int→List (Int×Int))(p i:Int):Int→List (Int×Int):=λq=>if p=q then aW (F p) i else F q
def jR(ym:List (Int×Pl)):Nat→Int→Prop
 |0,_=>False
 |n+1,i=>bU ym i=0∨jR ym n (bU ym i)
def fD(ym:List (Int×Pl))(F:Int→List (Int×Int)):Nat→Int→List Int×(Int→List (Int×Int))
 |0,i=>([i],F)
 |n+1,i=>if F (bU ym i)≠[]∨bU ym i=0 then([i],mY F (bU ym i) i) else
  (i::(fD ym (mY F (bU ym i) i) n<|bU ym i).1,(fD ym (mY F (bU ym i) i) n<|bU ym i).2)
def fV(ym:List (Int×Pl))(F:Int→List (Int×Int)):Nat→Int→List Int×(Int→List (Int×Int))
 |0,i=>([i],F)
 |n+1,i=>if iP F (bU ym i) i (bU ym i)≠[]∨bU ym i=0 then([i],iP F (bU ym i) i) else
  (i::(fV ym (iP F (bU ym i) i) n<|bU ym i).1,(fV ym (iP F (bU ym i) i) n<|bU ym i).2)
variable{ym:hV Pl}{F:Int→hV Int}{n:Nat}
theorem pW(h:F (bU ym i)≠[]∨bU ym i=0):fD ym F (n+1) i=([i],mY F (bU ym i) i):=by rw[fD,if_pos h]
theorem BS(h: ¬(F (bU ym i)≠[]∨bU ym i=0)):fD ym F (n+1) i=(i::(fD ym (mY F (bU ym i) i) n<|bU ym i).1,(fD ym (mY F (bU ym i) i) n<|bU ym i).2):=by rw[fD,if_neg h]
theorem tU(h:iP F (bU ym i) i (bU ym i)≠[]∨bU ym i=0):fV ym F (n+1) i=([i],iP F (bU ym i) i):=by rw[fV,if_pos h]
theorem Ey(h: ¬(iP F (bU ym i) i (bU ym i)≠[]∨bU ym i=0)):fV ym F (n+1) i=(i::(fV ym (iP F (bU ym i) i) n<|bU ym i).1,(fV ym (iP F (bU ym i) i) n<|bU ym i).2):=by rw[fV,if_neg h]
theorem Hr{p:Int}(h:F p=[]):iP F p i=F:=by
 funext q;unfold iP;split
 ·rename_i e;subst e;rw[h];rfl
 ·rfl
abbrev iY(b:Nat)(kv:hV Pl):V.aI:=bH (λk:Int=>i_ k) (λv_:Pl=>(.agg (sL v_).toArray)) b kv
abbrev fq(b:Nat)(kv:hV Int):V.aI:=bH (λk:Int=>i_ k) (λx:Int=>i_ x) b kv
abbrev hJ(b:Nat)(kv:hV MB):V.aI:=bH (λk:Int=>i_ k) pj b kv
theorem xo(bs mb mo mk:Nat)(ym:hV Pl)(on:hV Int)(kv:hV MB)(ci:Int)(w:World)(r0:(aA bs [.map<|some mb,.map<|some mo,.map<|some mk] 197).holds w)(r1:(iY mb ym).holds w)(r2:(fq mo on).holds w)(r3:(hJ mk kv).holds w)(r4:(ee kv).holds w):
  CW 109 #[p_ bs,i_ ci] w (b_<|fA on kv ci):=by
 refine aU Tryz.func109 rfl (HS.nil w) (aE []<|aD<|aE [(8,b_ false)]<|bM<|aO<|aC<|eI 5 [.rd [.map<|some mo]] [(13,.map<|some mo),(14,i_ ci)] (o1<|ro ⟨bs,1,none⟩ (vs:=[.map<|some mo])<|cE r0 rfl)<|aG<|cC (some 15) _ (vv 3 3 ci 0 (λw s=>bK s r2) eG)<|aQ [(6,b_<|(aB on ci).isSome)]<|aD<|i5 ((aB on ci).isSome) (λe1=>?_)<|λe1=>?_)
 ·refine dO 6 (b_ true) (gB e1) ?_
  refine aM<|bB [.sk,.sk,.sk,.sk,.sk,.sk,.sk,.sk] [(4,b_ true)] ?_
  refine aF<|bJ [b_ true] ?_
  refine congrArg Value.bool ?_;unfold fA;simp_all
 refine dO 6 (b_ false) (gB e1)<|aM<|eI 7 [.rd [.map<|some mk]] [(19,b_ false),(23,.map<|some mk),(24,i_ ci)] (o1<|ro ⟨bs,2,none⟩ (vs:=[.map<|some mk])<|cE r0 rfl) ?_
 rcases hk1:aB kv ci with _|m1
 ·have hx1:=Ds hk1
  refine aG<|cC (some 25) (.map none) (jC (zX hk1)<|qL 3 194 ci m0 (λww ss=>bK ss r3) eG) ?_
  refine aG<|cC (some 26) (i_ 0) (DV (kt:=3) (et:=3) rfl rfl (by kernel_rfl)) ?_
  refine aQ [(4,b_ false)] ?_
  refine aF<|bJ [b_ false] ?_
  refine congrArg Value.bool ?_;unfold fA;simp_all
 have hx1:=Dt hk1
 obtain⟨b1,hm1,hb1⟩:=UF r4 hk1
 refine aG<|cC (some 25) (.map<|some b1) (jC (tZ hk1 hm1)<|qL 3 194 ci m0 (λww ss=>bK ss r3) eG) ?_
 refine aG<|cC (some 26) (c_ m1.mx.length) (u7 (kt:=3) (et:=3) (enck:=(λk:Int=>i_ k)) (encv:=(λx:Int=>i_ x)) (b:=b1) (kv:=m1.mx) (λww ss=>bK ss hb1) rfl rfl (by kernel_rfl)) ?_
 refine aQ [(4,b_<|decide ((m1.mx.length:Int)>0))] ?_
 refine aF<|bJ [b_<|decide ((m1.mx.length:Int)>0)] ?_
 refine congrArg Value.bool ?_;unfold fA;simp_all
abbrev tw(p0)(p1)(p2)(p3):=(aA p0 [.map<|some p1,.map<|some p2,.map<|some p3] 197:V.aI)
theorem QZ(bs mb mo mk:Nat)(ym:hV Pl)(on:hV Int)(kv:hV MB)(ci:Int)(hno:jT ym ci=false∨fA on kv ci=false)(w:World)(r0:(tw bs mb mo mk).holds w)(r1:(iY mb ym).holds w)(r2:(fq mo on).holds w)(r3:(hJ mk kv).holds w)(r4:(ee kv).holds w):
  CW 216 #[p_ bs,i_ ci] w (.tuple #[e_,i_ 6]):=by
 refine aU Tryz.func216 rfl (HS.nil w) (aE []<|aD<|aR<|aE [(9,b_ false)]<|bM<|aC<|eI 5 [.rd [.map<|some mb]] [(16,.map<|some mb),(17,i_ ci)] (o1<|ro ⟨bs,0,none⟩ (vs:=[.map<|some mb])<|cE r0 rfl)<|aG<|cC (some 18) _ (qL 3 200 ci ak (λw s=>bK s r1) eG)<|aj [.o,.cq<|b_<|fA on kv ci,.cl] [(12,b_<|((((aB ym ci).getD ak).pf)==0)||(!(fA on kv ci)))] (o1<|go (true&&(((((aB ym ci).getD ak).pf)==0)==false)) λh_=>(qo<|λw s=>xo bs mb mo mk ym on kv ci w (bK s r0) (bK s r1) (bK s r2) (bK s r3)<|bK s r4))<|aL rfl (λe1=>?_) (λe1=>?_))
 ·refine aE [(4,e_),(5,i_ 6)]<|aF<|bJ [e_,i_ 6] ?_
  rfl
 exact absurd e1<|by(intro h_;unfold jT at hno;simp at h_;rcases hno with hno|hno;exact h_.1 (by simpa using hno);exact absurd h_.2 (by rw[hno];decide))
theorem VA(bs mb mo mk:Nat)(ym:hV Pl)(on:hV Int)(kv:hV MB)(ci:Int)(hlf:jT ym ci=true)(his:fA on kv ci=true)(hd0:jR ym 40 ci):
  CS 216 #[p_ bs,i_ ci] [tw bs mb mo mk,iY mb ym,fq mo on,hJ mk kv,ee kv] (λ((kv',al',cl'):(hV MB)×(k0)×Nat)=>(.tuple #[vS al' ((fV ym (kx kv) 40 ci).1) cl',i_ 0])) (λ(kv',al',cl')=>kx kv'=(fV ym (kx kv) 40 ci).2) λ(kv',al',cl')=>[tw bs mb mo mk,iY mb ym,fq mo<|aW on ci,hJ mk kv',ee kv',sI al' ((fV ym (kx kv) 40 ci).1) cl']:=by
 intro w hs
 refine aU Tryz.func216 rfl hs (aE []<|aD<|aR<|aE [(9,b_ false)]<|bM<|aC<|an 5 [.ld 0] [(16,.map<|some mb),(17,i_ ci)]<|aG<|cC (some 18) _ (kg (kt:=3) (et:=200) (enck:=(λk:Int=>i_ k)) (encv:=(λv_:Pl=>(.agg (sL v_).toArray))) (b:=mb) (kv:=ym) (k:=ci) (d0:=ak) (λw s=>s.mem (i:=1) rfl) rfl rfl rfl (by kernel_rfl) eG (by kernel_rfl) rfl)<|aj [.o,.cq<|b_<|fA on kv ci,.cl] [(12,b_<|((((aB ym ci).getD ak).pf)==0)||(!(fA on kv ci)))] (o1<|go (true&&(((((aB ym ci).getD ak).pf)==0)==false)) λh_=>(qo<|λw s=>xo bs mb mo mk ym on kv ci w (s.mem (i:=0) rfl) (s.mem (i:=1) rfl) (s.mem (i:=2) rfl) (s.mem (i:=3) rfl)<|s.mem (i:=4) rfl))<|aL rfl (λe1=>?_) (λe1=>?_))
 ·exact absurd e1<|by(intro h_;unfold jT at hlf;simp at h_ hlf;simp_all)
 have p1:=e1
 refine aO<|aC<|an 5 [.ld 0] [(30,.map<|some mo),(31,i_ ci)]<|aG<|wQ (kt:=3) (et:=3) (enck:=(λk:Int=>i_ k)) (encv:=(λx:Int=>i_ x)) (kv:=on) (k:=ci) 2 [tw bs mb mo mk,iY mb ym,fq mo<|aW on ci,hJ mk kv,ee kv] (by kernel_rfl) rfl rfl rfl (by kernel_rfl) eG rfl rfl (eE<|aC<|cV [.p] [(32,i_ ci)]<|aG<|eB 33 (e:=3) [i_ ci] (by kernel_rfl) rfl (λ_=>by kernel_rfl) _ (λ_=>rfl) ?_)
 intro b1
 refine aQ [(6,.slice (some ⟨b1,0,none⟩) 1 1)]<|aD<|yU 5 (b:=b1) 1 1 [tw bs mb mo mk,iY mb ym,fq mo<|aW on ci,hJ mk kv,ee kv,sI (some ⟨b1,0,none⟩) ([ci]) 1] rfl rfl (by decide) rfl (bZ [(6,vS (some ⟨b1,0,none⟩) ([ci]) 1),(7,i_ ci)]<|aR<|ca 5 (sI (some ⟨b1,0,none⟩) (([]:Wx)++[ci]) 1) rfl (eJ (by rfl:[ci]=(([]:Wx)++[ci]))) (dO 6 (vS (some ⟨b1,0,none⟩) (([]:Wx)++[ci]) 1) (kJ<|by rfl)<|iC (σ:=Int×Nat×(Wx)×(hV MB)×(k0)×Nat) [] (λ(i,n,pre,kvk,ao,co)=>[(7,i_ i),(6,vS ao (pre++[i]) co)]) [0,0,0,0,0,0] (λ(i,n,pre,kvk,ao,co)=>[tw bs mb mo mk,iY mb ym,fq mo<|aW on ci,hJ mk kvk,ee kvk,sI ao (pre++[i]) co]) (λ(i,n,pre,kvk,ao,co)=>((pre++(fV ym (kx kvk) n i).1,(fV ym (kx kvk) n i).2)=fV ym (kx kv) 40 ci)∧(jR ym n i)∧(pre.length+n≤40)) (λ(i,n,pre,kvk,ao,co)=>n) (ci,40,([]:Wx),kv,some ⟨b1,0,none⟩,1) ⟨(by rfl),‹_›,(by simp)⟩ ?_ ?_))
 ·exact cX [0,0,0,0,0,0]
 rintro⟨i,n,pre,kvk,ao,co⟩ ⟨hp,hd,hl⟩
 obtain⟨n,rfl⟩: ∃m,n=m+1:=by cases n with|zero=>exact hd.elim|succ m=>exact⟨m,rfl⟩
 refine aR<|aC<|an 5 [.ld 0] [(38,.map<|some mb),(39,i_ i)]<|aG<|cC (some 40) _ (kg (kt:=3) (et:=200) (enck:=(λk:Int=>i_ k)) (encv:=(λv_:Pl=>(.agg (sL v_).toArray))) (b:=mb) (kv:=ym) (k:=i) (d0:=ak) (λw s=>s.mem (i:=1) rfl) rfl rfl rfl (by kernel_rfl) eG (by kernel_rfl) rfl)<|aQ [(8,i_<|((aB ym i).getD ak).pp)]<|aC<|an 5 [.ld 0] [(45,.map<|some mk),(46,i_<|((aB ym i).getD ak).pp)] ?_
 rcases hk2:aB kvk (((aB ym i).getD ak).pp) with _|m2
 ·have hx2:=Ds hk2
  refine aG<|cC (some 47) (.map none) (jC (zX hk2)<|qL 3 194 (((aB ym i).getD ak).pp) m0 (qM 3 rfl) eG)<|cV [.p] [(48,i_ i)]<|aG<|cC none (.tuple #[]) (QO (kt:=3) (et:=3) (enck:=(λk:Int=>i_ k)) rfl rfl rfl (by kernel_rfl) eG)<|eE<|bS<|an 5 [.ld 0] [(52,.map<|some mk),(53,i_<|((aB ym i).getD ak).pp)]<|aG<|cC (some 54) (.map none) (jC (zX hk2)<|qL 3 194 (((aB ym i).getD ak).pp) m0 (qM 3 rfl) eG)<|aG<|cC (some 55) (i_ 0) (DV (kt:=3) (et:=3) rfl rfl (by kernel_rfl))<|aQ [(58,i_<|((aB ym i).getD ak).pp),(59,b_<|(((aB ym i).getD ak).pp)==0),(60,b_<|(((aB ym i).getD ak).pp)==0)]<|aL rfl (λe2=>?_) (λe2=>?_)
  ·have p2:=e2;try simp only[cR] at p2
   refine aD ?_
   have hq:kx kvk=iP (kx kvk) (bU ym i) i:=(Hr (by unfold bU;exact hx2)).symm
   have hs_:iP (kx kvk) (bU ym i) i (bU ym i)≠[]∨bU ym i=0:=by unfold iP bU;rw[if_pos rfl,hx2];(right;assumption)
   refine bZ [(4,vS ao (pre++[i]) co),(5,i_ 0)]<|aF<|ca 5 (sI ao ((fV ym (kx kv) 40 ci).1) co) rfl (eJ (by(rw[←hp,tU hs_]):(pre++[i])=((fV ym (kx kv) 40 ci).1))) (bR [0,0,0,0,0,0] [vS ao (pre++[i]) co,i_ 0] (kvk,ao,co) ?_ ?_)
   ·show((.tuple #[vS ao (pre++[i]) co,i_ 0]):Value)=(.tuple #[vS ao ((fV ym (kx kv) 40 ci).1) co,i_ 0])
    (rw[←hp,tU hs_])
   show kx kvk=(fV ym (kx kv) 40 ci).2
   (rw[hq,←hp,tU hs_])
  have p2:=e2;try simp only[cR] at p2
  refine az ?_
  have hq:kx kvk=iP (kx kvk) (bU ym i) i:=(Hr (by unfold bU;exact hx2)).symm
  have hg_: ¬(iP (kx kvk) (bU ym i) i (bU ym i)≠[]∨bU ym i=0):=by unfold iP bU;rw[if_pos rfl,hx2];rintro(h_|h_)<;>first|exact h_ rfl|contradiction
  refine aM<|an 2 [] [(62,vS ao (pre++[i]) co),(63,i_<|((aB ym i).getD ak).pp)]<|aG<|eB 64 (e:=3) [i_<|((aB ym i).getD ak).pp] (by kernel_rfl) rfl (λ_=>by kernel_rfl) _ (λ_=>rfl) ?_
  intro b3
  refine aG<|iJ gq (pre++[i]) ([((aB ym i).getD ak).pp]) 5 65 (i_ 0) 8 dG j9 (ef (i:=6) rfl) (by(simp;omega)) ?_
  intro A4 c4
  refine aQ [(6,vS A4 ((pre++[i])++([((aB ym i).getD ak).pp])) c4)]<|bZ [(7,i_<|((aB ym i).getD ak).pp)]<|?_
  have hnx:((pre++[i])++(fV ym (kx kvk) n<|bU ym i).1,(fV ym (kx kvk) n<|bU ym i).2)=fV ym (kx kv) 40 ci∧jR ym n (bU ym i):=by rw[hq,←hp,Ey hg_];exact⟨by simp,hd.resolve_left λh_=>hg_<|.inr h_⟩
  refine ca 5 (sI A4 ((pre++[i])++[((aB ym i).getD ak).pp]) c4) rfl (eJ (by rfl:(pre++[i])++([((aB ym i).getD ak).pp])=((pre++[i])++[((aB ym i).getD ak).pp]))) (dO 6 (vS A4 ((pre++[i])++[((aB ym i).getD ak).pp]) c4) (kJ<|by rfl)<|bN (((aB ym i).getD ak).pp,n,pre++[i],kvk,A4,c4) ⟨hnx.1,hnx.2,(by(simp;omega))⟩ (by(simp;done)) ?_)
  exact cX [0,0,0,0,0,0]
 have hx2:=Dt hk2
 refine OE [4] (λb2:Nat=>m2.mb=some b2) (λb2=>[ee<|aW kvk<|((aB ym i).getD ak).pp,fq b2 m2.mx]) (λw hs=>I0 kvk (((aB ym i).getD ak).pp) hk2 hs) rfl (λb2 hm2=>(aG<|cC (some 47) (.map<|some b2) (jC (tZ hk2 hm2)<|qL 3 194 (((aB ym i).getD ak).pp) m0 (qM 5 rfl) eG)<|cV [.p] [(6,vS ao (pre++[i]) co),(8,i_<|((aB ym i).getD ak).pp),(48,i_ i)]<|aG<|wQ (kt:=3) (et:=3) (enck:=(λk:Int=>i_ k)) (encv:=(λx:Int=>i_ x)) (kv:=m2.mx) (k:=i) 1 [ee<|aW kvk<|((aB ym i).getD ak).pp,fq b2<|aW m2.mx i,tw bs mb mo mk,iY mb ym,fq mo<|aW on ci,hJ mk kvk,sI ao (pre++[i]) co] (by kernel_rfl) rfl rfl rfl (by kernel_rfl) eG rfl rfl (eE ?_)))
 refine bS<|an 5 [.ld 2] [(52,.map<|some mk),(53,i_<|((aB ym i).getD ak).pp)]<|aG<|cC (some 54) (.map<|some b2) (jC (tZ hk2 hm2)<|qL 3 194 (((aB ym i).getD ak).pp) m0 (qM 5 rfl) eG)<|aG<|cC (some 55) (i_ ((aW m2.mx i).length:Int)) (u7 (kt:=3) (et:=3) (enck:=(λk:Int=>i_ k)) (encv:=(λx:Int=>i_ x)) (b:=b2) (kv:=aW m2.mx i) (qM 1 rfl) rfl rfl (by kernel_rfl))<|bB [.o,.cl] [(60,b_<|(decide (((aW m2.mx i).length:Int)>0))||((((aB ym i).getD ak).pp)==0))]<|aL rfl (λe3=>?_) (λe3=>?_)
 ·refine aD<|eQ [5,0,0] [hJ mk<|aJ kvk (((aB ym i).getD ak).pp) (⟨some b2,aW m2.mx i⟩:MB),ee<|aJ kvk (((aB ym i).getD ak).pp) (⟨some b2,aW m2.mx i⟩:MB)] rfl (λw hs=>wq mk kvk kvk (((aB ym i).getD ak).pp) b2 (aW m2.mx i) _ (by rfl) (hk2.trans<|congrArg some<|E9 hm2) hs) ?_
  have hq:kx (aJ kvk (((aB ym i).getD ak).pp) (⟨some b2,aW m2.mx i⟩:MB))=iP (kx kvk) (bU ym i) i:=by funext q;rw[xX];unfold iP;simp only[];split<;>simp_all[bU]
  have hs_:iP (kx kvk) (bU ym i) i (bU ym i)≠[]∨bU ym i=0:=by unfold iP bU;rw[if_pos rfl,hx2];grind
  refine bZ [(4,vS ao (pre++[i]) co),(5,i_ 0)]<|aF<|ca 5 (sI ao ((fV ym (kx kv) 40 ci).1) co) rfl (eJ (by(rw[←hp,tU hs_]):(pre++[i])=((fV ym (kx kv) 40 ci).1))) (bR [2,2,2,0,0,0] [vS ao (pre++[i]) co,i_ 0] ((aJ kvk (((aB ym i).getD ak).pp) (⟨some b2,aW m2.mx i⟩:MB)),ao,co) ?_ ?_)
  ·show((.tuple #[vS ao (pre++[i]) co,i_ 0]):Value)=(.tuple #[vS ao ((fV ym (kx kv) 40 ci).1) co,i_ 0])
   (rw[←hp,tU hs_])
  show kx (aJ kvk (((aB ym i).getD ak).pp) (⟨some b2,aW m2.mx i⟩:MB))=(fV ym (kx kv) 40 ci).2
  (rw[hq,←hp,tU hs_])
 refine az<|eQ [5,0,0] [hJ mk<|aJ kvk (((aB ym i).getD ak).pp) (⟨some b2,aW m2.mx i⟩:MB),ee<|aJ kvk (((aB ym i).getD ak).pp) (⟨some b2,aW m2.mx i⟩:MB)] rfl (λw hs=>wq mk kvk kvk (((aB ym i).getD ak).pp) b2 (aW m2.mx i) _ (by rfl) (hk2.trans<|congrArg some<|E9 hm2) hs) ?_
 have hq:kx (aJ kvk (((aB ym i).getD ak).pp) (⟨some b2,aW m2.mx i⟩:MB))=iP (kx kvk) (bU ym i) i:=by funext q;rw[xX];unfold iP;simp only[];split<;>simp_all[bU]
 have hg_: ¬(iP (kx kvk) (bU ym i) i (bU ym i)≠[]∨bU ym i=0):=by unfold iP bU;rw[if_pos rfl,hx2];rintro(h_|h_)<;>first|exact h_ (List.eq_nil_of_length_eq_zero<|by omega)|(simp_all;done)
 refine aM<|an 2 [] [(62,vS ao (pre++[i]) co),(63,i_<|((aB ym i).getD ak).pp)]<|aG<|eB 64 (e:=3) [i_<|((aB ym i).getD ak).pp] (by kernel_rfl) rfl (λ_=>by kernel_rfl) _ (λ_=>rfl) ?_
 intro b5
 refine aG<|iJ gq (pre++[i]) ([((aB ym i).getD ak).pp]) 5 65 (i_ 0) 8 dG j9 (ef (i:=6) rfl) (by(simp;omega)) ?_
 intro A6 c6
 refine aQ [(6,vS A6 ((pre++[i])++([((aB ym i).getD ak).pp])) c6)]<|bZ [(7,i_<|((aB ym i).getD ak).pp)]<|?_
 have hnx:((pre++[i])++(fV ym (kx<|aJ kvk (((aB ym i).getD ak).pp) (⟨some b2,aW m2.mx i⟩:MB)) n<|bU ym i).1,(fV ym (kx<|aJ kvk (((aB ym i).getD ak).pp) (⟨some b2,aW m2.mx i⟩:MB)) n<|bU ym i).2)=fV ym (kx kv) 40 ci∧jR ym n (bU ym i):=by rw[hq,←hp,Ey hg_];exact⟨by simp,hd.resolve_left λh_=>hg_<|.inr h_⟩
 refine ca 5 (sI A6 ((pre++[i])++[((aB ym i).getD ak).pp]) c6) rfl (eJ (by rfl:(pre++[i])++([((aB ym i).getD ak).pp])=((pre++[i])++[((aB ym i).getD ak).pp]))) (dO 6 (vS A6 ((pre++[i])++[((aB ym i).getD ak).pp]) c6) (kJ<|by rfl)<|bN (((aB ym i).getD ak).pp,n,pre++[i],aJ kvk (((aB ym i).getD ak).pp) (⟨some b2,aW m2.mx i⟩:MB),A6,c6) ⟨hnx.1,hnx.2,(by(simp;omega))⟩ (by(simp;done)) ?_)
 exact cX [2,2,2,0,0,0]
structure It where
 ka:Int
 ki:Int
 va:Int
 vi:Int
 deriving DecidableEq,Inhabited
inductive T where
 |nil
 |node (b:Nat) (x m:It) (h n:Int) (l r:T)
def T.ptr:T→Option Addr
 | .nil=>none
 | .node b .. =>some ⟨b,0,none⟩
def T.blocks:T→List Nat
 | .nil=>[]
 | .node b _ _ _ _ l r=>b::(l.blocks++r.blocks)
def T.hgt:T→Int
 | .nil=>0
 | .node _ _ _ h .. =>h
def T.cnt:T→Int
 | .nil=>0
 | .node _ _ _ _ n .. =>n
variable{b:Nat}{x m:It}{h n:Int}{l r:T}
theorem iz:(T.node b x m h n l r).hgt=h:=rfl
theorem qP:(T.node b x m h n l r).cnt=n:=rfl
theorem kA:T.nil.hgt=0:=rfl
theorem zh:T.nil.cnt=0:=rfl
def T.Bd(t:T):Prop:=0≤t.hgt∧t.hgt≤100000∧0≤t.cnt∧t.cnt≤100000
def T.Sm(t:T):Prop:=0≤t.hgt∧t.hgt≤1000∧0≤t.cnt∧t.cnt≤1000
def T.toL:T→List It
 | .nil=>[]
 | .node _ x _ _ _ l r=>l.toL++x::r.toL
def tg(x m:It)(h n:Int)(l r:T):List Value:=[u_ x.ka,i_ x.ki,u_ x.va,i_ x.vi,.pointer l.ptr,.pointer r.ptr,u_ m.ka,i_ m.ki,u_ m.va,i_ m.vi,i_ h,i_ n]
def T.H(TN:TypeId):T→World→Prop
 | .nil,_=>True
 | .node b x m h n l r,w=>w.heap[b]? =some (.cells (tg x m h n l r).toArray TN (0,0))∧T.H TN l w∧T.H TN r w
variable{TN:TypeId}
theorem T.H_loc: ∀(t:T)(w w':World),(∀b∈t.blocks,w'.heap[b]? =w.heap[b]?)→T.H TN t w→T.H TN t w'
 | .nil,_,_,_,_=>trivial
 | .node b x m h n l r,w,w',hb,⟨h1,h2,h3⟩=>⟨by rw[hb b<|by simp[T.blocks]];exact h1,T.H_loc l w w' (λc hc=>hb c<|by simp[T.blocks,hc]) h2,T.H_loc r w w' (λc hc=>hb c<|by simp[T.blocks,hc]) h3⟩
theorem T.H_here: ∀(t:T)(w:World),T.H TN t w→ ∀b∈t.blocks,b<w.heap.size
 | .nil,_,_,b,hb=>by simp[T.blocks] at hb
 | .node c x m h n l r,w,⟨h1,h2,h3⟩,b,hb=>by
   simp only[T.blocks,List.mem_cons,List.mem_append] at hb
   rcases hb with rfl|hb|hb
   ·exact(Array.getElem?_eq_some_iff.1 h1).1
   ·exact T.H_here l w h2 b hb
   ·exact T.H_here r w h3 b hb
def bA(TN:TypeId)(t:T):V.aI where
 foot:=t.blocks
 holds:=T.H TN t
 loc w w' h hw:=T.H_loc t w w' h hw
 here w hw b hb:=T.H_here t w hw b hb
theorem pN{w:World}(hs:HS w (aN [bA TN<|.node b x m h n l r]) [bA TN<|.node b x m h n l r] w):
  ∃_:Unit,True∧(∀it∈[aA b (tg x m h n l r) TN,bA TN l,bA TN r],it.holds w)∧(aN [aA b (tg x m h n l r) TN,bA TN l,bA TN r]).Nodup∧ ∀c∈aN [aA b (tg x m h n l r) TN,bA TN l,bA TN r],c∈aN [bA TN<|.node b x m h n l r]:=by
 have h1:=hs.mem (i:=0) rfl
 have h2:=hs.nodup
 obtain⟨a1,a2,a3⟩:=h1
 refine⟨(),trivial,?_,?_,?_⟩
 ·intro it hi;simp only[List.mem_cons,List.not_mem_nil,or_false] at hi;rcases hi with rfl|rfl|rfl;exact a1;exact a2;exact a3
 ·simpa[aN,aA,bA,T.blocks] using h2
 ·intro c hc;simpa[aN,aA,bA,T.blocks] using hc
theorem mw{w:World}(hs:HS w (aN [aA b (tg x m h n l r) TN,bA TN l,bA TN r]) [aA b (tg x m h n l r) TN,bA TN l,bA TN r] w):
  ∃_:Unit,True∧(∀it∈[bA TN<|.node b x m h n l r],it.holds w)∧(aN [bA TN<|.node b x m h n l r]).Nodup∧ ∀c∈aN [bA TN<|.node b x m h n l r],c∈aN [aA b (tg x m h n l r) TN,bA TN l,bA TN r]:=by
 have a1:=hs.mem (i:=0) rfl
 have a2:=hs.mem (i:=1) rfl
 have a3:=hs.mem (i:=2) rfl
 have h2:=hs.nodup
 refine⟨(),trivial,?_,?_,?_⟩
 ·intro it hi;simp only[List.mem_cons,List.not_mem_nil,or_false] at hi;subst hi;exact⟨a1,a2,a3⟩
 ·simpa[aN,aA,bA,T.blocks] using h2
 ·intro c hc;simpa[aN,aA,bA,T.blocks] using hc
theorem OJ{n:Nat}{env:aT}{w0:World}{S:E6}{H:List V.aI}{G:Wy}(H':List V.aI)(hH:H++[bA TN .nil]=H')(h:V.A n env w0 S H' G):V.A n env w0 S H G:=λa w r s=>
 h a w r (by rw[←hH];exact s.add (Fr.refl _ _) trivial (by simp[bA,T.blocks])<|by simp[bA,T.blocks])
def ir(x i y j:Int):Int:=if x=y∧i=j then 0 else if x<y∨x=y∧i<j then-1 else 1
def eV(x i y j:Int):Prop:=x<y∨x=y∧i<j
instance(x i y j:Int):Decidable (eV x i y j):=by unfold eV;infer_instance
theorem JY(x i y j:Int):ir x i y j<0↔eV x i y j:=by unfold ir eV;grind
theorem JZ(x i y j:Int):0<ir x i y j↔eV y j x i:=by unfold ir eV;grind
theorem I6(x i y j:Int):ir x i y j=0↔(x=y∧i=j):=by unfold ir;grind
def aZ(a b:It):It:=if eV b.va b.vi a.va a.vi∨(b.va=a.va∧b.vi=a.vi)∧eV b.ka b.ki a.ka a.ki then b else a
def T.low:T→It→It
 | .nil,a=>a
 | .node _ _ m ..,a=>aZ a m
def cS(x:It)(l r:T):It:=r.low<|l.low x
def dN(l r:T):Int:=1+max l.hgt r.hgt
def dY(l r:T):Int:=1+l.cnt+r.cnt
def mk(b:Nat)(x:It)(l r:T):T:= .node b x (cS x l r) (dN l r) (dY l r) l r
def T.Right:T→Prop
 | .nil=>True
 | .node _ x m h n l r=>m=cS x l r∧h=dN l r∧n=dY l r∧l.Right∧r.Right
theorem Ht:T.nil.Right:=trivial
theorem mL(hl:l.Right)(hr:r.Right):(mk b x l r).Right:=⟨rfl,rfl,rfl,hl,hr⟩
theorem T.Right.pos: ∀{t:T},t.Right→0≤t.hgt∧t.hgt≤t.cnt∧t.cnt=t.toL.length
 | .nil,_=>by simp[T.hgt,T.cnt,T.toL]
 | .node b x m h n l r,⟨_,hh,hn,hl,hr⟩=>by
   have h1:=T.Right.pos hl;have h2:=T.Right.pos hr
   simp only[T.hgt,T.cnt,T.toL,List.length_append,List.length_cons]
   rw[hh,hn];unfold dN dY;omega
variable{t:T}
theorem B8(h:t.Right)(hc:t.cnt≤100000):t.Bd:=by have:=h.pos;unfold T.Bd;omega
def GZ(b:Nat)(x:It):T→T→T
 | .node bl y _ _ _ p q,r=>if q.hgt>p.hgt then(match q with| .node bz z _ _ _ a c=>mk bz z (mk bl y p a) (mk b x c r)| .nil=> .nil) else mk bl y p<|mk b x q r
 | .nil,_=> .nil
def G0(b:Nat)(x:It)(l:T):T→T
 | .node br y _ _ _ p q=>if p.hgt>q.hgt then(match p with| .node bz z _ _ _ a c=>mk bz z (mk b x l a) (mk br y c q)| .nil=> .nil) else mk br y (mk b x l p) q
 | .nil=> .nil
def jE(b:Nat)(x:It)(l r:T):T:=
 if l.hgt≤r.hgt+1 then(if r.hgt≤l.hgt+1 then mk b x l r else G0 b x l r) else GZ b x l r
theorem M7(h1:l.hgt≤r.hgt+1)(h2:r.hgt≤l.hgt+1):jE b x l r=mk b x l r:=by
 unfold jE;rw[if_pos h1,if_pos h2]
variable{bl:Nat}{y my:It}{hy ny:Int}{p q:T}
theorem Kp(h1: ¬(T.node bl y my hy ny p q).hgt≤r.hgt+1)(h2: ¬q.hgt>p.hgt):jE b x (.node bl y my hy ny p q) r=mk bl y p (mk b x q r):=by
 unfold jE;rw[if_neg h1];simp only[GZ];rw[if_neg h2]
theorem Kq{bz:Nat}{z mz:It}{hz nz:Int}{a c:T}(h1: ¬(T.node bl y my hy ny p<|.node bz z mz hz nz a c).hgt≤r.hgt+1)(h2:(T.node bz z mz hz nz a c).hgt>p.hgt):
  jE b x (.node bl y my hy ny p<|.node bz z mz hz nz a c) r=mk bz z (mk bl y p a) (mk b x c r):=by
 unfold jE;rw[if_neg h1];simp only[GZ];rw[if_pos h2]
theorem Kr(h0:l.hgt≤(T.node bl y my hy ny p q).hgt+1)(h1: ¬(T.node bl y my hy ny p q).hgt≤l.hgt+1)(h2: ¬p.hgt>q.hgt):jE b x l (.node bl y my hy ny p q)=mk bl y (mk b x l p) q:=by
 unfold jE;rw[if_pos h0,if_neg h1];simp only[G0];rw[if_neg h2]
theorem Ks{bz:Nat}{z mz:It}{hz nz:Int}{a c:T}(h0:l.hgt≤(T.node bl y my hy ny (.node bz z mz hz nz a c) q).hgt+1)(h1: ¬(T.node bl y my hy ny (.node bz z mz hz nz a c) q).hgt≤l.hgt+1)(h2:(T.node bz z mz hz nz a c).hgt>q.hgt):
  jE b x l (.node bl y my hy ny (.node bz z mz hz nz a c) q)=mk bz z (mk b x l a) (mk bl y c q):=by
 unfold jE;rw[if_pos h0,if_neg h1];simp only[G0];rw[if_pos h2]
theorem yX(x i y j:Int)(w:World):
  CW 271 #[.agg #[u_ x,i_ i],.agg #[u_ y,i_ j]] w (i_<|ir x i y j):=by
 refine aU Tryz.func271 rfl (HS.nil w) (aC<|iK [.al,.al] [] (λb1 b2=>[(2,p_ b1),(3,p_ b2)]) (λb1 b2=>[aA b1 [u_ x,i_ i] 322,aA b2 [u_ y,i_ j] 322]) ?_)
 intro b1 b2
 refine aD<|aR<|aC<|bB [.ld 0,.ld 1,.eq] [(5,b_<|(x==y)&&(i==j))]<|aL rfl (λe1=>?_) (λe1=>?_)
 ·refine aE [(4,i_ 0)]<|aF<|bJ [i_ 0] ?_
  show((i_ 0):Value)=(i_<|ir x i y j)
  simp[ir] at*;try simp_all;try omega
 have p1:=e1
 refine aC<|bB [.ld 0,.ld 1,.p,.p,.o,.ld 0,.ld 1,.p,.p,.o,.ld 0,.ld 1,.p,.cl,.cl] [(9,b_<|(decide (x<y))||((x==y)&&(decide (i<j))))]<|aL rfl (λe2=>?_) (λe2=>?_)
 ·refine aE [(4,i_ (-1))]<|aF<|bJ [i_ (-1)] ?_
  show((i_ (-1)):Value)=(i_<|ir x i y j)
  simp[ir] at*;try simp_all;try omega
 refine aO<|aE [(4,i_ 1)]<|aF<|bJ [i_ 1] ?_
 show((i_ 1):Value)=(i_<|ir x i y j)
 simp[ir] at*;try simp_all;try omega
theorem tJ(a b:It)(w:World):
  CW 258 #[.agg #[u_ a.ka,i_ a.ki,u_ a.va,i_ a.vi],.agg #[u_ b.ka,i_ b.ki,u_ b.va,i_ b.vi]] w (.agg #[u_<|(aZ a b).ka,i_<|(aZ a b).ki,u_<|(aZ a b).va,i_<|(aZ a b).vi]):=by
 refine aU Tryz.func258 rfl (HS.nil w) (aC<|nW [.al,.al,.al] [2,3,4] (λb1 b2 b3=>[(2,p_ b1),(3,p_ b2),(4,p_ b3)]) (λb1 b2 b3=>[aA b1 [u_ a.ka,i_ a.ki,u_ a.va,i_ a.vi] 324,aA b2 [u_ b.ka,i_ b.ki,u_ b.va,i_ b.vi] 324,aA b3 [u_ 0,i_ 0,u_ 0,i_ 0] 324]) (λb1 b2 b3=>[]) (λ_ _ _=>T0) (λ_ _ _=>by kernel_rfl) (λb1 b2 b3=>trivial) ?_)
 intro b1 b2 b3
 refine dF [.ld 1,.ld 0,.cq<|i_<|ir b.va b.vi a.va a.vi] [(5,i_<|ir b.va b.vi a.va a.vi)] (o1<|qw<|yX b.va b.vi a.va a.vi)<|aD<|dF [.p,.p,.p,.o,.p,.p,.p,.o,.ld 1,.ld 0,.cq<|i_<|ir b.ka b.ki a.ka a.ki,.p,.cl,.cl] [(24,b_<|(decide ((ir b.va b.vi a.va a.vi)<0))||(((ir b.va b.vi a.va a.vi)==0)&&(decide ((ir b.ka b.ki a.ka a.ki)<0))))] (o1<|go ((true&&((decide ((ir b.va b.vi a.va a.vi)<0))==false))&&(((ir b.va b.vi a.va a.vi)==0)==true)) λh_=>(qw<|yX b.ka b.ki a.ka a.ki))<|aL rfl (λe1=>?_) (λe1=>?_)
 ·refine aC<|bL [.ld 1,.st 2] [] [(2,aA b3 [u_ b.ka,i_ b.ki,u_ b.va,i_ b.vi] 324)]<|aF<|ez 2 [u_ b.ka,i_ b.ki,u_ b.va,i_ b.vi] ?_
  show((.agg #[u_ b.ka,i_ b.ki,u_ b.va,i_ b.vi]):Value)=(.agg #[u_<|(aZ a b).ka,i_<|(aZ a b).ki,u_<|(aZ a b).va,i_<|(aZ a b).vi])
  rw[show aZ a b=b from by unfold aZ;grind[JY,I6]]
 refine aO<|aC<|bL [.ld 0,.st 2] [] [(2,aA b3 [u_ a.ka,i_ a.ki,u_ a.va,i_ a.vi] 324)]<|aF<|ez 2 [u_ a.ka,i_ a.ki,u_ a.va,i_ a.vi] ?_
 show((.agg #[u_ a.ka,i_ a.ki,u_ a.va,i_ a.vi]):Value)=(.agg #[u_<|(aZ a b).ka,i_<|(aZ a b).ki,u_<|(aZ a b).va,i_<|(aZ a b).vi])
 rw[show aZ a b=a from by unfold aZ;grind[JY,I6]]
theorem pP(t:T)(w:World)(r0:(bA 361 t).holds w):
  CW 266 #[.pointer<|T.ptr t] w (i_<|T.hgt t):=by
 refine aU Tryz.func266 rfl (HS.nil w) (aE []<|bS<|cV [.p] [(3,.pointer<|T.ptr t)] ?_)
 rcases t with _|⟨b1,x2,m3,h4,n5,l6,r7⟩
 ·refine aQ [(0,n_),(4,b_ true)]<|dU<|aE [(2,i_ 0)]<|aF<|bJ [i_ 0] ?_
  rfl
 refine aQ [(0,p_ b1),(4,b_ false)]<|bM<|aO<|dF [.rd [i_ h4]] [(2,i_ h4)] (o1<|ro ⟨b1,10,none⟩ (vs:=[i_ h4])<|cE r0.1 rfl)<|aF<|bJ [i_ h4] ?_
 rfl
theorem Cm(t:T)(w:World)(r0:(bA 361 t).holds w):
  CW 267 #[.pointer<|T.ptr t] w (i_<|T.cnt t):=by
 refine aU Tryz.func267 rfl (HS.nil w) (aE []<|bS<|cV [.p] [(3,.pointer<|T.ptr t)] ?_)
 rcases t with _|⟨b1,x2,m3,h4,n5,l6,r7⟩
 ·refine aQ [(0,n_),(4,b_ true)]<|dU<|aE [(2,i_ 0)]<|aF<|bJ [i_ 0] ?_
  rfl
 refine aQ [(0,p_ b1),(4,b_ false)]<|bM<|aO<|dF [.rd [i_ n5]] [(2,i_ n5)] (o1<|ro ⟨b1,11,none⟩ (vs:=[i_ n5])<|cE r0.1 rfl)<|aF<|bJ [i_ n5] ?_
 rfl
abbrev Kt(p0)(p1:It)(p2)(p3)(p4:It)(p5)(p6):=([aA p0 [u_ p1.ka,i_ p1.ki,u_ p1.va,i_ p1.vi,.pointer<|T.ptr p2,.pointer<|T.ptr p3,u_ p4.ka,i_ p4.ki,u_ p4.va,i_ p4.vi,i_ p5,i_ p6] 361,bA 361 p2,bA 361 p3]:List V.aI)
theorem u4(b:Nat)(x m:It)(h n:Int)(l r:T)(hl:l.Bd)(hr:r.Bd)(w:World)(hs:HI w (Kt b x l r m h n)):
  CV 248 #[p_ b] w (Kt b x l r m h n) (λ(zz:Unit)=>(.tuple #[])) (λ_=>True) λ_=>[aA b [u_ x.ka,i_ x.ki,u_ x.va,i_ x.vi,.pointer<|T.ptr l,.pointer<|T.ptr r,u_<|(cS x l r).ka,i_<|(cS x l r).ki,u_<|(cS x l r).va,i_<|(cS x l r).vi,i_<|dN l r,i_<|dY l r] 361,bA 361 l,bA 361 r]:=by
 have hl1:=hl.1;have hl2:=hl.2.1;have hl3:=hl.2.2.1;have hl4:=hl.2.2.2;have hr1:=hr.1;have hr2:=hr.2.1;have hr3:=hr.2.2.1;have hr4:=hr.2.2.2
 refine aU Tryz.func248 rfl hs (aD<|bY [17] 18<|eR 1 [.ld 0,.cq<|i_<|T.hgt l,.ld 0,.cq<|i_<|T.hgt r,.w<|1+(bV (T.hgt l)<|T.hgt r)] (rg 0 17) [(18,i_<|1+(bV (T.hgt l)<|T.hgt r)),(20,q_ b 10)] (oc (qo<|λw s=>pP l w<|s.mem (i:=1) rfl)<|oc (qo<|λw s=>pP r w<|s.mem (i:=2) rfl)<|o1<|wo<|nB (e:=1+(bV (T.hgt l)<|T.hgt r))<|by(simp only[zV];constructor<;>omega)) ?_)
 refine bF 17 rfl (dQ 0 [i_<|1+(bV (T.hgt l)<|T.hgt r)] rfl (dV<|aD<|bY [17] 18<|eR 1 [.ld 0,.cq<|i_<|T.cnt l,.w<|1+(T.cnt l),.ld 0,.cq<|i_<|T.cnt r,.w<|(1+(T.cnt l))+(T.cnt r)] (rg 0 17) [(35,i_<|(1+(T.cnt l))+(T.cnt r)),(37,q_ b 11)] (oc (qo<|λww ss=>Cm l ww<|ss.mem (i:=1) rfl)<|oc (wj (1+(T.cnt l))<|by omega)<|oc (qo<|λww ss=>Cm r ww<|ss.mem (i:=2) rfl)<|o1<|wj ((1+(T.cnt l))+(T.cnt r))<|by omega) ?_))
 refine bF 17 rfl (dQ 0 [i_<|(1+(T.cnt l))+(T.cnt r)] rfl (dV<|aC<|bL [.ld 0,.st 0] [] [(0,aA b [u_ x.ka,i_ x.ki,u_ x.va,i_ x.vi,.pointer<|T.ptr l,.pointer<|T.ptr r,u_ x.ka,i_ x.ki,u_ x.va,i_ x.vi,i_<|1+(bV (T.hgt l)<|T.hgt r),i_<|(1+(T.cnt l))+(T.cnt r)] 361)]<|aC<|bB [.ld 0] [(48,.agg #[.pointer<|T.ptr l,.pointer<|T.ptr r]),(49,i_ 0)]<|aR<|i4 400<|cd (m:=399)<|aE [(50,b_ true)]<|aD<|dU<|az<|aR<|aE [(3,.pointer<|T.ptr l)]<|aC<|cV [.p] [(52,.pointer<|T.ptr l)] ?_))
 rcases l with _|⟨b1,x2,m3,h4,n5,l6,r7⟩
 ·refine aQ [(48,.agg #[n_,.pointer<|T.ptr r]),(3,n_),(53,b_ false)]<|bM<|aO<|bZ [(49,i_ 1)]<|cd (m:=398)<|aE [(50,b_ true)]<|aD<|dU<|az<|aR<|aE [(3,.pointer<|T.ptr r)]<|aC<|cV [.p] [(52,.pointer<|T.ptr r)] ?_
  rcases r with _|⟨b8,x9,m10,h11,n12,l13,r14⟩
  ·refine aQ [(48,.agg #[n_,n_]),(3,n_),(53,b_ false)]<|bM<|aO<|bZ [(49,i_ 2)]<|cd (m:=397)<|aE [(50,b_ false)]<|aD<|bM<|bg<|ca 0 (aA b [u_ x.ka,i_ x.ki,u_ x.va,i_ x.vi,n_,n_,u_<|(cS x T.nil T.nil).ka,i_<|(cS x T.nil T.nil).ki,u_<|(cS x T.nil T.nil).va,i_<|(cS x T.nil T.nil).vi,i_<|dN T.nil T.nil,i_<|dY T.nil T.nil] 361) rfl (gx<|cc rfl (cc rfl (cc rfl (cc rfl (cc rfl (cc rfl (cc (congrArg u_ (by rfl:x.ka=(cS x T.nil T.nil).ka))<|cc (congrArg i_ (by rfl:x.ki=(cS x T.nil T.nil).ki))<|cc (congrArg u_ (by rfl:x.va=(cS x T.nil T.nil).va))<|cc (congrArg i_ (by rfl:x.vi=(cS x T.nil T.nil).vi))<|cc (congrArg i_ (by rfl:1+(bV (T.hgt T.nil)<|T.hgt T.nil)=dN T.nil T.nil))<|cc (congrArg i_ (by rfl:(1+(T.cnt T.nil))+(T.cnt T.nil)=dY T.nil T.nil)) rfl))))))) (mi [0,0,0] [] (λ_ w r s=>trivial) () ?_ ?_<|by kernel_rfl)
   ·rfl
   trivial
  refine aQ [(48,.agg #[n_,p_ b8]),(3,p_ b8),(53,b_ true)] ?_
  refine dU ?_
  refine eQ [2] [aA b8 [u_ x9.ka,i_ x9.ki,u_ x9.va,i_ x9.vi,.pointer<|T.ptr l13,.pointer<|T.ptr r14,u_ m10.ka,i_ m10.ki,u_ m10.va,i_ m10.vi,i_ h11,i_ n12] 361,bA 361 l13,bA 361 r14] rfl (λw hs=>pN hs) ?_
  refine bY [12] 13 ?_
  refine eR 1 [.ld 3,.ld 0,.cq<|.agg #[u_<|(aZ x m10).ka,i_<|(aZ x m10).ki,u_<|(aZ x m10).va,i_<|(aZ x m10).vi]] (rg 0 12) [(48,.agg #[n_,p_ b8]),(49,i_ 1),(63,.agg #[u_<|(aZ x m10).ka,i_<|(aZ x m10).ki,u_<|(aZ x m10).va,i_<|(aZ x m10).vi]),(65,q_ b 6)] (o1<|qw<|tJ x m10) ?_
  refine bF 12 rfl (dQ 3 [u_<|(aZ x m10).ka,i_<|(aZ x m10).ki,u_<|(aZ x m10).va,i_<|(aZ x m10).vi] rfl ?_)
  refine cb ?_
  refine eN ?_
  refine bZ [(49,i_ 2)] ?_
  refine cd (m:=397) ?_
  refine aD ?_
  refine bZ [(50,b_ false)] ?_
  refine aD ?_
  refine bM ?_
  refine bg ?_
  refine eQ [0,0,0] [bA 361<|T.node b8 x9 m10 h11 n12 l13 r14] rfl (λw hs=>mw hs) ?_
  refine ca 1 (aA b [u_ x.ka,i_ x.ki,u_ x.va,i_ x.vi,n_,p_ b8,u_<|(cS x T.nil<|T.node b8 x9 m10 h11 n12 l13 r14).ka,i_<|(cS x T.nil<|T.node b8 x9 m10 h11 n12 l13 r14).ki,u_<|(cS x T.nil<|T.node b8 x9 m10 h11 n12 l13 r14).va,i_<|(cS x T.nil<|T.node b8 x9 m10 h11 n12 l13 r14).vi,i_<|dN T.nil<|T.node b8 x9 m10 h11 n12 l13 r14,i_<|dY T.nil<|T.node b8 x9 m10 h11 n12 l13 r14] 361) rfl (gx<|cc rfl (cc rfl (cc rfl (cc rfl (cc rfl (cc rfl (cc (congrArg u_ (by rfl:(aZ x m10).ka=(cS x T.nil<|T.node b8 x9 m10 h11 n12 l13 r14).ka))<|cc (congrArg i_ (by rfl:(aZ x m10).ki=(cS x T.nil<|T.node b8 x9 m10 h11 n12 l13 r14).ki))<|cc (congrArg u_ (by rfl:(aZ x m10).va=(cS x T.nil<|T.node b8 x9 m10 h11 n12 l13 r14).va))<|cc (congrArg i_ (by rfl:(aZ x m10).vi=(cS x T.nil<|T.node b8 x9 m10 h11 n12 l13 r14).vi))<|cc (congrArg i_ (by(simp[zV,dN,dY,cS,T.low];done):1+(bV (T.hgt T.nil)<|T.hgt<|T.node b8 x9 m10 h11 n12 l13 r14)=dN T.nil (T.node b8 x9 m10 h11 n12 l13 r14)))<|cc (congrArg i_ (by rfl:(1+(T.cnt T.nil))+(T.cnt<|T.node b8 x9 m10 h11 n12 l13 r14)=dY T.nil (T.node b8 x9 m10 h11 n12 l13 r14))) rfl))))))) ?_
  refine mi [1,1,0] [] (λaa ww rr ss=>trivial) () ?_ ?_<|by kernel_rfl
  ·rfl
  trivial
 refine aQ [(48,.agg #[p_ b1,.pointer<|T.ptr r]),(3,p_ b1),(53,b_ true)]<|dU<|eQ [1] [aA b1 [u_ x2.ka,i_ x2.ki,u_ x2.va,i_ x2.vi,.pointer<|T.ptr l6,.pointer<|T.ptr r7,u_ m3.ka,i_ m3.ki,u_ m3.va,i_ m3.vi,i_ h4,i_ n5] 361,bA 361 l6,bA 361 r7] rfl (λw hs=>pN hs) (bY [12] 13<|eR 1 [.ld 3,.ld 0,.cq<|.agg #[u_<|(aZ x m3).ka,i_<|(aZ x m3).ki,u_<|(aZ x m3).va,i_<|(aZ x m3).vi]] (rg 0 12) [(48,.agg #[p_ b1,.pointer<|T.ptr r]),(49,i_ 0),(63,.agg #[u_<|(aZ x m3).ka,i_<|(aZ x m3).ki,u_<|(aZ x m3).va,i_<|(aZ x m3).vi]),(65,q_ b 6)] (o1<|qw<|tJ x m3)<|bF 12 rfl (dQ 3 [u_<|(aZ x m3).ka,i_<|(aZ x m3).ki,u_<|(aZ x m3).va,i_<|(aZ x m3).vi] rfl (dV<|bZ [(49,i_ 1)]<|cd (m:=398)<|aE [(50,b_ true)]<|aD<|dU<|az<|aR<|aE [(3,.pointer<|T.ptr r)]<|aC<|cV [.p] [(52,.pointer<|T.ptr r)] ?_)))
 rcases r with _|⟨b15,x16,m17,h18,n19,l20,r21⟩
 ·refine aQ [(48,.agg #[p_ b1,n_]),(3,n_),(53,b_ false)]<|bM<|aO<|bZ [(49,i_ 2)]<|cd (m:=397)<|aE [(50,b_ false)]<|aD<|bM<|bg<|eQ [0,0,0] [bA 361<|T.node b1 x2 m3 h4 n5 l6 r7] rfl (λw hs=>mw hs) (ca 1 (aA b [u_ x.ka,i_ x.ki,u_ x.va,i_ x.vi,p_ b1,n_,u_<|(cS x (T.node b1 x2 m3 h4 n5 l6 r7) T.nil).ka,i_<|(cS x (T.node b1 x2 m3 h4 n5 l6 r7) T.nil).ki,u_<|(cS x (T.node b1 x2 m3 h4 n5 l6 r7) T.nil).va,i_<|(cS x (T.node b1 x2 m3 h4 n5 l6 r7) T.nil).vi,i_<|dN (T.node b1 x2 m3 h4 n5 l6 r7) T.nil,i_<|dY (T.node b1 x2 m3 h4 n5 l6 r7) T.nil] 361) rfl (gx<|cc rfl (cc rfl (cc rfl (cc rfl (cc rfl (cc rfl (cc (congrArg u_ (by rfl:(aZ x m3).ka=(cS x (T.node b1 x2 m3 h4 n5 l6 r7) T.nil).ka))<|cc (congrArg i_ (by rfl:(aZ x m3).ki=(cS x (T.node b1 x2 m3 h4 n5 l6 r7) T.nil).ki))<|cc (congrArg u_ (by rfl:(aZ x m3).va=(cS x (T.node b1 x2 m3 h4 n5 l6 r7) T.nil).va))<|cc (congrArg i_ (by rfl:(aZ x m3).vi=(cS x (T.node b1 x2 m3 h4 n5 l6 r7) T.nil).vi))<|cc (congrArg i_ (by(simp[zV,dN,dY,cS,T.low];done):1+(bV (T.hgt<|T.node b1 x2 m3 h4 n5 l6 r7)<|T.hgt T.nil)=dN (T.node b1 x2 m3 h4 n5 l6 r7) T.nil))<|cc (congrArg i_ (by rfl:(1+(T.cnt<|T.node b1 x2 m3 h4 n5 l6 r7))+(T.cnt T.nil)=dY (T.node b1 x2 m3 h4 n5 l6 r7) T.nil)) rfl))))))) (mi [1,0,0] [] (λ_ w r s=>trivial) () ?_ ?_<|by kernel_rfl))
  ·rfl
  trivial
 refine aQ [(48,.agg #[p_ b1,p_ b15]),(3,p_ b15),(53,b_ true)] ?_
 refine dU ?_
 refine eQ [4] [aA b15 [u_ x16.ka,i_ x16.ki,u_ x16.va,i_ x16.vi,.pointer<|T.ptr l20,.pointer<|T.ptr r21,u_ m17.ka,i_ m17.ki,u_ m17.va,i_ m17.vi,i_ h18,i_ n19] 361,bA 361 l20,bA 361 r21] rfl (λw hs=>pN hs) ?_
 refine bY [12] 13 ?_
 refine eR 1 [.ld 6,.ld 0,.cq<|.agg #[u_<|(aZ (aZ x m3) m17).ka,i_<|(aZ (aZ x m3) m17).ki,u_<|(aZ (aZ x m3) m17).va,i_<|(aZ (aZ x m3) m17).vi]] (rg 0 12) [(48,.agg #[p_ b1,p_ b15]),(63,.agg #[u_<|(aZ (aZ x m3) m17).ka,i_<|(aZ (aZ x m3) m17).ki,u_<|(aZ (aZ x m3) m17).va,i_<|(aZ (aZ x m3) m17).vi])] (o1<|qw<|tJ (aZ x m3) m17) ?_
 refine bF 12 rfl (dQ 6 [u_<|(aZ (aZ x m3) m17).ka,i_<|(aZ (aZ x m3) m17).ki,u_<|(aZ (aZ x m3) m17).va,i_<|(aZ (aZ x m3) m17).vi] rfl ?_)
 refine cb ?_
 refine eN ?_
 refine aM<|da [] [(0,p_ b),(48,.agg #[p_ b1,p_ b15]),(49,i_ 2)] ?_
 refine cd (m:=397) ?_
 refine aD ?_
 refine bZ [(50,b_ false)] ?_
 refine aD ?_
 refine bM ?_
 refine bg ?_
 refine eQ [3,3,3] [bA 361<|T.node b1 x2 m3 h4 n5 l6 r7] rfl (λw hs=>mw hs) ?_
 refine eQ [1,1,1] [bA 361<|T.node b15 x16 m17 h18 n19 l20 r21] rfl (λw hs=>mw hs) ?_
 refine ca 2 (aA b [u_ x.ka,i_ x.ki,u_ x.va,i_ x.vi,p_ b1,p_ b15,u_<|(cS x (T.node b1 x2 m3 h4 n5 l6 r7)<|T.node b15 x16 m17 h18 n19 l20 r21).ka,i_<|(cS x (T.node b1 x2 m3 h4 n5 l6 r7)<|T.node b15 x16 m17 h18 n19 l20 r21).ki,u_<|(cS x (T.node b1 x2 m3 h4 n5 l6 r7)<|T.node b15 x16 m17 h18 n19 l20 r21).va,i_<|(cS x (T.node b1 x2 m3 h4 n5 l6 r7)<|T.node b15 x16 m17 h18 n19 l20 r21).vi,i_<|dN (T.node b1 x2 m3 h4 n5 l6 r7)<|T.node b15 x16 m17 h18 n19 l20 r21,i_<|dY (T.node b1 x2 m3 h4 n5 l6 r7)<|T.node b15 x16 m17 h18 n19 l20 r21] 361) rfl (gx<|cc rfl (cc rfl (cc rfl (cc rfl (cc rfl (cc rfl (cc (congrArg u_ (by rfl:(aZ (aZ x m3) m17).ka=(cS x (T.node b1 x2 m3 h4 n5 l6 r7)<|T.node b15 x16 m17 h18 n19 l20 r21).ka))<|cc (congrArg i_ (by rfl:(aZ (aZ x m3) m17).ki=(cS x (T.node b1 x2 m3 h4 n5 l6 r7)<|T.node b15 x16 m17 h18 n19 l20 r21).ki))<|cc (congrArg u_ (by rfl:(aZ (aZ x m3) m17).va=(cS x (T.node b1 x2 m3 h4 n5 l6 r7)<|T.node b15 x16 m17 h18 n19 l20 r21).va))<|cc (congrArg i_ (by rfl:(aZ (aZ x m3) m17).vi=(cS x (T.node b1 x2 m3 h4 n5 l6 r7)<|T.node b15 x16 m17 h18 n19 l20 r21).vi))<|cc (congrArg i_ (by(simp[zV,dN,dY,cS,T.low];done):1+(bV (T.hgt<|T.node b1 x2 m3 h4 n5 l6 r7)<|T.hgt<|T.node b15 x16 m17 h18 n19 l20 r21)=dN (T.node b1 x2 m3 h4 n5 l6 r7) (T.node b15 x16 m17 h18 n19 l20 r21)))<|cc (congrArg i_ (by rfl:(1+(T.cnt<|T.node b1 x2 m3 h4 n5 l6 r7))+(T.cnt<|T.node b15 x16 m17 h18 n19 l20 r21)=dY (T.node b1 x2 m3 h4 n5 l6 r7) (T.node b15 x16 m17 h18 n19 l20 r21))) rfl))))))) ?_
 refine mi [2,1,0] [] (λaa ww rr ss=>trivial) () ?_ ?_<|by kernel_rfl
 ·rfl
 trivial
theorem uh(h:t.Sm):t.Bd:=by unfold T.Sm T.Bd at*;omega
theorem Ku(hl:l.Sm)(hr:r.Sm):(mk b x l r).Bd:=by
 have e1:(mk b x l r).hgt=1+max l.hgt r.hgt:=rfl
 have e2:(mk b x l r).cnt=1+l.cnt+r.cnt:=rfl
 unfold T.Sm T.Bd at*;omega
theorem kY(h:t.Right)(hc:t.cnt≤1000):t.Sm:=by have:=h.pos;unfold T.Sm;omega
abbrev VB(p0)(p1:It)(p2)(p3)(p4:It)(p5)(p6):=(aA p0 [u_ p1.ka,i_ p1.ki,u_ p1.va,i_ p1.vi,p_ p2,.pointer<|T.ptr p3,u_ p4.ka,i_ p4.ki,u_ p4.va,i_ p4.vi,i_ p5,i_ p6] 361:V.aI)
abbrev VC(p0)(p1)(p2)(p3)(p4)(p5)(p6):=([bA 361<|T.node p0 p1 (cS p1 p2<|T.node p3 p4 (cS p4 p5 p6) (dN p5 p6) (dY p5 p6) p5 p6) (dN p2<|T.node p3 p4 (cS p4 p5 p6) (dN p5 p6) (dY p5 p6) p5 p6) (dY p2<|T.node p3 p4 (cS p4 p5 p6) (dN p5 p6) (dY p5 p6) p5 p6) p2<|T.node p3 p4 (cS p4 p5 p6) (dN p5 p6) (dY p5 p6) p5 p6]:List V.aI)
abbrev Ez(p0)(p1)(p2)(p3):=(bA 361 (T.node p0 p1 (cS p1 p2 p3) (dN p2 p3) (dY p2 p3) p2 p3):V.aI)
abbrev VD(p0)(p1:It)(p2)(p3)(p4:It)(p5)(p6):=(aA p0 [u_ p1.ka,i_ p1.ki,u_ p1.va,i_ p1.vi,.pointer<|T.ptr p2,.pointer<|T.ptr p3,u_ p4.ka,i_ p4.ki,u_ p4.va,i_ p4.vi,i_ p5,i_ p6] 361:V.aI)
theorem C2(b:Nat)(x m:It)(h n:Int)(by_:Nat)(y my:It)(hy ny:Int)(p q s:T)(hp:p.Sm)(hq:q.Sm)(hs_:s.Sm):
  CS 280 #[p_ b,i_ 0] [VB b x by_ s m h n,bA 361<|T.node by_ y my hy ny p q,bA 361 s] (λ(zt:T)=>(.pointer<|T.ptr zt)) (λzt=>zt=mk by_ y p (mk b x q s)) λzt=>[bA 361 zt]:=by
 intro w hs
 refine aU Tryz.func280 rfl hs (aE []<|aC<|bB [.ld 0] [(5,p_ by_)]<|aD<|eQ [1] [aA by_ [u_ y.ka,i_ y.ki,u_ y.va,i_ y.vi,.pointer<|T.ptr p,.pointer<|T.ptr q,u_ my.ka,i_ my.ki,u_ my.va,i_ my.vi,i_ hy,i_ ny] 361,bA 361 p,bA 361 q] rfl (λw hs=>pN hs) (bY [12] 13<|cQ 1 [.ld 0] (rg 0 12) [(5,p_ by_),(20,.pointer<|T.ptr q),(23,q_ b 4)]<|bF 12 rfl (dQ 3 [.pointer<|T.ptr q] rfl (dV<|aC<|bL [.st 0] [] [(0,aA by_ [u_ y.ka,i_ y.ki,u_ y.va,i_ y.vi,.pointer<|T.ptr p,p_ b,u_ my.ka,i_ my.ki,u_ my.va,i_ my.vi,i_ hy,i_ ny] 361)]<|aC<|cV [.p] [(31,p_ b)]<|aG<|b0 (some 32) [3,2,2] (u4 b x m h n q s (uh ‹_›)<|uh ‹_›) ?_))))
 rintro⟨⟩-
 refine eE<|aC<|cV [.p] [(33,p_ by_)]<|eQ [0,0,0] [Ez b x q s] rfl (λw hs=>mw hs) (aG<|b0 (some 34) [1,1,0] (u4 by_ y my hy ny p (T.node b x (cS x q s) (dN q s) (dY q s) q s) (uh ‹_›)<|Ku ‹_› ‹_›) ?_)
 rintro⟨⟩-
 refine eE<|aE [(4,p_ by_)]<|aF<|eQ [0,0,0] (VC by_ y p b x q s) rfl (λw hs=>mw hs) (bR [0] [p_ by_] ((T.node by_ y (cS y p<|T.node b x (cS x q s) (dN q s) (dY q s) q s) (dN p<|T.node b x (cS x q s) (dN q s) (dY q s) q s) (dY p<|T.node b x (cS x q s) (dN q s) (dY q s) q s) p<|T.node b x (cS x q s) (dN q s) (dY q s) q s)) ?_ ?_)
 ·rfl
 rfl
abbrev VE(p0)(p1:It)(p2)(p3)(p4:It)(p5)(p6):=(aA p0 [u_ p1.ka,i_ p1.ki,u_ p1.va,i_ p1.vi,.pointer<|T.ptr p2,p_ p3,u_ p4.ka,i_ p4.ki,u_ p4.va,i_ p4.vi,i_ p5,i_ p6] 361:V.aI)
abbrev VF(p0)(p1)(p2)(p3)(p4)(p5)(p6):=([bA 361<|T.node p0 p1 (cS p1 (T.node p2 p3 (cS p3 p4 p5) (dN p4 p5) (dY p4 p5) p4 p5) p6) (dN (T.node p2 p3 (cS p3 p4 p5) (dN p4 p5) (dY p4 p5) p4 p5) p6) (dY (T.node p2 p3 (cS p3 p4 p5) (dN p4 p5) (dY p4 p5) p4 p5) p6) (T.node p2 p3 (cS p3 p4 p5) (dN p4 p5) (dY p4 p5) p4 p5) p6]:List V.aI)
theorem C3(b:Nat)(x m:It)(h n:Int)(by_:Nat)(y my:It)(hy ny:Int)(p q s:T)(hp:p.Sm)(hq:q.Sm)(hs_:s.Sm):
  CS 280 #[p_ b,i_ 1] [VE b x s by_ m h n,bA 361 s,bA 361<|T.node by_ y my hy ny p q] (λ(zt:T)=>(.pointer<|T.ptr zt)) (λzt=>zt=mk by_ y (mk b x s p) q) λzt=>[bA 361 zt]:=by
 intro w hs
 refine aU Tryz.func280 rfl hs (aE []<|aC<|bB [.ld 0] [(5,p_ by_)]<|aD<|eQ [2] [aA by_ [u_ y.ka,i_ y.ki,u_ y.va,i_ y.vi,.pointer<|T.ptr p,.pointer<|T.ptr q,u_ my.ka,i_ my.ki,u_ my.va,i_ my.vi,i_ hy,i_ ny] 361,bA 361 p,bA 361 q] rfl (λw hs=>pN hs) (bY [12] 13<|cQ 1 [.ld 0] (rg 0 12) [(5,p_ by_),(20,.pointer<|T.ptr p),(23,q_ b 5)]<|bF 12 rfl (dQ 3 [.pointer<|T.ptr p] rfl (dV<|aC<|bL [.st 0] [] [(0,aA by_ [u_ y.ka,i_ y.ki,u_ y.va,i_ y.vi,p_ b,.pointer<|T.ptr q,u_ my.ka,i_ my.ki,u_ my.va,i_ my.vi,i_ hy,i_ ny] 361)]<|aC<|cV [.p] [(31,p_ b)]<|aG<|b0 (some 32) [3,3,1] (u4 b x m h n s p (uh ‹_›)<|uh ‹_›) ?_))))
 rintro⟨⟩-
 refine eE<|aC<|cV [.p] [(33,p_ by_)]<|eQ [0,0,0] [Ez b x s p] rfl (λw hs=>mw hs) (aG<|b0 (some 34) [1,0,0] (u4 by_ y my hy ny (T.node b x (cS x s p) (dN s p) (dY s p) s p) q (Ku ‹_› ‹_›)<|uh ‹_›) ?_)
 rintro⟨⟩-
 refine eE<|aE [(4,p_ by_)]<|aF<|eQ [0,0,0] (VF by_ y b x s p q) rfl (λw hs=>mw hs) (bR [0] [p_ by_] ((T.node by_ y (cS y (T.node b x (cS x s p) (dN s p) (dY s p) s p) q) (dN (T.node b x (cS x s p) (dN s p) (dY s p) s p) q) (dY (T.node b x (cS x s p) (dN s p) (dY s p) s p) q) (T.node b x (cS x s p) (dN s p) (dY s p) s p) q)) ?_ ?_)
 ·rfl
 rfl
theorem wS(b:Nat)(x m:It)(h n:Int)(l r:T)(hl:l.Right)(hr:r.Right)(hlc:l.cnt≤900)(hrc:r.cnt≤900):
  CS 265 #[p_ b] [VD b x l r m h n,bA 361 l,bA 361 r] (λ(zt:T)=>(.pointer<|T.ptr zt)) (λzt=>zt=jE b x l r) λzt=>[bA 361 zt]:=by
 intro w hs
 have hl1:=hl.pos;have hr1:=hr.pos
 refine aU Tryz.func265 rfl hs (aE []<|aC<|cV [.p] [(5,p_ b)]<|aG<|b0 (some 6) [0,0,0] (u4 b x m h n l r (B8 ‹_› (by omega))<|B8 ‹_› (by omega)) ?_)
 rintro⟨⟩-
 refine eE<|bS<|bB [.ld 0] [(10,.agg #[.pointer<|T.ptr l,.pointer<|T.ptr r]),(11,i_ 0)]<|aR<|i4 400<|cd (m:=399)<|aE [(12,b_ true)]<|aD<|dU<|az<|aR<|aE [(3,i_ 0),(4,.pointer<|T.ptr l)]<|aD<|aD<|jw [.cq<|i_<|T.hgt l,.ld 0,.cq<|i_<|T.hgt r,.w<|(T.hgt r)+1] (rg 0 12) [] [(26,b_<|decide ((T.hgt l)≤((T.hgt r)+1)))] (oc (qo<|λw s=>pP l w<|s.mem (i:=1) rfl)<|oc (qo<|λw s=>pP r w<|s.mem (i:=2) rfl)<|o1<|wj ((T.hgt r)+1)<|by omega)<|aL rfl (λe2=>?_) (λe2=>?_)
 ·have p2:=Zg e2
  refine bg<|bZ [(11,i_ 1)]<|cd (m:=398)<|aE [(12,b_ true)]<|aD<|dU<|az<|aR<|aE [(3,i_ 1),(4,.pointer<|T.ptr r)]<|aD<|aD<|jw [.cq<|i_<|T.hgt r,.ld 0,.cq<|i_<|T.hgt l,.w<|(T.hgt l)+1] (rg 0 12) [] [(26,b_<|decide ((T.hgt r)≤((T.hgt l)+1)))] (oc (qo<|λw s=>pP r w<|s.mem (i:=2) rfl)<|oc (qo<|λw s=>pP l w<|s.mem (i:=1) rfl)<|o1<|wj ((T.hgt l)+1)<|by omega)<|aL rfl (λe3=>?_) (λe3=>?_)
  ·have p3:=Zg e3
   refine bg<|bZ [(11,i_ 2)]<|cd (m:=397)<|aE [(12,b_ false)]<|aD<|bM<|bg<|aE [(2,p_ b)]<|aF<|eQ [0,0,0] [Ez b x l r] rfl (λw hs=>mw hs) (bR [0] [p_ b] ((T.node b x (cS x l r) (dN l r) (dY l r) l r)) ?_ ?_)
   ·rfl
   (exact(M7 (by omega)<|by omega).symm)
  have p3:=Zh e3
  refine az<|aD ?_
  rcases r with _|⟨b1,x2,m3,h4,n5,l6,r7⟩
  ·exfalso
   simp only[kA,zh] at*;omega
  obtain⟨hr_m,hr_h,hr_n,hr_l,hr_r⟩:=id hr
  have hr_1:=T.Right.pos hr_l;have hr_2:=T.Right.pos hr_r;simp only[iz,qP,dN,dY] at*
  refine eQ [2] [aA b1 [u_ x2.ka,i_ x2.ki,u_ x2.va,i_ x2.vi,.pointer<|T.ptr l6,.pointer<|T.ptr r7,u_ m3.ka,i_ m3.ki,u_ m3.va,i_ m3.vi,i_ h4,i_ n5] 361,bA 361 l6,bA 361 r7] rfl (λw hs=>pN hs) (mH [.p,.p,.p,.p,.p,.p,.ld 0,.cq<|i_<|T.hgt l6,.p,.p,.p,.p,.p,.ld 0,.cq<|i_<|T.hgt r7,.p] [0,1,2,3,4,5,6,7,8,9,10,11,12,13,14,15] [(0,p_ b),(3,i_ 1),(4,p_ b1),(42,b_<|decide ((T.hgt l6)>(T.hgt r7)))] [b1,b1] (λκ=>κ.call 266 [.pointer<|T.ptr l6] (i_<|T.hgt l6)∧κ.call 266 [.pointer<|T.ptr r7] (i_<|T.hgt r7)∧True) (by kernel_rfl) (by kernel_rfl) ⟨(λw s=>pP l6 w<|s.mem (i:=1) rfl),(λw s=>pP r7 w<|s.mem (i:=2) rfl),trivial⟩<|aL rfl (λe4=>?_) (λe4=>?_))
  ·have p4:=Zg e4
   rcases l6 with _|⟨b8,x9,m10,h11,n12,l13,r14⟩
   ·exfalso
    simp only[kA,zh] at*;omega
   obtain⟨hr_l_m,hr_l_h,hr_l_n,hr_l_l,hr_l_r⟩:=id hr_l
   have hr_l_1:=T.Right.pos hr_l_l;have hr_l_2:=T.Right.pos hr_l_r;simp only[iz,qP,dN,dY] at*
   refine bY [5,9] 10<|cQ 3 [] [0,1,2,3,4,6,7] [(44,i_ 1),(45,p_ b1),(47,i_ 0),(50,q_ b 4)]<|bF 5 rfl (b0 (some 48) [0,0,0] (C2 b1 x2 m3 h4 n5 b8 x9 m10 h11 n12 l13 r14 r7 (kY ‹_› (by omega)) (kY ‹_› (by omega))<|kY ‹_› (by omega)) ?_)
   rintro zt15 hz5
   subst hz5
   refine cb<|cQ 1 [] [8] [(48,p_ b8),(51,q_ b 5)]<|bF 9 rfl (dQ 1 [p_ b8] rfl (dV<|aC<|an 2 [] [(52,p_ b),(53,i_ 1)]<|aG<|b0 (some 54) [1,1,0] (C3 b x (cS x l<|T.node b1 x2 m3 h4 n5 (T.node b8 x9 m10 h11 n12 l13 r14) r7) (dN l<|T.node b1 x2 m3 h4 n5 (T.node b8 x9 m10 h11 n12 l13 r14) r7) (dY l<|T.node b1 x2 m3 h4 n5 (T.node b8 x9 m10 h11 n12 l13 r14) r7) b8 x9 (cS x9 l13<|T.node b1 x2 (cS x2 r14 r7) (dN r14 r7) (dY r14 r7) r14 r7) (dN l13<|T.node b1 x2 (cS x2 r14 r7) (dN r14 r7) (dY r14 r7) r14 r7) (dY l13<|T.node b1 x2 (cS x2 r14 r7) (dN r14 r7) (dY r14 r7) r14 r7) l13 (T.node b1 x2 (cS x2 r14 r7) (dN r14 r7) (dY r14 r7) r14 r7) l (kY ‹_› (by omega)) (by exact kY (mL ‹_› ‹_›) (by simp only[qP,mk,dY];omega))<|kY ‹_› (by omega)) ?_))
   rintro zt16 hz6
   refine aQ [(2,.pointer<|T.ptr zt16)]<|aF<|bR [0] [.pointer<|T.ptr zt16] (zt16) ?_ ?_
   ·rfl
   (rw[Ks (by(simp only[iz,kA];omega)) (by(simp only[iz,kA];omega))<|by(simp only[iz,kA];omega)];assumption)
  have p4:=Zh e4
  refine aO<|aC<|an 2 [] [(52,p_ b),(53,i_ 1)]<|eQ [0,0,0] [bA 361<|T.node b1 x2 m3 h4 n5 l6 r7] rfl (λw hs=>mw hs) (aG<|b0 (some 54) [1,1,0] (C3 b x (cS x l<|T.node b1 x2 m3 h4 n5 l6 r7) (dN l<|T.node b1 x2 m3 h4 n5 l6 r7) (dY l<|T.node b1 x2 m3 h4 n5 l6 r7) b1 x2 m3 h4 n5 l6 r7 l (kY ‹_› (by omega)) (kY ‹_› (by omega))<|kY ‹_› (by omega)) ?_)
  rintro zt17 hz7
  refine aQ [(2,.pointer<|T.ptr zt17)]<|aF<|bR [0] [.pointer<|T.ptr zt17] (zt17) ?_ ?_
  ·rfl
  (rw[Kr (by(simp only[iz,kA];omega)) (by(simp only[iz,kA];omega))<|by omega];assumption)
 have p2:=Zh e2
 refine az<|aD ?_
 rcases l with _|⟨b18,x19,m20,h21,n22,l23,r24⟩
 ·exfalso
  simp only[kA,zh] at*;omega
 obtain⟨hl_m,hl_h,hl_n,hl_l,hl_r⟩:=id hl
 have hl_1:=T.Right.pos hl_l;have hl_2:=T.Right.pos hl_r;simp only[iz,qP,dN,dY] at*
 refine eQ [1] [aA b18 [u_ x19.ka,i_ x19.ki,u_ x19.va,i_ x19.vi,.pointer<|T.ptr l23,.pointer<|T.ptr r24,u_ m20.ka,i_ m20.ki,u_ m20.va,i_ m20.vi,i_ h21,i_ n22] 361,bA 361 l23,bA 361 r24] rfl (λw hs=>pN hs) (mH [.p,.p,.p,.p,.p,.p,.ld 0,.cq<|i_<|T.hgt r24,.p,.p,.p,.p,.p,.ld 0,.cq<|i_<|T.hgt l23,.p] [0,1,2,3,4,5,6,7,8,9,10,11,12,13,14,15] [(0,p_ b),(3,i_ 0),(4,p_ b18),(42,b_<|decide ((T.hgt r24)>(T.hgt l23)))] [b18,b18] (λκ=>κ.call 266 [.pointer<|T.ptr r24] (i_<|T.hgt r24)∧κ.call 266 [.pointer<|T.ptr l23] (i_<|T.hgt l23)∧True) (by kernel_rfl) (by kernel_rfl) ⟨(λw s=>pP r24 w<|s.mem (i:=2) rfl),(λw s=>pP l23 w<|s.mem (i:=1) rfl),trivial⟩<|aL rfl (λe8=>?_) (λe8=>?_))
 ·have p8:=Zg e8
  rcases r24 with _|⟨b25,x26,m27,h28,n29,l30,r31⟩
  ·exfalso
   simp only[kA,zh] at*;omega
  obtain⟨hl_r_m,hl_r_h,hl_r_n,hl_r_l,hl_r_r⟩:=id hl_r
  have hl_r_1:=T.Right.pos hl_r_l;have hl_r_2:=T.Right.pos hl_r_r;simp only[iz,qP,dN,dY] at*
  refine bY [5,9] 10<|cQ 3 [] [0,1,2,3,4,6,7] [(44,i_ 0),(45,p_ b18),(47,i_ 1),(50,q_ b 4)]<|bF 5 rfl (b0 (some 48) [0,0,0] (C3 b18 x19 m20 h21 n22 b25 x26 m27 h28 n29 l30 r31 l23 (kY ‹_› (by omega)) (kY ‹_› (by omega))<|kY ‹_› (by omega)) ?_)
  rintro zt32 hz9
  subst hz9
  refine cb<|cQ 1 [] [8] [(48,p_ b25),(51,q_ b 4)]<|bF 9 rfl (dQ 1 [p_ b25] rfl (dV<|aC<|an 2 [] [(52,p_ b),(53,i_ 0)]<|aG<|b0 (some 54) [1,0,0] (C2 b x (cS x (T.node b18 x19 m20 h21 n22 l23<|T.node b25 x26 m27 h28 n29 l30 r31) r) (dN (T.node b18 x19 m20 h21 n22 l23<|T.node b25 x26 m27 h28 n29 l30 r31) r) (dY (T.node b18 x19 m20 h21 n22 l23<|T.node b25 x26 m27 h28 n29 l30 r31) r) b25 x26 (cS x26 (T.node b18 x19 (cS x19 l23 l30) (dN l23 l30) (dY l23 l30) l23 l30) r31) (dN (T.node b18 x19 (cS x19 l23 l30) (dN l23 l30) (dY l23 l30) l23 l30) r31) (dY (T.node b18 x19 (cS x19 l23 l30) (dN l23 l30) (dY l23 l30) l23 l30) r31) (T.node b18 x19 (cS x19 l23 l30) (dN l23 l30) (dY l23 l30) l23 l30) r31 r (by exact kY (mL ‹_› ‹_›) (by simp only[qP,mk,dY];omega)) (kY ‹_› (by omega))<|kY ‹_› (by omega)) ?_))
  rintro zt33 hz10
  refine aQ [(2,.pointer<|T.ptr zt33)]<|aF<|bR [0] [.pointer<|T.ptr zt33] (zt33) ?_ ?_
  ·rfl
  (rw[Kq (by(simp only[iz,kA];omega))<|by(simp only[iz,kA];omega)];assumption)
 have p8:=Zh e8
 refine aO<|aC<|an 2 [] [(52,p_ b),(53,i_ 0)]<|eQ [0,0,0] [bA 361<|T.node b18 x19 m20 h21 n22 l23 r24] rfl (λw hs=>mw hs) (aG<|b0 (some 54) [1,0,0] (C2 b x (cS x (T.node b18 x19 m20 h21 n22 l23 r24) r) (dN (T.node b18 x19 m20 h21 n22 l23 r24) r) (dY (T.node b18 x19 m20 h21 n22 l23 r24) r) b18 x19 m20 h21 n22 l23 r24 r (kY ‹_› (by omega)) (kY ‹_› (by omega))<|kY ‹_› (by omega)) ?_)
 rintro zt34 hz11
 refine aQ [(2,.pointer<|T.ptr zt34)]<|aF<|bR [0] [.pointer<|T.ptr zt34] (zt34) ?_ ?_
 ·rfl
 (rw[Kp (by(simp only[iz,kA];omega))<|by omega];assumption)
end Go.Proofs.YtobgjpigngoggaaGreat
