/- The functions of the scheduler, layer by layer, proved operation by operation for all arguments, under the conditions that each theorem states: part 5. -/
import Derived.Test.YtobgjpigngoggaaGreatProg
import Derived.Test.YtobgjpigngoggaaGreatJ4
set_option linter.unusedVariables false
set_option linter.unusedSimpArgs false
set_option maxHeartbeats 4000000
set_option maxRecDepth 100000
namespace Go.Proofs.YtobgjpigngoggaaGreat
open Go V
abbrev F5(p0)(p1)(p2)(p3)(p4:Vt)(p5):=(.agg #[i_ p0,i_ p1,p_ p2,.map<|some p3,n_,p_ p4.be,.map<|some p5,u_ 0,u_ 0]:Value)
abbrev sD(p0)(p1):=(eH p0 (aJ ([]:hV Vt) 0 p1):V.aI)
abbrev lQ(p0)(p1):=((23,.agg #[i_ p0,i_ p1]):Nat×Value)
abbrev fQ(p0)(p1)(p2):=(aA p0 [i_ p1,i_ p2] 23:V.aI)
abbrev jj(p0):=(eH p0 ([]:hV Vt):V.aI)
abbrev gX(p0)(p1):=(aA p0 [.map<|some p1] 185:V.aI)
abbrev i9(p0):=(dj p0 ([]:hV En):V.aI)
abbrev jB(p0):=(fH p0 T.nil ([]:hV It):V.aI)
abbrev gY(p0):=(cN p0 ([]:hV Cl):V.aI)
theorem Xl(lt lm:Int)(h1:1≤lt∧lt≤65536)(h2:1≤lm∧lm≤16384):
  CS 41 #[.agg #[i_ lt,i_ lm]] [] (λ((sb,bt,mc,my,a,tl,mk,v):Nat×Nat×Nat×Nat×Ac×Vt×Nat×Vt)=>(.tuple #[p_ sb,i_ 0])) (λ(sb,bt,mc,my,a,tl,mk,v)=>a.ym=eu []∧v.kv=[]∧v.t=T.nil) λ(sb,bt,mc,my,a,tl,mk,v)=>[aA sb [i_ lt,i_ lm,p_ bt,.map<|some my,p_ a.bs,p_ tl.be,.map<|some mk,u_ 0,u_ 0] 141,gX bt mc,gY mc,i9 my,eX a ([])<|[],jB tl,sD mk v]:=by
 intro w hs
 refine aU Tryz.func41 rfl hs (aC<|dL [.al] [] (λb1=>[(1,p_ b1)]) (λb1=>aA b1 [i_ lt,i_ lm] 23) ?_)
 intro b1
 refine bS<|bB [.ld 0,.o,.ld 0,.cl,.o,.ld 0,.cl,.o,.ld 0,.cl] [(22,b_<|(((decide (lt<1))||(decide (lt>65536)))||(decide (lm<1)))||(decide (lm>16384)))]<|aL rfl (λe1=>?_) (λe1=>?_)
 ·exact absurd e1<|by(intro h_;simp at h_;omega)
 refine az<|OA [fQ b1 lt lm] (by kernel_rfl)<|mm 0 (some 23) (.agg #[i_ lt,i_ lm]) rfl (by kernel_rfl) (by kernel_rfl) (.refl _) (yt (vs:=[i_ lt,i_ lm]) rfl rfl (by kernel_rfl) (jL (i:=0) rfl rfl)) (j0 (λ((bt2,mb3,m4,tl5,m6,v7,b8):Nat×Nat×Nat×Vt×Nat×Vt×Nat)=>[(4,p_ b8)]) (λ((bt2,mb3,m4,tl5,m6,v7,b8):Nat×Nat×Nat×Vt×Nat×Vt×Nat)=>[sD m6 v7,jB tl5,i9 m4,gX bt2 mb3,gY mb3,fQ b1 lt lm,aA b8 [i_ lt,i_ lm,p_ bt2,.map<|some m4,n_,p_ tl5.be,.map<|some m6,u_ 0,u_ 0] 141]) (λ((bt2,mb3,m4,tl5,m6,v7,b8):Nat×Nat×Nat×Vt×Nat×Vt×Nat)=>(v7.kv=[]∧v7.t=T.nil)∧True) 0 #[true,true,true,true,true,true,true,true,true,true,true] ?_ (λhN0=>?_))
 ·rintro⟨bt2,mb3,m4,tl5,m6,v7,b8⟩ ⟨hpf5,-⟩
  refine OD (by kernel_rfl)<|aC<|an 5 [.ld 6] [(4,p_ b8),(32,p_ b8),(36,p_ bt2)]<|aG<|dH (some 37) [] (λw s h=>ND bt2 mb3 ([]:hV Cl) (by(simp;done)) w (s.mem (i:=3) rfl) (s.mem (i:=4) rfl) h) ?_
  rintro a36 hz14
  refine bL [.st 7] [] [(7,aA b8 [i_ lt,i_ lm,p_ bt2,.map<|some m4,p_ a36.bs,p_ tl5.be,.map<|some m6,u_ 0,u_ 0] 141)]<|aE [(2,p_ b8),(3,i_ 0)]<|aF<|bR [7,4,4,3,0,1,0] [p_ b8,i_ 0] (b8,bt2,mb3,m4,a36,tl5,m6,v7) ?_ ?_
  ·rfl
  (simp_all;done)
 refine j0 (λ((bt2,mb3,m4,tl5,m6,v7):Nat×Nat×Nat×Vt×Nat×Vt)=>[(30,F5 lt lm bt2 m4 tl5 m6)]) (λ((bt2,mb3,m4,tl5,m6,v7):Nat×Nat×Nat×Vt×Nat×Vt)=>[sD m6 v7,jB tl5,i9 m4,gX bt2 mb3,gY mb3,fQ b1 lt lm]) (λ((bt2,mb3,m4,tl5,m6,v7):Nat×Nat×Nat×Vt×Nat×Vt)=>(v7.kv=[]∧v7.t=T.nil)∧True) 2 #[true,true,true,true,true,true,true,true,true,false,false] ?_ (λhN1=>?_)
 ·rintro⟨bt2,mb3,m4,tl5,m6,v7⟩ ⟨hpf5,-⟩
  refine j7 [9] (by kernel_rfl) ⟨⟨_,rfl,?_⟩,trivial⟩
  ·refine Yy 31 [i_ lt,i_ lm,p_ bt2,.map<|some m4,n_,p_ tl5.be,.map<|some m6,u_ 0,u_ 0] (by kernel_rfl) rfl rfl rfl (λb37=>[sD m6 v7,jB tl5,i9 m4,gX bt2 mb3,gY mb3,fQ b1 lt lm,aA b37 [i_ lt,i_ lm,p_ bt2,.map<|some m4,n_,p_ tl5.be,.map<|some m6,u_ 0,u_ 0] 141]) (λ_=>rfl) ?_
   intro b37
   refine ej (sd [6,4,3,2,1,0])<|mm 10 (some 4) (p_ b37) rfl (by kernel_rfl) (by kernel_rfl) (sd [6,4,3,2,1,0]) (PM rfl rfl) ?_
   exact fe hN0 (bt2,mb3,m4,tl5,m6,v7,b37) ⟨hpf5,trivial⟩ [0,0,0,0,0,0,0] (by kernel_rfl) ⟨rfl,trivial⟩ rfl
 refine j0 (λ((bt2,mb3,tl5,m6,v7):Nat×Nat×Vt×Nat×Vt)=>[(lQ lt lm),(24,p_ bt2),(26,p_ tl5.be),(29,.map<|some m6)]) (λ((bt2,mb3,tl5,m6,v7):Nat×Nat×Vt×Nat×Vt)=>[sD m6 v7,jB tl5,gX bt2 mb3,gY mb3,fQ b1 lt lm]) (λ((bt2,mb3,tl5,m6,v7):Nat×Nat×Vt×Nat×Vt)=>(v7.kv=[]∧v7.t=T.nil)∧True) 4 #[true,true,false,true,true,true,true,true,false,false,false] ?_ (λhN2=>?_)
 ·rintro⟨bt2,mb3,tl5,m6,v7⟩ ⟨hpf5,-⟩
  refine j7 [2] (by kernel_rfl) ⟨⟨_,rfl,?_⟩,trivial⟩
  ·refine lI fj (λk:Int=>i_ k) (λm:En=>p_ m.eb) 25 (by kernel_rfl) rfl (λm38=>[i9 m38,sD m6 v7,jB tl5,gX bt2 mb3,gY mb3,fQ b1 lt lm]) (λ_=>rfl) ?_
   intro m38
   refine ej (sd [4,3,2,1,0])<|mm 8 (some 30) (F5 lt lm bt2 m38 tl5 m6) rfl (by kernel_rfl) (by kernel_rfl) (sd [4,3,2,1,0]) (jM (by kernel_rfl) λ_=>by kernel_rfl) ?_
   exact fe hN1 (bt2,mb3,m38,tl5,m6,v7) ⟨hpf5,trivial⟩ [1,1,0,0,0,0] (by kernel_rfl) ⟨rfl,trivial⟩ rfl
 refine j0 (λ((bt2,mb3,m4,tl5,m6,v7):Nat×Nat×Nat×Vt×Nat×Vt)=>[(lQ lt lm),(24,p_ bt2),(25,.map<|some m4),(26,p_ tl5.be),(27,.map<|some m6),(28,p_ v7.be)]) (λ((bt2,mb3,m4,tl5,m6,v7):Nat×Nat×Nat×Vt×Nat×Vt)=>[rE v7,jj m6,jB tl5,i9 m4,gX bt2 mb3,gY mb3,fQ b1 lt lm]) (λ((bt2,mb3,m4,tl5,m6,v7):Nat×Nat×Nat×Vt×Nat×Vt)=>(v7.kv=[]∧v7.t=T.nil)∧True) 5 #[true,true,true,true,true,true,false,false,false,false,false] ?_ (λhN3=>?_)
 ·rintro⟨bt2,mb3,m4,tl5,m6,v7⟩ ⟨hpf5,-⟩
  refine j7 [6] (by kernel_rfl) ⟨⟨_,rfl,?_⟩,trivial⟩
  ·refine Nz rfl (CE (f:=(eO 192)) (kt:=3) (et:=136) (ek:=(λk:Int=>i_ k)) (ev:=(λm:Vt=>p_ m.be)) (kv:=([]:hV Vt)) (k:=0) (H':=[sD m6 v7,jB tl5,i9 m4,gX bt2 mb3,gY mb3,fQ b1 lt lm]) 1 0 v7 (by kernel_rfl) rfl rfl rfl rfl (by kernel_rfl) eG rfl rfl rfl (ej (sd [4,3,2,1,0])<|mm 7 (some 29) (.map<|some m6) rfl (by kernel_rfl) (by kernel_rfl) (sd [4,3,2,1,0]) (JG rfl rfl) (mm 8 (some 30) (F5 lt lm bt2 m4 tl5 m6) rfl (by kernel_rfl) (by kernel_rfl) (sd [4,3,2,1,0]) (jM (by kernel_rfl) λ_=>by kernel_rfl) ?_)))
   exact fe hN1 (bt2,mb3,m4,tl5,m6,v7) ⟨hpf5,trivial⟩ [0,0,0,0,0,0] (by kernel_rfl) ⟨rfl,trivial⟩ rfl
 refine j0 (λ((bt2,mb3,m4,tl5,m6):Nat×Nat×Nat×Vt×Nat)=>[(lQ lt lm),(24,p_ bt2),(25,.map<|some m4),(26,p_ tl5.be),(27,.map<|some m6)]) (λ((bt2,mb3,m4,tl5,m6):Nat×Nat×Nat×Vt×Nat)=>[jj m6,jB tl5,i9 m4,gX bt2 mb3,gY mb3,fQ b1 lt lm]) (λ((bt2,mb3,m4,tl5,m6):Nat×Nat×Nat×Vt×Nat)=>True) 6 #[true,true,true,true,true,false,false,false,false,false,false] ?_ (λhN4=>?_)
 ·rintro⟨bt2,mb3,m4,tl5,m6⟩-
  refine j7 [5] (by kernel_rfl) ⟨⟨_,rfl,?_⟩,trivial⟩
  ·refine b0 (some 28) [] xt ?_
   rintro v39 hz15
   refine ej (sd [5,4,3,2,1,0]) ?_
   exact fe hN3 (bt2,mb3,m4,tl5,m6,v39) ⟨hz15,trivial⟩ [0,0,0,0,0,0,0] (by kernel_rfl) ⟨rfl,rfl,rfl,rfl,rfl,rfl,trivial⟩ rfl
 refine j0 (λ((bt2,mb3,m4,tl5,v7):Nat×Nat×Nat×Vt×Vt)=>[(lQ lt lm),(24,p_ bt2),(25,.map<|some m4),(26,p_ tl5.be),(28,p_ v7.be)]) (λ((bt2,mb3,m4,tl5,v7):Nat×Nat×Nat×Vt×Vt)=>[rE v7,jB tl5,i9 m4,gX bt2 mb3,gY mb3,fQ b1 lt lm]) (λ((bt2,mb3,m4,tl5,v7):Nat×Nat×Nat×Vt×Vt)=>(v7.kv=[]∧v7.t=T.nil)∧True) 6 #[true,true,true,true,false,true,false,false,false,false,false] ?_ (λhN5=>?_)
 ·rintro⟨bt2,mb3,m4,tl5,v7⟩ ⟨hpf5,-⟩
  refine j7 [4] (by kernel_rfl) ⟨⟨_,rfl,?_⟩,trivial⟩
  ·refine lI (eO 192) (λk:Int=>i_ k) (λm:Vt=>p_ m.be) 27 (by kernel_rfl) rfl (λm40=>[jj m40,rE v7,jB tl5,i9 m4,gX bt2 mb3,gY mb3,fQ b1 lt lm]) (λ_=>rfl) ?_
   intro m40
   refine ej (sd [5,4,3,2,1,0]) ?_
   exact fe hN3 (bt2,mb3,m4,tl5,m40,v7) ⟨hpf5,trivial⟩ [1,0,0,0,0,0,0] (by kernel_rfl) ⟨rfl,rfl,rfl,rfl,rfl,rfl,trivial⟩ rfl
 refine j0 (λ((bt2,mb3,tl5,m6,v7):Nat×Nat×Vt×Nat×Vt)=>[(lQ lt lm),(24,p_ bt2),(26,p_ tl5.be),(27,.map<|some m6),(28,p_ v7.be)]) (λ((bt2,mb3,tl5,m6,v7):Nat×Nat×Vt×Nat×Vt)=>[rE v7,jj m6,jB tl5,gX bt2 mb3,gY mb3,fQ b1 lt lm]) (λ((bt2,mb3,tl5,m6,v7):Nat×Nat×Vt×Nat×Vt)=>(v7.kv=[]∧v7.t=T.nil)∧True) 6 #[true,true,false,true,true,true,false,false,false,false,false] ?_ (λhN6=>?_)
 ·rintro⟨bt2,mb3,tl5,m6,v7⟩ ⟨hpf5,-⟩
  refine j7 [2,6] (by kernel_rfl) ⟨⟨_,rfl,?_⟩,⟨_,rfl,?_⟩,trivial⟩
  ·refine lI fj (λk:Int=>i_ k) (λm:En=>p_ m.eb) 25 (by kernel_rfl) rfl (λm41=>[i9 m41,rE v7,jj m6,jB tl5,gX bt2 mb3,gY mb3,fQ b1 lt lm]) (λ_=>rfl) ?_
   intro m41
   refine ej (sd [5,4,3,2,1,0]) ?_
   exact fe hN3 (bt2,mb3,m41,tl5,m6,v7) ⟨hpf5,trivial⟩ [1,1,1,0,0,0,0] (by kernel_rfl) ⟨rfl,rfl,rfl,rfl,rfl,rfl,trivial⟩ rfl
  refine Nz rfl (CE (f:=(eO 192)) (kt:=3) (et:=136) (ek:=(λk:Int=>i_ k)) (ev:=(λm:Vt=>p_ m.be)) (kv:=([]:hV Vt)) (k:=0) (H':=[sD m6 v7,jB tl5,gX bt2 mb3,gY mb3,fQ b1 lt lm]) 1 0 v7 (by kernel_rfl) rfl rfl rfl rfl (by kernel_rfl) eG rfl rfl rfl (ej (sd [3,2,1,0])<|mm 7 (some 29) (.map<|some m6) rfl (by kernel_rfl) (by kernel_rfl) (sd [3,2,1,0]) (JG rfl rfl) ?_))
  exact fe hN2 (bt2,mb3,tl5,m6,v7) ⟨hpf5,trivial⟩ [0,0,0,0,0] (by kernel_rfl) ⟨rfl,rfl,rfl,rfl,trivial⟩ rfl
 refine j0 (λ((bt2,mb3,m4,tl5):Nat×Nat×Nat×Vt)=>[(lQ lt lm),(24,p_ bt2),(25,.map<|some m4),(26,p_ tl5.be)]) (λ((bt2,mb3,m4,tl5):Nat×Nat×Nat×Vt)=>[jB tl5,i9 m4,gX bt2 mb3,gY mb3,fQ b1 lt lm]) (λ((bt2,mb3,m4,tl5):Nat×Nat×Nat×Vt)=>True) 7 #[true,true,true,true,false,false,false,false,false,false,false] ?_ (λhN7=>?_)
 ·rintro⟨bt2,mb3,m4,tl5⟩-
  refine j7 [4,5] (by kernel_rfl) ⟨⟨_,rfl,?_⟩,⟨_,rfl,?_⟩,trivial⟩
  ·refine lI (eO 192) (λk:Int=>i_ k) (λm:Vt=>p_ m.be) 27 (by kernel_rfl) rfl (λm42=>[jj m42,jB tl5,i9 m4,gX bt2 mb3,gY mb3,fQ b1 lt lm]) (λ_=>rfl) ?_
   intro m42
   refine ej (sd [4,3,2,1,0]) ?_
   exact fe hN4 (bt2,mb3,m4,tl5,m42) trivial [0,0,0,0,0,0] (by kernel_rfl) ⟨rfl,rfl,rfl,rfl,rfl,trivial⟩ rfl
  refine b0 (some 28) [] xt ?_
  rintro v43 hz16
  refine ej (sd [4,3,2,1,0]) ?_
  exact fe hN5 (bt2,mb3,m4,tl5,v43) ⟨hz16,trivial⟩ [0,0,0,0,0,0] (by kernel_rfl) ⟨rfl,rfl,rfl,rfl,rfl,trivial⟩ rfl
 refine j0 (λ((bt2,mb3,m4,m6):Nat×Nat×Nat×Nat)=>[(lQ lt lm),(24,p_ bt2),(25,.map<|some m4),(27,.map<|some m6)]) (λ((bt2,mb3,m4,m6):Nat×Nat×Nat×Nat)=>[jj m6,i9 m4,gX bt2 mb3,gY mb3,fQ b1 lt lm]) (λ((bt2,mb3,m4,m6):Nat×Nat×Nat×Nat)=>True) 7 #[true,true,true,false,true,false,false,false,false,false,false] ?_ (λhN8=>?_)
 ·rintro⟨bt2,mb3,m4,m6⟩-
  refine j7 [3] (by kernel_rfl) ⟨⟨_,rfl,?_⟩,trivial⟩
  ·refine b0 (some 26) [] BX ?_
   rintro tl44-
   refine ej (sd [4,3,2,1,0]) ?_
   exact fe hN4 (bt2,mb3,m4,tl44,m6) trivial [1,0,0,0,0,0] (by kernel_rfl) ⟨rfl,rfl,rfl,rfl,rfl,trivial⟩ rfl
 refine j0 (λ((bt2,mb3,tl5,m6):Nat×Nat×Vt×Nat)=>[(lQ lt lm),(24,p_ bt2),(26,p_ tl5.be),(27,.map<|some m6)]) (λ((bt2,mb3,tl5,m6):Nat×Nat×Vt×Nat)=>[jj m6,jB tl5,gX bt2 mb3,gY mb3,fQ b1 lt lm]) (λ((bt2,mb3,tl5,m6):Nat×Nat×Vt×Nat)=>True) 7 #[true,true,false,true,true,false,false,false,false,false,false] ?_ (λhN9=>?_)
 ·rintro⟨bt2,mb3,tl5,m6⟩-
  refine j7 [2,5] (by kernel_rfl) ⟨⟨_,rfl,?_⟩,⟨_,rfl,?_⟩,trivial⟩
  ·refine lI fj (λk:Int=>i_ k) (λm:En=>p_ m.eb) 25 (by kernel_rfl) rfl (λm45=>[i9 m45,jj m6,jB tl5,gX bt2 mb3,gY mb3,fQ b1 lt lm]) (λ_=>rfl) ?_
   intro m45
   refine ej (sd [4,3,2,1,0]) ?_
   exact fe hN4 (bt2,mb3,m45,tl5,m6) trivial [1,1,0,0,0,0] (by kernel_rfl) ⟨rfl,rfl,rfl,rfl,rfl,trivial⟩ rfl
  refine b0 (some 28) [] xt ?_
  rintro v46 hz18
  refine ej (sd [4,3,2,1,0]) ?_
  exact fe hN6 (bt2,mb3,tl5,m6,v46) ⟨hz18,trivial⟩ [0,0,0,0,0,0] (by kernel_rfl) ⟨rfl,rfl,rfl,rfl,rfl,trivial⟩ rfl
 refine j0 (λ((bt2,mb3,tl5,v7):Nat×Nat×Vt×Vt)=>[(lQ lt lm),(24,p_ bt2),(26,p_ tl5.be),(28,p_ v7.be)]) (λ((bt2,mb3,tl5,v7):Nat×Nat×Vt×Vt)=>[rE v7,jB tl5,gX bt2 mb3,gY mb3,fQ b1 lt lm]) (λ((bt2,mb3,tl5,v7):Nat×Nat×Vt×Vt)=>(v7.kv=[]∧v7.t=T.nil)∧True) 7 #[true,true,false,true,false,true,false,false,false,false,false] ?_ (λhN10=>?_)
 ·rintro⟨bt2,mb3,tl5,v7⟩ ⟨hpf5,-⟩
  refine j7 [2,4] (by kernel_rfl) ⟨⟨_,rfl,?_⟩,⟨_,rfl,?_⟩,trivial⟩
  ·refine lI fj (λk:Int=>i_ k) (λm:En=>p_ m.eb) 25 (by kernel_rfl) rfl (λm47=>[i9 m47,rE v7,jB tl5,gX bt2 mb3,gY mb3,fQ b1 lt lm]) (λ_=>rfl) ?_
   intro m47
   refine ej (sd [4,3,2,1,0]) ?_
   exact fe hN5 (bt2,mb3,m47,tl5,v7) ⟨hpf5,trivial⟩ [1,1,0,0,0,0] (by kernel_rfl) ⟨rfl,rfl,rfl,rfl,rfl,trivial⟩ rfl
  refine lI (eO 192) (λk:Int=>i_ k) (λm:Vt=>p_ m.be) 27 (by kernel_rfl) rfl (λm48=>[jj m48,rE v7,jB tl5,gX bt2 mb3,gY mb3,fQ b1 lt lm]) (λ_=>rfl) ?_
  intro m48
  refine ej (sd [4,3,2,1,0]) ?_
  exact fe hN6 (bt2,mb3,tl5,m48,v7) ⟨hpf5,trivial⟩ [1,0,0,0,0,0] (by kernel_rfl) ⟨rfl,rfl,rfl,rfl,rfl,trivial⟩ rfl
 refine j0 (λ((bt2,mb3,m4):Nat×Nat×Nat)=>[(lQ lt lm),(24,p_ bt2),(25,.map<|some m4)]) (λ((bt2,mb3,m4):Nat×Nat×Nat)=>[i9 m4,gX bt2 mb3,gY mb3,fQ b1 lt lm]) (λ((bt2,mb3,m4):Nat×Nat×Nat)=>True) 8 #[true,true,true,false,false,false,false,false,false,false,false] ?_ (λhN11=>?_)
 ·rintro⟨bt2,mb3,m4⟩-
  refine j7 [3,4] (by kernel_rfl) ⟨⟨_,rfl,?_⟩,⟨_,rfl,?_⟩,trivial⟩
  ·refine b0 (some 26) [] BX ?_
   rintro tl49-
   refine ej (sd [3,2,1,0]) ?_
   exact fe hN7 (bt2,mb3,m4,tl49) trivial [0,0,0,0,0] (by kernel_rfl) ⟨rfl,rfl,rfl,rfl,trivial⟩ rfl
  refine lI (eO 192) (λk:Int=>i_ k) (λm:Vt=>p_ m.be) 27 (by kernel_rfl) rfl (λm50=>[jj m50,i9 m4,gX bt2 mb3,gY mb3,fQ b1 lt lm]) (λ_=>rfl) ?_
  intro m50
  refine ej (sd [3,2,1,0]) ?_
  exact fe hN8 (bt2,mb3,m4,m50) trivial [0,0,0,0,0] (by kernel_rfl) ⟨rfl,rfl,rfl,rfl,trivial⟩ rfl
 refine j0 (λ((bt2,mb3,tl5):Nat×Nat×Vt)=>[(lQ lt lm),(24,p_ bt2),(26,p_ tl5.be)]) (λ((bt2,mb3,tl5):Nat×Nat×Vt)=>[jB tl5,gX bt2 mb3,gY mb3,fQ b1 lt lm]) (λ((bt2,mb3,tl5):Nat×Nat×Vt)=>True) 8 #[true,true,false,true,false,false,false,false,false,false,false] ?_ (λhN12=>?_)
 ·rintro⟨bt2,mb3,tl5⟩-
  refine j7 [2,4,5] (by kernel_rfl) ⟨⟨_,rfl,?_⟩,⟨_,rfl,?_⟩,⟨_,rfl,?_⟩,trivial⟩
  ·refine lI fj (λk:Int=>i_ k) (λm:En=>p_ m.eb) 25 (by kernel_rfl) rfl (λm51=>[i9 m51,jB tl5,gX bt2 mb3,gY mb3,fQ b1 lt lm]) (λ_=>rfl) ?_
   intro m51
   refine ej (sd [3,2,1,0]) ?_
   exact fe hN7 (bt2,mb3,m51,tl5) trivial [1,0,0,0,0] (by kernel_rfl) ⟨rfl,rfl,rfl,rfl,trivial⟩ rfl
  ·refine lI (eO 192) (λk:Int=>i_ k) (λm:Vt=>p_ m.be) 27 (by kernel_rfl) rfl (λm52=>[jj m52,jB tl5,gX bt2 mb3,gY mb3,fQ b1 lt lm]) (λ_=>rfl) ?_
   intro m52
   refine ej (sd [3,2,1,0]) ?_
   exact fe hN9 (bt2,mb3,tl5,m52) trivial [0,0,0,0,0] (by kernel_rfl) ⟨rfl,rfl,rfl,rfl,trivial⟩ rfl
  refine b0 (some 28) [] xt ?_
  rintro v53 hz20
  refine ej (sd [3,2,1,0]) ?_
  exact fe hN10 (bt2,mb3,tl5,v53) ⟨hz20,trivial⟩ [0,0,0,0,0] (by kernel_rfl) ⟨rfl,rfl,rfl,rfl,trivial⟩ rfl
 refine j0 (λ((bt2,mb3,m6):Nat×Nat×Nat)=>[(lQ lt lm),(24,p_ bt2),(27,.map<|some m6)]) (λ((bt2,mb3,m6):Nat×Nat×Nat)=>[jj m6,gX bt2 mb3,gY mb3,fQ b1 lt lm]) (λ((bt2,mb3,m6):Nat×Nat×Nat)=>True) 8 #[true,true,false,false,true,false,false,false,false,false,false] ?_ (λhN13=>?_)
 ·rintro⟨bt2,mb3,m6⟩-
  refine j7 [2,3] (by kernel_rfl) ⟨⟨_,rfl,?_⟩,⟨_,rfl,?_⟩,trivial⟩
  ·refine lI fj (λk:Int=>i_ k) (λm:En=>p_ m.eb) 25 (by kernel_rfl) rfl (λm54=>[i9 m54,jj m6,gX bt2 mb3,gY mb3,fQ b1 lt lm]) (λ_=>rfl) ?_
   intro m54
   refine ej (sd [3,2,1,0]) ?_
   exact fe hN8 (bt2,mb3,m54,m6) trivial [1,0,0,0,0] (by kernel_rfl) ⟨rfl,rfl,rfl,rfl,trivial⟩ rfl
  refine b0 (some 26) [] BX ?_
  rintro tl55-
  refine ej (sd [3,2,1,0]) ?_
  exact fe hN9 (bt2,mb3,tl55,m6) trivial [1,0,0,0,0] (by kernel_rfl) ⟨rfl,rfl,rfl,rfl,trivial⟩ rfl
 refine j0 (λ((m4,m6):Nat×Nat)=>[(lQ lt lm),(25,.map<|some m4),(27,.map<|some m6)]) (λ((m4,m6):Nat×Nat)=>[jj m6,i9 m4,fQ b1 lt lm]) (λ((m4,m6):Nat×Nat)=>True) 8 #[true,false,true,false,true,false,false,false,false,false,false] ?_ (λhN14=>?_)
 ·rintro⟨m4,m6⟩-
  refine j7 [1] (by kernel_rfl) ⟨⟨_,rfl,?_⟩,trivial⟩
  ·refine b0 (some 24) [] yn ?_
   rintro⟨bt56,mb57⟩-
   refine ej (sd [3,2,1,0]) ?_
   exact fe hN8 (bt56,mb57,m4,m6) trivial [2,2,0,0,0] (by kernel_rfl) ⟨rfl,rfl,rfl,rfl,trivial⟩ rfl
 refine j0 (λ((bt2,mb3):Nat×Nat)=>[(lQ lt lm),(24,p_ bt2)]) (λ((bt2,mb3):Nat×Nat)=>[gX bt2 mb3,gY mb3,fQ b1 lt lm]) (λ((bt2,mb3):Nat×Nat)=>True) 9 #[true,true,false,false,false,false,false,false,false,false,false] ?_ (λhN15=>?_)
 ·rintro⟨bt2,mb3⟩-
  refine j7 [2,3,4] (by kernel_rfl) ⟨⟨_,rfl,?_⟩,⟨_,rfl,?_⟩,⟨_,rfl,?_⟩,trivial⟩
  ·refine lI fj (λk:Int=>i_ k) (λm:En=>p_ m.eb) 25 (by kernel_rfl) rfl (λm58=>[i9 m58,gX bt2 mb3,gY mb3,fQ b1 lt lm]) (λ_=>rfl) ?_
   intro m58
   refine ej (sd [2,1,0]) ?_
   exact fe hN11 (bt2,mb3,m58) trivial [0,0,0,0] (by kernel_rfl) ⟨rfl,rfl,rfl,trivial⟩ rfl
  ·refine b0 (some 26) [] BX ?_
   rintro tl59-
   refine ej (sd [2,1,0]) ?_
   exact fe hN12 (bt2,mb3,tl59) trivial [0,0,0,0] (by kernel_rfl) ⟨rfl,rfl,rfl,trivial⟩ rfl
  refine lI (eO 192) (λk:Int=>i_ k) (λm:Vt=>p_ m.be) 27 (by kernel_rfl) rfl (λm60=>[jj m60,gX bt2 mb3,gY mb3,fQ b1 lt lm]) (λ_=>rfl) ?_
  intro m60
  refine ej (sd [2,1,0]) ?_
  exact fe hN13 (bt2,mb3,m60) trivial [0,0,0,0] (by kernel_rfl) ⟨rfl,rfl,rfl,trivial⟩ rfl
 refine j0 (λ(m4:Nat)=>[(lQ lt lm),(25,.map<|some m4)]) (λ(m4:Nat)=>[i9 m4,fQ b1 lt lm]) (λ(m4:Nat)=>True) 9 #[true,false,true,false,false,false,false,false,false,false,false] ?_ (λhN16=>?_)
 ·rintro m4-
  refine j7 [1,4] (by kernel_rfl) ⟨⟨_,rfl,?_⟩,⟨_,rfl,?_⟩,trivial⟩
  ·refine b0 (some 24) [] yn ?_
   rintro⟨bt61,mb62⟩-
   refine ej (sd [2,1,0]) ?_
   exact fe hN11 (bt61,mb62,m4) trivial [2,0,0,0] (by kernel_rfl) ⟨rfl,rfl,rfl,trivial⟩ rfl
  refine lI (eO 192) (λk:Int=>i_ k) (λm:Vt=>p_ m.be) 27 (by kernel_rfl) rfl (λm63=>[jj m63,i9 m4,fQ b1 lt lm]) (λ_=>rfl) ?_
  intro m63
  refine ej (sd [1,0]) ?_
  exact fe hN14 (m4,m63) trivial [0,0,0] (by kernel_rfl) ⟨rfl,rfl,rfl,trivial⟩ rfl
 refine j0 (λ(m6:Nat)=>[(lQ lt lm),(27,.map<|some m6)]) (λ(m6:Nat)=>[jj m6,fQ b1 lt lm]) (λ(m6:Nat)=>True) 9 #[true,false,false,false,true,false,false,false,false,false,false] ?_ (λhN17=>?_)
 ·rintro m6-
  refine j7 [1,2] (by kernel_rfl) ⟨⟨_,rfl,?_⟩,⟨_,rfl,?_⟩,trivial⟩
  ·refine b0 (some 24) [] yn ?_
   rintro⟨bt64,mb65⟩-
   refine ej (sd [2,1,0]) ?_
   exact fe hN13 (bt64,mb65,m6) trivial [2,0,0,0] (by kernel_rfl) ⟨rfl,rfl,rfl,trivial⟩ rfl
  refine lI fj (λk:Int=>i_ k) (λm:En=>p_ m.eb) 25 (by kernel_rfl) rfl (λm66=>[i9 m66,jj m6,fQ b1 lt lm]) (λ_=>rfl) ?_
  intro m66
  refine ej (sd [1,0]) ?_
  exact fe hN14 (m66,m6) trivial [1,0,0] (by kernel_rfl) ⟨rfl,rfl,rfl,trivial⟩ rfl
 refine j7 [1,2,4] (by kernel_rfl) ⟨⟨_,rfl,?_⟩,⟨_,rfl,?_⟩,⟨_,rfl,?_⟩,trivial⟩
 ·refine b0 (some 24) [] yn ?_
  rintro⟨bt67,mb68⟩-
  refine ej (sd [1,0]) ?_
  exact fe hN15 (bt67,mb68) trivial [0,0,0] (by kernel_rfl) ⟨rfl,rfl,trivial⟩ rfl
 ·refine lI fj (λk:Int=>i_ k) (λm:En=>p_ m.eb) 25 (by kernel_rfl) rfl (λm69=>[i9 m69,fQ b1 lt lm]) (λ_=>rfl) ?_
  intro m69
  refine ej (sd [0]) ?_
  exact fe hN16 m69 trivial [0,0] (by kernel_rfl) ⟨rfl,rfl,trivial⟩ rfl
 refine lI (eO 192) (λk:Int=>i_ k) (λm:Vt=>p_ m.be) 27 (by kernel_rfl) rfl (λm70=>[jj m70,fQ b1 lt lm]) (λ_=>rfl) ?_
 intro m70
 refine ej (sd [0]) ?_
 exact fe hN17 m70 trivial [0,0] (by kernel_rfl) ⟨rfl,rfl,trivial⟩ rfl
def lU(d:Sd):Prop:=d.kc=[]∧d.kb=[]∧d.a.ym=eu []∧d.on=[]∧d.ka=[]∧d.et=T.nil∧d.ek=[]∧(∃v,d.kk=[(0,v)]∧v.kv=[]∧v.t=T.nil)∧d.ck=0∧d.ac=0
theorem Xm(lt lm:Int)(h1:1≤lt∧lt≤65536)(h2:1≤lm∧lm≤16384)(w:World)(hs:HS w (aN []) [] w):Calls Tryz.prog 41 #[.agg #[i_ lt,i_ lm]] w λe w'=> ∃zz:Ss×Sd,e= .returned (.tuple #[p_ zz.1.sb,i_ 0])∧(zz.1.lt=lt∧zz.1.lm=lm∧lU zz.2)∧Turn [] [eZ zz.1 zz.2] w w':=by
 refine(Xl lt lm h1 h2 w hs).mono ?_
 rintro e w' ⟨⟨sb,bt,mc,my,a,tl,mk,v⟩,a1,a2,a3⟩
 exact⟨(⟨sb,lt,lm,my,mk,tl⟩,⟨bt,mc,[],[],a,[],[],T.nil,[],[(0,v)],0,0⟩),a1,⟨rfl,rfl,rfl,rfl,a2.1,rfl,rfl,rfl,rfl,⟨v,rfl,a2.2⟩,rfl,rfl⟩,Turn.coR (Y:=[]) (by rw[List.append_nil];exact a3)⟩
theorem Vz(w:World)(hs:HS w (aN []) [] w):Calls Tryz.prog 43 #[.slice none 0 0] w λe w'=> ∃zz:Ru,e= .returned (.tuple #[p_ zz.bt,i_ 0])∧zz.rl=[]∧Turn [] [gj zz] w w':=
 Ld none [] 0 ⟨by simp,by simp,by simp⟩ w (λj u h=>by cases h) hs
theorem Xn(t lm:Int)(htt:1≤t∧t≤65536)(hlm:1≤lm∧lm≤16384):
  CS 31 #[.agg #[i_ t,i_ lm]] [] (λ((sy,c,d,bl,r,s):Nat×Ss×Sd×Nat×Ru×oR)=>(.tuple #[p_ sy,i_ 0])) (λ(sy,c,d,bl,r,s)=>c.lt=t∧c.lm=lm∧lU d∧r.rl=[]) λ(sy,c,d,bl,r,s)=>[aA sy [p_ c.sb,p_ bl,p_ r.bt,p_ s.bs,u_ 0,i_ 0] 114,eZ c d,aA bl [u_ 0,u_ 0,u_ 0,i_ t,u_ 0] 146,fP s ([])<|[],gj r]:=by
 intro w hs
 refine aU Tryz.func31 rfl hs (aC<|dL [.al] [] (λb1=>[(1,p_ b1)]) (λb1=>aA b1 [i_ t,i_ lm] 23) ?_)
 intro b1
 refine aC<|cV [.ld 0] [(11,.agg #[i_ t,i_ lm])]<|aG<|b0 (some 12) [] (Xm t lm ‹_› ‹_›) ?_
 rintro⟨c2,d3⟩ hz1
 refine aQ [(4,p_ c2.sb),(5,i_ 0)]<|aD<|aE [(16,b_ false)]<|bM<|aO<|aC<|an 2 [.ld 1] [(20,i_ t)]<|aG<|b0 (some 21) [] (Uh t ‹_›) ?_
 rintro bl4-
 refine aQ [(6,p_ bl4)]<|aC<|aG<|b0 (some 25) [] Vz ?_
 rintro r5 hz3
 refine aQ [(8,p_ r5.bt)]<|aC<|an 3 [] [(28,p_ c2.sb),(29,p_ bl4),(30,p_ r5.bt)]<|aG<|b0 (some 31) [] Xj ?_
 rintro s6-
 refine dL [.al] [] (λb7=>[(2,p_ b7),(3,i_ 0)]) (λb7=>aA b7 [p_ c2.sb,p_ bl4,p_ r5.bt,p_ s6.bs,u_ 0,i_ 0] 114) ?_
 intro b7
 refine aF<|bR [5,3,2,0,0] [p_ b7,i_ 0] (b7,c2,d3,bl4,r5,s6) ?_ ?_
 ·rfl
 exact⟨(by assumption:_∧_∧lU _).1,(by assumption:_∧_∧lU _).2.1,(by assumption:_∧_∧lU _).2.2,by assumption⟩
abbrev oy(A:k0)(xs:List Rs)(c:Nat):V.aI:=sl A xs.length c 49 3<|V.aP jD xs
structure ew where
 kd:Int
 za:Option Addr
 zl:List Zc
 zc:Nat
 ra:Option Addr
 rl:List Rl
 rc:Nat
 op:Pk
 tk:Int
 deriving Inhabited
def nn(x:ew):List Value:=[i_ x.kd,.slice x.za x.zl.length x.zc,.slice x.ra x.rl.length x.rc,u_ x.op.qi,i_ x.op.qn,w_ x.op.qa,w_ x.op.qb,w_ x.op.qc,w_ x.op.qd,u_ x.tk]
theorem oY(x:ew):(nn x).length=10:=rfl
def qm(W:World)(ops:List ew):Prop:= ∀x∈ops,dR W x.za (V.aP gv x.zl)∧dR W x.ra (V.aP f9 x.rl)∧(∀z∈x.zl,iQ z)∧(∀y∈x.rl,kq y)∧ko (fc x.op)∧0≤x.tk
def oK(c:Ss)(t:Int):List ew→Int→Sd→Int→Int→List Rl→List Rs→List Ev→Prop
 |[],_,_,_,_,_,rsl,evl=>rsl=[]∧evl=[]
 |o::l,no,d,un,clk,rl,rsl,evl=> ∃x evs d' un' clk' rl' rsl' evl',yK c t o.kd o.zl o.rl o.op o.tk no d un clk rl x evs d' un' clk' rl'∧oK c t l (no+1) d' un' clk' rl' rsl' evl'∧rsl=x::rsl'∧evl=evs++evl'
variable{c:Ss}{t un' clk':Int}{ops:List ew}{k:Nat}{o:ew}{d d':Sd}{rl rl':List Rl}{evs:List Ev}{rsl:List Rs}
theorem RD{no un clk:Int}{x:Rs}{evl:List Ev}(hk:ops[k]? =some o)(h:yK c t o.kd o.zl o.rl o.op o.tk no d un clk rl x evs d' un' clk' rl')
  (hr:oK c t (ops.drop<|k+1) (no+1) d' un' clk' rl' rsl evl):oK c t (ops.drop k) no d un clk rl (x::rsl) (evs++evl):=by
 obtain⟨e1,e2⟩:=Zf.1 hk
 rw[List.drop_eq_getElem_cons e1,e2];exact⟨x,evs,d',un',clk',rl',rsl,evl,h,hr,rfl,rfl⟩
variable{I:Sd→Prop}{cnt:Sd→Nat}
theorem TQ(hW:pd c I cnt){oo fin:Int}(hf:fin≤4611686018427387904): ∀{clk un un':Int}{d d':Sd}{evs evs':List Ev},ow t oo fin clk d un evs d' un' evs'→I d→d.ck≤clk→clk≤fin→I d'∧evs'.length+cnt d'≤evs.length+cnt d∧d'.ck≤fin:=by
 intro clk un un' d d' evs evs' h
 induction h with
 |stop h=>intro hI h1 h2;exact⟨hI,Nat.le_refl _,by omega⟩
 |step hx hp _ ih=>
  intro hI h1 h2
  have b:=xU hx hf
  obtain⟨a1,a2,a3⟩:=xG hW hI (by omega) hp
  obtain⟨c1,c2,c3⟩:=ih a1 a3 hx
  exact⟨c1,by omega,c3⟩
variable{l:List Zc}
theorem Ll(hW:pd c I cnt){kd tk no un clk:Int}{lr:List Rl}{p:Pk}{x:Rs}(hz: ∀z∈l,iQ z)(htk:0≤tk)(hI:I d)(hck:d.ck≤clk)(hc:0≤clk∧clk≤4611686018427387904)(h:yK c t kd l lr p tk no d un clk rl x evs d' un' clk' rl'):
  I d'∧d'.ck≤clk'∧(0≤clk'∧clk'≤4611686018427387904)∧evs.length+cnt d'≤cnt d+2:=by
 rcases h with⟨-,⟨er,pl,h,-⟩,-,rfl,-,rfl⟩|⟨-,rfl,-,rfl,rfl,-⟩|⟨-,rfl,-,h⟩|⟨-,-,h⟩|⟨-,-,rfl,-,rfl,-,rfl⟩
 ·obtain⟨a1,a2⟩:=hW.chg _ _ _ _ _ _ hI hz h
  exact⟨a1,by have h_:=h.2.2.1;omega,hc,by(simp;omega)⟩
 ·exact⟨hI,hck,hc,by(simp;done)⟩
 ·rcases h with⟨-,-,rfl,-,rfl⟩|⟨-,er,d1,hp,h⟩
  ·exact⟨hI,hck,hc,by(simp;done)⟩
  ·obtain⟨a1,a2⟩:=hW.put _ _ _ _ _ _ hI hck hp
   have hk:=Lj hp
   rcases h with⟨-,-,rfl,-,rfl⟩|⟨-,-,h⟩
   ·exact⟨a1,hk,hc,by(simp;omega)⟩
   ·obtain⟨b1,b2,b3⟩:=xG hW a1 hk h
    exact⟨b1,b3,hc,by simp at b2;omega⟩
 ·rcases h with⟨-,-,rfl,rfl,-,rfl⟩|⟨h1,-,rfl,h⟩
  ·exact⟨hI,hck,hc,by(simp;done)⟩
  ·obtain⟨b1,b2,b3⟩:=TQ hW (by omega) h hI hck<|by omega
   exact⟨b1,b3,by omega,by simp at b2;omega⟩
 ·exact⟨hI,hck,hc,by(simp;done)⟩
variable{kc:hV Cl}
theorem YZ(h: ∀o,ops[0]? =some o→fw [] o.zl=0→fg (bQ [] o.zl)=[])(h1: ∀(j:Nat)(o:ew),0<j→ops[j]? =some o→o.kd≠1)(h0:k=0→kc=[])(ho:ops[k]? =some o):o.kd=1→fw kc o.zl=0→fg (bQ kc o.zl)=[]:=λhk=>by
 by_cases e:k=0
 ·subst e;rw[h0 rfl];exact h o ho
 ·exact absurd hk<|h1 k o (by omega) ho
theorem Xo(W:World)(t lm:Int)(al:k0)(ops:List ew)(cl:Nat)(hoa:dR W al (V.aP nn ops))(hops:qm W ops)(hol:ops.length≤1000)(htt:1≤t∧t≤65536)(hlm:1≤lm∧lm≤16384)(hNR: ∀o,ops[0]? =some o→fw [] o.zl=0→fg (bQ [] o.zl)=[])(hk1: ∀(j:Nat)(o:ew),0<j→ops[j]? =some o→o.kd≠1)(hLaw: ∀c d,c.lt=t→c.lm=lm→lU d→ ∃(I:Sd→Prop)(cnt:Sd→Nat),pd c I cnt∧I d∧cnt d=0):
  CS 9 #[.agg #[i_ t,i_ lm,vS al ops cl]] [eT W] (λ((A',rs',a',B',ev',b'):(k0)×(List Rs)×Nat×(k0)×(List Ev)×Nat)=>(.tuple #[.agg #[vS A' rs' a',vS B' ev' b'],i_ 0])) (λ(A',rs',a',B',ev',b')=> ∃c d,c.lt=t∧c.lm=lm∧lU d∧oK c t ops 0 d 0 0 [] rs' ev') λ(A',rs',a',B',ev',b')=>[eT W,oy A' rs' a',gQ B' ev' b']:=by
 intro w hs
 refine aU Tryz.func9 rfl hs (aC<|iK [.al,.al] [] (λb1 b2=>[(1,p_ b1),(2,p_ b2)]) (λb1 b2=>[aA b1 [i_ t,i_ lm,vS al ops cl] 26,aA b2 [e_,e_] 32]) ?_)
 intro b1 b2
 refine aC<|an 2 [.ld 1] [(13,.agg #[i_ t,i_ lm])]<|aG<|b0 (some 14) [] (Xn t lm ‹_› ‹_›) ?_
 rintro⟨sy3,c4,d5,bl6,r7,s8⟩ hz1
 refine aQ [(4,p_ sy3),(5,i_ 0)]<|aD<|aR<|aE [(17,b_ false)]<|bM<|aC<|bB [.ld 6] [(22,b_<|decide ((ops.length:Int)>1000))]<|aL rfl (λe2=>?_) (λe2=>?_)
 ·exact absurd e2<|by(intro h_;simp at h_;omega)
 have p2:=Zh e2
 refine aO<|aD ?_
 obtain⟨hct,hcm,hnS,hrl0⟩:=(by assumption:_∧_∧lU _∧_)
 obtain⟨I,cnt,hW,hI0,hc0⟩:=hLaw c4 d5 hct hcm hnS
 have hck0:d5.ck=0:=hnS.2.2.2.2.2.2.2.2.1
 refine aM<|dL [.al] [] (λb9=>[(6,p_ b9)]) (λb9=>aA b9 [e_,e_] 32) ?_
 intro b9
 refine bS<|bB [.ld 6] [(29,vS al ops cl),(30,c_ ops.length),(31,i_ 0)]<|aR<|gW 49 3 [aA sy3 [p_ c4.sb,p_ bl6,p_ r7.bt,p_ s8.bs,u_ 0,i_ 0] 114,eZ c4 d5,aA bl6 [u_ 0,u_ 0,u_ 0,i_ t,u_ 0] 146,fP s8 ([])<|[],gj r7,eT W,aA b1 [i_ t,i_ lm,vS al ops cl] 26,aA b2 [e_,e_] 32,aA b9 [e_,e_] 32,oy none ([]:List Rs) 0] rfl (gW 52 12 [aA sy3 [p_ c4.sb,p_ bl6,p_ r7.bt,p_ s8.bs,u_ 0,i_ 0] 114,eZ c4 d5,aA bl6 [u_ 0,u_ 0,u_ 0,i_ t,u_ 0] 146,fP s8 ([])<|[],gj r7,eT W,aA b1 [i_ t,i_ lm,vS al ops cl] 26,aA b2 [e_,e_] 32,aA b9 [e_,e_] 32,oy none ([]:List Rs) 0,gQ none ([]:List Ev) 0] rfl (iC (σ:=Nat×Int×Sd×Int×Int×Int×Int×(hV SL)×(hV SR)×Ru×(List Rs)×(k0)×Nat×(List Ev)×(k0)×Nat) [] (λ(k,clkk,dk,unk,j1,j2,j3,cvk,rvk,rk,rsk,Ar,ar,evk,Br,br)=>[(31,c_ k)]) [0,0,0,0,0,0,2,2,2] (λ(k,clkk,dk,unk,j1,j2,j3,cvk,rvk,rk,rsk,Ar,ar,evk,Br,br)=>[aA sy3 [p_ c4.sb,p_ bl6,p_ rk.bt,p_ s8.bs,u_ clkk,c_ k] 114,eZ c4 dk,aA bl6 [u_ j1,u_ j2,u_ j3,i_ t,u_ unk] 146,fP s8 cvk rvk,gj rk,eT W,aA b9 [vS Ar rsk ar,vS Br evk br] 32,oy Ar rsk ar,gQ Br evk br]) (λ(k,clkk,dk,unk,j1,j2,j3,cvk,rvk,rk,rsk,Ar,ar,evk,Br,br)=>(k≤ops.length)∧(I dk)∧(dk.ck≤clkk)∧(0≤clkk∧clkk≤4611686018427387904)∧(evk.length+cnt dk≤2*k)∧(rsk.length=k)∧(gi k cvk)∧(mD rk.rl)∧(k=0→dk.kc=[])∧(∀r2 e2,oK c4 t (ops.drop k) (k:Int) dk unk clkk rk.rl r2 e2→oK c4 t ops 0 d5 0 0 [] (rsk++r2) (evk++e2))) (λ(k,clkk,dk,unk,j1,j2,j3,cvk,rvk,rk,rsk,Ar,ar,evk,Br,br)=>ops.length-k) (0,0,d5,0,0,0,0,[],[],r7,([]:List Rs),none,0,([]:List Ev),none,0) ⟨(by omega),hI0,(by omega),(by omega),(by(simp;omega)),(by rfl),(by(intro k_;simp[aB,af])),(by(rw[hrl0];exact⟨by simp,by simp,by simp⟩)),(λ_=>hnS.1),(by(intro r2 e2 h;rw[hrl0] at h;exact h))⟩ ?_ ?_))
 ·exact cX [0,0,0,0,0,0,2,2,2,0,0]
 rintro⟨k,clkk,dk,unk,j1,j2,j3,cvk,rvk,rk,rsk,Ar,ar,evk,Br,br⟩ ⟨hk,hIk,hckk,hbk,hlk,hrk,hsk,hRk,hd0,hA⟩
 refine aE [(32,b_<|decide ((k:Int)<(ops.length:Int)))]<|aD<|aL rfl (λe3=>?_) (λe3=>?_)
 ·have p3:=Zg e3
  refine az<|aR<|aC<|jJ [.ix] [(33,.pointer<|some<|(au al).add (k*10))] (o1<|io (k:Int)<|dh oY (by decide) (uy (i:=5) rfl hoa)<|by omega) ?_
  obtain⟨x12,hx12⟩: ∃x,(ops)[k]? =some x:=⟨_,Ze<|by omega⟩
  refine jI [.rd [i_ x12.kd,vS x12.za x12.zl x12.zc,vS x12.ra x12.rl x12.rc,u_ x12.op.qi,i_ x12.op.qn,w_ x12.op.qa,w_ x12.op.qb,w_ x12.op.qc,w_ x12.op.qd,u_ x12.tk],.al,.st 11] [] (λb13=>[(8,p_ b13)]) (λb13=>[]) (λb13=>aA b13 [i_ x12.kd,vS x12.za x12.zl x12.zc,vS x12.ra x12.rl x12.rc,u_ x12.op.qi,i_ x12.op.qn,w_ x12.op.qa,w_ x12.op.qb,w_ x12.op.qc,w_ x12.op.qd,u_ x12.tk] 47) (λb13=>o1<|ro ((au al).add (k*10))<|dr (vs:=[i_ x12.kd,vS x12.za x12.zl x12.zc,vS x12.ra x12.rl x12.rc,u_ x12.op.qi,i_ x12.op.qn,w_ x12.op.qa,w_ x12.op.qb,w_ x12.op.qc,w_ x12.op.qd,u_ x12.tk]) oY (uy (i:=5) rfl hoa) hx12 (Nat.le_of_ble_eq_true rfl) rfl) ?_
  intro b13
  refine aC<|an 2 [.ld 11] [(36,p_ sy3),(37,.agg #[i_ x12.kd,vS x12.za x12.zl x12.zc,vS x12.ra x12.rl x12.rc,u_ x12.op.qi,i_ x12.op.qn,w_ x12.op.qa,w_ x12.op.qb,w_ x12.op.qc,w_ x12.op.qd,u_ x12.tk])]<|aG<|b0 (some 38) [0,0,0,0,0,0] (YY sy3 c4 dk bl6 j1 j2 j3 t unk rk s8 cvk rvk clkk (k:Int) W x12.kd x12.za x12.zl x12.zc x12.ra x12.rl x12.rc x12.op x12.tk k I cnt ((hops _<|Zd ‹_›).1) ((hops _<|Zd ‹_›).2.1) ((hops _<|Zd ‹_›).2.2.1) (YZ hNR hk1 hd0 ‹_›) ((hops _<|Zd ‹_›).2.2.2.1) ((hops _<|Zd ‹_›).2.2.2.2.1) ((hops _<|Zd ‹_›).2.2.2.2.2) (by omega) ‹_› ‹_› ‹_› ‹_› ‹_› ‹_› ‹_› (by omega) (by omega)) ?_
  rintro⟨x14,clk'15,d'16,un'17,q1'18,q2'19,q3'20,cv'21,rv'22,r'23,evs'24,A'25,c'26⟩ hz4
  refine dM [.al,.st 13] [] (λb28=>[(9,p_ b28),(10,vS A'25 evs'24 c'26)]) (λb28=>[]) (λb28=>aA b28 (jD x14) 49) ?_
  intro b28
  refine aD ?_
  have hdo:=Ll hW (hops _<|Zd ‹_›).2.2.1 (hops _<|Zd ‹_›).2.2.2.2.2 hIk hckk hbk (by assumption:_∧gi _ _∧mD _).1
  refine aM<|an 3 [.ld 7,.ld 13] [(42,vS Ar rsk ar),(43,.agg (jD x14).toArray)]<|aG<|eB 44 (e:=49) (jD x14) (by kernel_rfl) rfl (λ_=>by kernel_rfl) _ (λ_=>rfl) ?_
  intro b29
  refine aG<|iJ jD rsk ([x14]) 8 45 (.agg #[i_ 0,i_ 0,i_ 0]) 24 Po Pq (ef (i:=14) rfl) (by(simp;omega)) ?_
  intro A30 c30
  refine bL [.st 7] [] [(7,aA b9 [vS A30 (rsk++([x14])) c30,vS Br evk br] 32)]<|aM<|an 3 [.ld 7] [(2,p_ b2),(4,p_ sy3),(6,p_ b9),(29,vS al ops cl),(30,c_ ops.length),(31,c_ k),(48,vS Br evk br),(49,vS A'25 evs'24 c'26)]<|aG<|iJ gw evk evs'24 9 50 (.agg #[i_ 0,b_ false,b_ false,u_ 0,u_ 0,i_ 0,u_ 0,i_ 0,w_ 0,w_ 0,w_ 0,w_ 0]) 64 lK IL (bW (i:=6) rfl) (by omega) ?_
  intro A31 c31
  refine bL [.st 7] [] [(7,aA b9 [vS A30 (rsk++([x14])) c30,vS A31 (evk++evs'24) c31] 32)]<|aM<|aj [.w<|(k:Int)+1] [(31,i_<|(k:Int)+1)] (o1<|wj ((k:Int)+1)<|by omega)<|bN (k+1,clk'15,d'16,un'17,q1'18,q2'19,q3'20,cv'21,rv'22,r'23,rsk++([x14]),A30,c30,evk++evs'24,A31,c31) ⟨(by omega),hdo.1,hdo.2.1,hdo.2.2.1,(by(have h_:=hdo.2.2.2;simp;omega)),(by(simp;omega)),((by assumption:_∧gi _ _∧mD _).2.1),((by assumption:_∧gi _ _∧mD _).2.2),(λh_=>absurd h_<|by omega),(by(intro r2 e2 h;rw[List.append_assoc,List.append_assoc];exact hA _ _<|RD ‹_› (by assumption:_∧gi _ _∧mD _).1 (by simpa using h)))⟩ (by(show ops.length-(k+1)<ops.length-k;omega)) ?_
  exact cX [0,0,0,0,0,0,1,1,1,1,1]
 have p3:=Zh e3
 refine bg<|aC<|bL [.ld 6,.st 10] [(3,i_ 0)] [(10,aA b2 [vS Ar rsk ar,vS Br evk br] 32)]<|aF<|cP [5,6,6] [.agg #[vS Ar rsk ar,vS Br evk br],i_ 0] (λ_ w r s=>⟨dS 10 r s,cw r rfl,trivial⟩) (Ar,rsk,ar,Br,evk,br) ?_ ?_<|by kernel_rfl
 ·rfl
 exact⟨_,_,hct,hcm,hnS,by have h_:=hA [] [] (by rw[List.drop_eq_nil_of_le<|by omega];exact⟨rfl,rfl⟩);simpa using h_⟩
variable{i:Int}
theorem Jw{β:Type}{c:β}: ∀{kv:List (Int×β)},(kv.map (·.1)).Nodup→(i,c)∈kv→aB kv i=some c
 |[],_,h=>by cases h
 |p::kv,hn,h=>by
  obtain⟨h1,h2⟩:=List.nodup_cons.1 hn
  unfold aB
  rcases List.mem_cons.1 h with rfl|h
  ·rw[if_pos rfl]
  ·rw[if_neg λe=>h1 (by show p.1∈_;rw[e];exact List.mem_map_of_mem (f:=(·.1)) h)];exact Jw h2 h
theorem zO(hn:(kc.map (·.1)).Nodup){f:Cl→Bool}(h:i∈aV kc f): ∃c,aB kc i=some c∧f c=true:=by
 unfold aV gb at h;rw[(List.mergeSort_perm _ _).mem_iff,List.mem_map] at h
 obtain⟨⟨j,c⟩,h1,h2⟩:=h
 obtain⟨h3,h4⟩:=List.mem_filter.1 h1
 dsimp only at h2;subst h2
 exact⟨c,Jw hn h3,h4⟩
variable{kb:hV En}
theorem NQ:qE kb i=false↔qk kb i≠[]:=by
 unfold qE qk;cases aB kb i with
 |none=>simp
 |some m=>simp
theorem F6(hn:(kc.map (·.1)).Nodup):i∈eY kc kb↔(∃c,aB kc i=some c∧c.hl=true)∧qk kb i≠[]:=by
 unfold eY wC;rw[List.mem_filter];constructor
 ·rintro⟨h1,h2⟩;exact⟨zO hn h1,NQ.1<|by simpa using h2⟩
 ·rintro⟨⟨c,h1,h2⟩,h3⟩;exact⟨tM h1 h2,by simpa using NQ.2 h3⟩
theorem Xp(hn:(kc.map (·.1)).Nodup):(eY kc kb).Nodup:=by
 unfold eY wC aV gb
 refine List.Nodup.sublist List.filter_sublist<|(List.mergeSort_perm _ _).nodup_iff.2 ?_
 exact List.Nodup.sublist (List.filter_sublist.map _) hn
def yM(kc:List (Int×Cl))(i:Int)(kb:List (Int×En))(kk:List (Int×Vt)):Prop:=
 (fN kc i≠0∧aB kb i=none)∨(fN kc i=0∧ ∃m,FT (aK kc i) m∧aB kb i=some m∧((aK kc i).hl=false→ ∃v,v.kv=[]∧v.t=T.nil∧aB kk i=some v))
variable{kb':hV En}{kk:hV Vt}
theorem TR{j:Int}{kk':hV Vt}(hn:(kb.map (·.1)).Nodup)(hm:(kk.map (·.1)).Nodup)(h:Ba kc j kb kk kb' kk'):
  (kb'.map (·.1)).Nodup∧(kk'.map (·.1)).Nodup∧(∀i,i≠j→aB kb' i=aB kb i∧aB kk' i=aB kk i)∧yM kc j kb' kk':=by
 rcases h with⟨h1,rfl,rfl⟩|⟨h1,m,h2,rfl,⟨h3,rfl⟩|⟨h3,v,h4,h5,rfl⟩⟩
 ·exact⟨lX hn _,lX hm _,λi hi=>by rw[gP hn,gP hm,if_neg<|λe=>hi e.symm,if_neg<|λe=>hi e.symm];exact⟨rfl,rfl⟩,.inl ⟨h1,by rw[gP hn,if_pos rfl]⟩⟩
 ·exact⟨mn (lX hn _) _ _,lX hm _,λi hi=>by rw[ed,gP hn,gP hm,if_neg<|λe=>hi e.symm,if_neg<|λe=>hi e.symm,if_neg<|λe=>hi e.symm];exact⟨rfl,rfl⟩,.inr ⟨h1,m,h2,ie _ _ _,λe=>by rw[h3] at e;cases e⟩⟩
 ·exact⟨mn (lX hn _) _ _,mn (lX hm _) _ _,λi hi=>by rw[ed,gP hn,ed,gP hm,if_neg<|λe=>hi e.symm,if_neg<|λe=>hi e.symm,if_neg<|λe=>hi e.symm,if_neg<|λe=>hi e.symm];exact⟨rfl,rfl⟩,.inr ⟨h1,m,h2,ie _ _ _,λ_=>⟨v,h4,h5,ie _ _ _⟩⟩⟩
theorem AD: ∀{l:Wx}{kb kb':hV En}{kk kk':hV Vt},(kb.map (·.1)).Nodup→(kk.map (·.1)).Nodup→rH kc l kb kk kb' kk'→ ∀i,(i∉l→aB kb' i=aB kb i∧aB kk' i=aB kk i)∧(i∈l∨yM kc i kb kk→yM kc i kb' kk')
 |[],kb,kb',kk,kk',hn,hm,⟨h1,h2⟩,i=>by subst h1 h2;exact⟨λ_=>⟨rfl,rfl⟩,λh=>h.resolve_left<|by simp⟩
 |j::l,kb,kb',kk,kk',hn,hm,⟨kb1,kk1,hs,h⟩,i=>by
  obtain⟨a1,a2,a3,a4⟩:=TR hn hm hs
  obtain⟨b1,b2⟩:=AD a1 a2 h i
  refine⟨λhi=>?_,λhi=>b2 ?_⟩
  ·obtain⟨c1,c2⟩:=b1 λh=>hi<|List.mem_cons_of_mem _ h
   obtain⟨d1,d2⟩:=a3 i λe=>hi<|e▸List.mem_cons_self ..
   exact⟨c1.trans d1,c2.trans d2⟩
  ·by_cases e:i=j
   ·subst e;exact .inr a4
   ·rcases hi with hi|hi
    ·exact .inl<|(List.mem_cons.1 hi).resolve_left e
    ·right
     obtain⟨d1,d2⟩:=a3 i e
     unfold yM at hi⊢;rw[d1,d2];exact hi
theorem Xq(h:yM kc i kb kk):qk kb i=[]:=by
 rcases h with⟨-,h⟩|⟨-,m,h1,h2,-⟩
 ·unfold qk;rw[h];rfl
 ·rw[kj h2]
  obtain⟨e1,-,-,-,-,-,e2,e3⟩:=h1
  cases hl:(aK kc i).hl with
  |true=>exact(e2 hl).2.1
  |false=>exact List.eq_nil_of_length_eq_zero (by rw[nl];exact(by rw[e3 hl];rfl))
theorem Jx{kw:hV Cl}(hL:cB kc)(hW:cB kw): ∀(n:Nat)(i:Int),dep kc i≤n→(i=0∨aB kc i≠none)→(∀q∈bE kc i,aB kc q=aB kw q)→bE kw i=bE kc i
 |n,i,hn,hi,h=>by
  cases e:aB kc i with
  |none=>
   have h0:=hi.resolve_right λh=>h e
   subst h0;rw[lL<|lO hL,lL<|lO hW]
  |some c=>
   have hu:=i6 hL e
   cases n with
   |zero=>rw[iM hL e] at hn;omega
   |succ n=>
    rw[iM hL e] at hn
    have e2:aB kw i=some c:=by rw[←h i (by rw[hu];exact List.mem_cons_self ..)];exact e
    rw[hu,i6 hW e2,Jx hL hW n c.hp (by omega) ?_ λq hq=>h q (by rw[hu];exact List.mem_cons_of_mem _ hq)]
    rcases hL.par i c e with h1|⟨p,h1,-⟩
    ·exact .inl h1
    ·exact .inr (by rw[h1];simp)
theorem F7(hL:cB kc): ∀{l:Wx}{on on':hV Int}{ka ka':hV MB}{A:Int→Prop},AO kc on ka A→uU (eu kc) l on ka on' ka'→l.Nodup→(∀i∈l,(aK kc i).hl=true∧i∉on.map (·.1))→
  ∃A',AO kc on' ka' A'∧ ∀i,i∈on'.map (·.1)↔i∈on.map (·.1)∨(i∈l∧eA kc i=true)
 |[],on,on',ka,ka',A,hA,⟨h1,h2⟩,_,_=>by subst h1 h2;exact⟨A,hA,λi=>by simp⟩
 |j::l,on,on',ka,ka',A,hA,⟨on1,ka1,l1,e1,hO,h⟩,hn,hl=>by
  obtain⟨n1,n2⟩:=List.nodup_cons.1 hn
  obtain⟨l1,l2⟩:=hl j<|List.mem_cons_self ..
  have hno: ¬A j:=λh=>l2<|vT hL hA.ast h l1
  by_cases hs:eA kc j=true
  ·obtain⟨A1,a1,-,a3,-⟩:=GP hL hA hO hs l1 hno
   obtain⟨A',b1,b2⟩:=F7 hL a1 h n2 λi hi=>⟨(hl i<|List.mem_cons_of_mem _ hi).1,λh=>by
    rcases(a3 i).1 h with e|e
    ·exact n1<|e▸hi
    ·exact(hl i<|List.mem_cons_of_mem _ hi).2 e⟩
   refine⟨A',b1,λi=>?_⟩
   rw[b2,a3,List.mem_cons];constructor
   ·rintro((rfl|h)|h)
    ·exact .inr ⟨.inl rfl,hs⟩
    ·exact .inl h
    ·exact .inr ⟨.inr h.1,h.2⟩
   ·rintro(h|⟨rfl|h,h2⟩)
    ·exact .inl<|.inr h
    ·exact .inl<|.inl rfl
    ·exact .inr ⟨h,h2⟩
  ·rcases hO with⟨h1,-⟩|⟨-,-,-,h1,h2⟩
   ·rw[xQ,Bool.and_eq_true] at h1;exact absurd h1.1 hs
   ·subst h1 h2
    obtain⟨A',b1,b2⟩:=F7 hL hA h n2 λi hi=>hl i<|List.mem_cons_of_mem _ hi
    refine⟨A',b1,λi=>?_⟩
    rw[b2,List.mem_cons];constructor
    ·rintro(h|h)
     ·exact .inl h
     ·exact .inr ⟨.inr h.1,h.2⟩
    ·rintro(h|⟨rfl|h,h2⟩)
     ·exact .inl h
     ·exact absurd h2 hs
     ·exact .inr ⟨h,h2⟩
theorem Lm:AO kc [] [] (λ_=>False):=by
 refine⟨⟨λi h=>h.elim,λi h=>h.elim,λi h=>h.elim,λi h=>(by cases h),λi h=>(by cases h)⟩,λp=>?_,by simp⟩
 simp[kx,aB,m0]
theorem WA{c:Cl}(h:aB kc i=some c):fN kc i=0:=by unfold fN;rw[h];rfl
variable{er:Int}
theorem F8{idle:Bool}{pl:Int}(h:Iv c d)(hz: ∀z∈l,iQ z)(ht:uz c d idle l pl er d'):Iv c d'∧ ∀i,qk d'.kb i=qk d.kb i:=by
 obtain⟨het,hek,hck,hac,hR,hnd⟩:=ht
 obtain⟨bt',mc',kc',kb',a',on',ka',et',ek',kk',ck',ac'⟩:=d'
 dsimp only at het hek hck hac hR⊢
 subst het hek hck hac
 rcases hR with⟨-,-,rfl,rfl,rfl,rfl,rfl,rfl,rfl,rfl,-⟩|⟨-,⟨-,hbz,-⟩,hkc,hC,hy,hO,-⟩
 ·exact⟨⟨h.lt1,h.lm1,h.laid,h.aok,h.by_,hnd,h.ym,h.ac,h.onk,h.el,h.ekk,h.pk,h.rg,h.qv⟩,λ_=>rfl⟩
 ·rw[←hkc] at hbz
  have hL:=h.laid
  have hW:cB kc':=hkc▸EL hL
  have hAw:oP kc':=hkc▸LD h.aok hL hz
  have hB':=L2 h.by_ h.nd.1 hC
  have hg:=λi=>AD h.nd.1 h.nd.2.1 hC i
  rw[hy] at hO
  have hbusy: ∀i∈dE d.kc kc',∀lf,qk d.kb lf≠[]→i∉bE d.kc lf:=λi hi lf hlf hup=>by
   obtain⟨m,-,h2,h3,-⟩:=nu h.by_ hlf
   have:qK d.kc d.kb i=true:=by
    unfold qK;rw[List.any_eq_true]
    exact⟨lf,(F6 hL.nd).2 ⟨⟨_,h2,h3⟩,hlf⟩,by rw[List.contains_iff_mem];exact hup⟩
   have h4:(dE d.kc kc').any (qK d.kc d.kb)=true:=List.any_eq_true.2 ⟨i,hi,this⟩
   rw[hbz] at h4;cases h4
  have hself: ∀lf,qk d.kb lf≠[]→lf∈bE d.kc lf:=λlf hlf=>by
   obtain⟨m,-,h2,-⟩:=nu h.by_ hlf
   rw[i6 hL h2];exact List.mem_cons_self ..
  have hqk: ∀i,qk kb' i=qk d.kb i:=λi=>by
   by_cases e:i∈dE d.kc kc'
   ·rw[Xq<|(hg i).2 (.inl e)]
    exact(Classical.byContradiction λhne=>hbusy i e i (λh=>hne h.symm)<|hself i λh=>hne h.symm)
   ·unfold qk;rw[((hg i).1 e).1]
  have hsame: ∀lf,qk d.kb lf≠[]→ ∀q∈bE d.kc lf,q∉dE d.kc kc':=λlf hlf q hq ht=>hbusy q ht lf hlf hq
  have hup: ∀lf,qk d.kb lf≠[]→bE kc' lf=bE d.kc lf:=λlf hlf=>by
   obtain⟨m,-,h2,-⟩:=nu h.by_ hlf
   exact Jx hL hW _ lf (Nat.le_refl _) (.inr (by rw[h2];simp)) λq hq=>zv<|hsame lf hlf q hq
  have hcl: ∀q,q∉dE d.kc kc'→aK kc' q=aK d.kc q:=λq hq=>by unfold aK;rw[zv hq]
  have hlsame: ∀lf,qk d.kb lf≠[]→aK kc' lf=aK d.kc lf:=λlf hlf=>hcl lf<|hsame lf hlf lf<|hself lf hlf
  obtain⟨A,hA,hK⟩:=h.ac
  obtain⟨A',hA',hon⟩:=F7 hW (Lm (kc:=kc')) hO (Xp hW.nd) λi hi=>by
   obtain⟨⟨c,h1,h2⟩,-⟩:=(F6 hW.nd).1 hi
   exact⟨by rw[fL h1];exact h2,by simp⟩
  have honk: ∀i,i∈on'.map (·.1)↔eA kc' i=true∧(aK kc' i).hl=true∧qk kb' i≠[]:=λi=>by
   rw[hon,F6 hW.nd];simp only[List.map_nil,List.not_mem_nil,false_or]
   constructor
   ·rintro⟨⟨⟨c,h1,h2⟩,h3⟩,h4⟩;exact⟨h4,by rw[fL h1];exact h2,h3⟩
   ·rintro⟨h1,h2,h3⟩;obtain⟨c,h4,h5⟩:=kR h1;exact⟨⟨⟨c,h4,by rw[←h5];exact h2⟩,h3⟩,h1⟩
  have hkeys: ∀i,i∈on'.map (·.1)↔i∈d.on.map (·.1):=λi=>by
   rw[honk,h.onk,hqk]
   by_cases e:qk d.kb i=[]
   ·simp[e]
   ·have:=hlsame i e
    unfold eA;rw[this]
  have hAA: ∀q,A' q↔A q:=λq=>by
   rw[pS hW hA'.ast,pS hL hA.ast]
   constructor
   ·rintro⟨m,h1,h2⟩
    have h3:=(hkeys m).1 h1
    exact⟨m,h3,by rw[←hup m ((h.onk m).1 h3).2.2];exact h2⟩
   ·rintro⟨m,h1,h2⟩
    exact⟨m,(hkeys m).2 h1,by rw[hup m ((h.onk m).1 h1).2.2];exact h2⟩
  have hAeq:A'=A:=funext λq=>propext<|hAA q
  subst hAeq
  have hAt: ∀q,A' q→q∉dE d.kc kc'∧((aK d.kc q).hp∉dE d.kc kc'):=λq hq=>by
   obtain⟨m,h1,h2⟩:=(pS hL hA.ast q).1 hq
   have hm:=((h.onk m).1 h1).2.2
   refine⟨hsame m hm q h2,λht=>?_⟩
   rcases Az hL _ m q (Nat.le_refl _) h2 with h3|h3
   ·exact hsame m hm _ h3 ht
   ·rw[h3] at ht
    have:=((xP d.kc kc').2 0).1 ht
    unfold kr at this;rw[lO hL,lO hW] at this;simp at this
  have hfit: ∀i,i∉dE d.kc kc'→oI kk' i=oI d.kk i:=λi hi=>by unfold oI;rw[((hg i).1 hi).2]
  have hK':KT kc' A' kk' (λq=>q=0):=λp hp=>by
   by_cases e:p∈dE d.kc kc'
   ·rcases hp with rfl|⟨cp,hp,hl⟩
    ·have:=((xP d.kc kc').2 0).1 e
     unfold kr at this;rw[lO hL,lO hW] at this;simp at this
    ·rcases(hg p).2 (.inl e) with⟨h1,-⟩|⟨-,m,-,-,h4⟩
     ·exact absurd (WA hp) h1
     ·obtain⟨v,h5,h6,h7⟩:=h4 (by rw[fL hp];exact hl)
      refine⟨v,h7,by rw[h5,h6];exact D3,λi=>?_,λi y hy=>(by rw[h5] at hy;cases hy),λi y hy=>(by rw[h5] at hy;cases hy)⟩
      rw[h5];refine⟨λh8=>absurd rfl h8,λ⟨h8,h9⟩=>?_⟩
      obtain⟨a1,a2⟩:=hAt i h8
      rw[hcl i a1] at h9;rw[h9] at a2;exact absurd e a2
   ·have hpi:kZ d.kc p:=by
     rcases hp with hp|⟨cp,hp,hl⟩
     ·exact .inl hp
     ·exact .inr ⟨cp,by rw[zv e];exact hp,hl⟩
    obtain⟨v,h1,h2⟩:=hK p hpi
    refine⟨v,by rw[((hg p).1 e).2];exact h1,h2.er,λi=>?_,h2.rng,λi y hy hl hn=>?_⟩
    ·rw[h2.key];constructor
     ·rintro⟨a,b⟩;exact⟨a,by rw[hcl i (hAt i a).1];exact b⟩
     ·rintro⟨a,b⟩;exact⟨a,by rw[←hcl i (hAt i a).1];exact b⟩
    ·have ha:=((h2.key i).1 (by rw[hy];simp)).1
     rw[hfit i (hAt i ha).1]
     exact h2.fit i y hy (by rw[←hcl i (hAt i ha).1];exact hl) hn
  have hrg:RG kb':=λi m hm=>by
   by_cases e:i∈dE d.kc kc'
   ·rcases(hg i).2 (.inl e) with⟨-,h1⟩|⟨-,m',h1,h2,-⟩
    ·rw[h1] at hm;cases hm
    ·rw[h2] at hm;cases hm
     obtain⟨-,-,-,-,h3,-⟩:=h1
     rw[h3];exact Nq
   ·rw[((hg i).1 e).1] at hm;exact h.rg i m hm
  have hqv:QV kb':=λi m hm hl=>by
   by_cases e:i∈dE d.kc kc'
   ·rcases(hg i).2 (.inl e) with⟨-,h1⟩|⟨-,m',h1,h2,-⟩
    ·rw[h1] at hm;cases hm
    ·rw[h2] at hm;cases hm
     obtain⟨h3,-,-,-,-,-,h4,-⟩:=h1
     obtain⟨-,h5,h6,h7,h8⟩:=h4 (by rw[←h3];exact hl)
     exact⟨by rw[h6,h3],by rw[h8,h3],by rw[h7,h5];rfl⟩
   ·rw[((hg i).1 e).1] at hm;exact h.qv i m hm hl
  refine⟨⟨h.lt1,h.lm1,hW,hAw,hB',hnd,hy,⟨A',hA',hK'⟩,honk,h.el,λi hi=>?_,λi p hp=>?_,hrg,hqv⟩,hqk⟩
  ·obtain⟨h1,h2⟩:=h.ekk i hi
   show qk kb' i≠[]∧ib (aK kc' i)=true
   rw[hqk,hlsame i h1];exact⟨h1,h2⟩
  ·exact h.pk i p (by rw[←hqk];exact hp)
theorem BD(h1:1≤c.lt∧c.lt≤65536)(h2:1≤c.lm∧c.lm≤16384)(h:lU d):Iv c d:=by
 obtain⟨bt,mc,kc,kb,a,on,ka,et,ek,kk,ck,ac⟩:=d
 obtain⟨e1,e2,e3,e4,e5,e6,e7,⟨v,e8,e9,e10⟩,-,-⟩:=h
 dsimp only at e1 e2 e3 e4 e5 e6 e7 e8
 subst e1 e2 e4 e5 e6 e7 e8
 refine⟨h1,h2,I5,⟨[],Um⟩,λi=>⟨rfl,λm hm=>(by cases hm)⟩,⟨by simp,by simp,by simp⟩,e3,⟨_,Lm,λp hp=>?_⟩,λi=>by simp[qk,aB],D3,λi hi=>absurd rfl hi,λi p hp=>(by cases hp),λi m hm=>(by cases hm),λi m hm=>(by cases hm)⟩
 rcases hp with rfl|⟨cp,hp,-⟩
 ·refine⟨v,by simp[aB],by rw[e9,e10];exact D3,λi=>by rw[e9];simp[aB],λi y hy=>(by rw[e9] at hy;cases hy),λi y hy=>(by rw[e9] at hy;cases hy)⟩
 ·cases hp
def lA(d:Sd):Nat:=((d.kc.map (·.1)).map λi=>(qk d.kb i).length).sum
theorem Jy:pd c (Iv c) lA where
 pre d h:=Ax h
 take d now z ok d' h _ ht:=by
  obtain⟨h1,h2,h3,-⟩:=vA h ht
  have hkc:d'.kc=d.kc:=ht.1.2.2.1
  refine⟨h1,?_⟩
  unfold lA;rw[hkc]
  cases ok with
  |false=>
   have:(λi=>(qk d'.kb i).length)=λi=>(qk d.kb i).length:=funext λi=>by rw[h2 i];simp
   rw[this];exact⟨Nat.le_refl _,λe=>by cases e⟩
  |true=>
   obtain⟨m,-,h4,-⟩:=nu h.by_<|h3 rfl
   have:=zw (f:=λi=>(qk d.kb i).length) (g:=λi=>(qk d'.kb i).length) (i:=z.gq1) (λj hj=>by
    rw[h2 j];simp[show¬z.gq1=j from λe=>hj e.symm]) h.laid.nd<|mO.1 (by rw[h4];simp)
   have h5:=congrArg List.length<|h2 z.gq1;simp at h5
   omega
 put d now ci p er d' h _ ht:=by
  obtain⟨h1,h2,h3,-⟩:=vU h ht
  have hkc:d'.kc=d.kc:=ht.1.2.2.1
  refine⟨h1,?_⟩
  unfold lA;rw[hkc]
  by_cases e:er=0
  ·have:=zw (f:=λi=>(qk d.kb i).length) (g:=λi=>(qk d'.kb i).length) (i:=ci) (λj hj=>by
    rw[h2 j];simp[show¬ci=j from λe=>hj e.symm]) h.laid.nd<|h3 e
   have h5:=congrArg List.length<|h2 ci;simp[e] at h5
   omega
  ·have:(λi=>(qk d'.kb i).length)=λi=>(qk d.kb i).length:=funext λi=>by rw[h2 i];simp[e]
   rw[this];omega
 chg d idle l pl er d' h hz ht:=by
  obtain⟨h1,h2⟩:=F8 h hz ht
  refine⟨h1,?_⟩
  unfold lA
  have:(λi=>(qk d'.kb i).length)=λi=>(qk d.kb i).length:=funext λi=>by rw[h2 i]
  rw[this]
  refine zx h1.laid.nd λi _ hi=>?_
  obtain⟨m,-,h4,-⟩:=nu h.by_ (i:=i) λe=>hi (by rw[e];rfl)
  exact mO.1 (by rw[h4];simp)
 go d now z ok d' h hd hn ht:=NP h hd hn ht
theorem Jz(h:lU d):lA d=0:=by unfold lA;rw[h.1];rfl
theorem Lo(hL:cB kc): ∀(n:Nat)(i:Int),dep kc i≤n→aB kc i≠none→ ∃r∈bE kc i,(aK kc r).hp=0
 |n,i,hn,hi=>by
  cases e:aB kc i with
  |none=>exact absurd e hi
  |some c=>
   have hd:=iM hL e
   cases n with
   |zero=>omega
   |succ n=>
    rw[i6 hL e]
    rcases hL.par i c e with h1|⟨p,h1,-⟩
    ·exact⟨i,List.mem_cons_self ..,by rw[fL e];exact h1⟩
    ·obtain⟨r,h2,h3⟩:=Lo hL n c.hp (by omega) (by rw[h1];simp)
     exact⟨r,List.mem_cons_of_mem _ h2,h3⟩
theorem NR(h:Iv c d)(hz:gf d.kb∧ZK d.kc d.kk)(hs:eA d.kc i=true)(hl:(aK d.kc i).hl=true)(hq:qk d.kb i≠[]):lT d.et d.kk≤0:=by
 obtain⟨A,hA,hK⟩:=h.ac
 have hi:=hA.ast.ons i<|(h.onk i).2 ⟨hs,hl,hq⟩
 obtain⟨r,h1,h2⟩:=Lo h.laid _ i (Nat.le_refl _)<|xu hs
 have hr:=ui h.laid hA.ast _ i (Nat.le_refl _) hi r h1
 obtain⟨v,h3,h4⟩:=hK 0<|.inl rfl
 have h5:=(h4.key r).2 ⟨hr,h2⟩
 have h6:im v.t.toL=0:=by
  refine La (λy hy=>h4.rng _ y<|rZ h4.er hy) (λy hy=>hz.2 0 v (.inl rfl) h3 _ y<|rZ h4.er hy) λh=>?_
  have:=h4.er.len;rw[h] at this
  have:=List.eq_nil_of_length_eq_zero this.symm
  rw[this] at h5;exact h5 rfl
 unfold lT;rw[h3];simp only[Option.map_some,Option.getD_some];rw[h6]
 unfold cF;split<;>omega
variable{now ci:Int}
theorem Xr{p:Pk}{cl:Cl}(h:Iv c d)(hc:aB d.kc ci=some cl)(hl:cl.hl=true)(h1:1≤p.qn∧p.qn≤c.lm)(h2:IntKind.u64.wrap (d.ac+IntKind.u64.wrap p.qn)≤1099511627776)(h3:oJ (qk d.kb ci)+p.qn≤cl.hq)(h4:((qk d.kb ci).length:Int)<cl.hk)
  (ht:oH c d now ci p er d'):er=0∧d'.ac=IntKind.u64.wrap (d.ac+IntKind.u64.wrap p.qn)∧d'.kc=d.kc:=by
 obtain⟨⟨-,-,hkc,-⟩,-,⟨-,hn,-⟩|⟨h5,h6,-⟩⟩:=ht
 rotate_left
 ·exact⟨h5,h6,hkc⟩
 exfalso
 obtain⟨m,hm,he,ho⟩:=oe h.by_ hc
 have hq:=h.qv ci m hm (by rw[he];exact hl)
 rw[kj hm] at h3 h4
 obtain⟨b,hb⟩:=Option.isSome_iff_exists.1<|ho.lf.1 (by rw[he];exact hl)
 have hk:=ho.qu (by rw[hb];rfl)
 have hr:=zM (l:=qC m.q) (by rw[←kj hm];exact h.pk ci)
 have hn2:(qC m.q).length≤64:=by rw[nl];unfold mE at hk;omega
 have hlm:=h.lm1
 refine hn m ⟨hm,by rw[he];exact hl,h1.1,h1.2,h2,?_,?_⟩
 ·rw[hq.1,hq.2.2,he]
  have hh:cl.hq≤1048576:=by
   have:=(h.laid.key ci cl hc).2;unfold fK at this;rw[if_pos hl] at this;grind
  rw[EW (by constructor<;>omega)];omega
 ·have:=hq.2.1;rw[he] at this;rw[nl] at h4;omega
def zA:Zc:=⟨1,1,0,true,0,0,0,65536,0,65536,0,0,0,3,300⟩
def rA:Rl:=⟨0,0,0,0,0,0,0,0,1⟩
def pA:Pk:=⟨7,100,0,0,0,0⟩
def cA:Cl:=⟨1,0,true,0,0,0,65536,0,65536,0,0,0,3,300⟩
theorem Ye:bQ [] [zA]=[(1,cA)]:=by kernel_rfl
theorem Yf:iH [] 1 [zA]=0:=by kernel_rfl
theorem Yg:mD [rA]:=⟨by decide,by decide,by simp[kq,rA]⟩
theorem Nr:fB [rA] (fc pA)=1:=by kernel_rfl
structure wG(c:Ss)(d:Sd)(l:List Pk)(ac:Int):Prop where
 iv:Iv c d
 kc:d.kc=[(1,cA)]
 z:gf d.kb∧ZK d.kc d.kk
 q:qk d.kb 1=l
 ac:d.ac=ac
theorem G6(h:kc=[(1,cA)]){x:Cl}(hx:aB kc i=some x):i=1∧x=cA:=by
 subst h;simp only[aB] at hx;split at hx
 ·rename_i e;cases hx;exact⟨e.symm,rfl⟩
 ·cases hx
theorem WB{pl:Int}(h1:c.lt=1)(h2:c.lm=100)(hn:lU d)(ht:uz c d true [zA] pl er d'):wG c d' [] 0:=by
 have hz: ∀z∈[zA],iQ z:=by simp[iQ,zA]
 have hI:=BD (c:=c) (by rw[h1];decide) (by rw[h2];decide) hn
 obtain⟨k1,k2⟩:=F8 hI hz ht
 obtain⟨e1,e2,-,-,-,-,-,⟨v,e8,e9,-⟩,-,e11⟩:=hn
 obtain⟨-,-,-,hac,hR,-⟩:=ht
 rw[e1,e2,e8,h1] at hR
 have hld:eY [] d.kb=[]:=by unfold eY wC aV gb;simp
 have hok:yC [] 1 true [] [zA]:=by
  refine⟨Yf,?_,.inr ⟨rfl,by rw[←e2];exact hld⟩⟩
  rw[List.any_eq_false];intro x _;unfold qK;rw[←e2,hld];simp
 rcases hR with⟨-,h,-⟩|⟨-,-,hkc,hC,-⟩
 ·exact absurd hok h
 rw[Ye] at hkc;rw[hkc] at hC
 have hg:=λi=>AD (kb:=([]:hV En)) (kk:=[((0:Int),v)]) (by simp) (by simp) hC i
 refine⟨k1,hkc,⟨λi m hm=>?_,λp w hp hw i y hy=>?_⟩,by rw[k2];unfold qk;rw[e2];rfl,by rw[hac,e11]⟩
 ·obtain⟨q1,q2⟩:=G6 hkc<|jP k1.by_ hm
  refine⟨by rw[q2];decide,?_⟩
  by_cases e:i∈dE [] [(1,cA)]
  ·rcases(hg i).2 (.inl e) with⟨-,h1⟩|⟨-,m',h1,h2,-⟩
   ·rw[h1] at hm;cases hm
   ·rw[h2] at hm;cases hm
    exact h1.2.2.2.2.2.1
  ·rw[((hg i).1 e).1] at hm;cases hm
 ·exfalso
  rcases hp with rfl|⟨x,hx,hl⟩
  ·have e:(0:Int)∉dE [] [(1,cA)]:=λe=>by
    have:=((xP [] [(1,cA)]).2 0).1 e
    unfold kr at this;simp[aB] at this
   rw[((hg 0).1 e).2] at hw
   simp only[aB,if_pos] at hw;cases hw
   rw[e9] at hy;cases hy
  ·have:=(G6 hkc hx).2;rw[this] at hl;cases hl
theorem Lp{ac:Int}(h2:c.lm=100)(hn:0≤ac∧ac≤100)(h:wG c d [] ac)(ht:oH c d now 1 pA er d'):er=0∧wG c d' [pA] (ac+100):=by
 have hm:aB d.kc 1=some cA:=by rw[h.kc];rfl
 have hw:IntKind.u64.wrap (d.ac+IntKind.u64.wrap pA.qn)=ac+100:=by
  rw[h.ac,show IntKind.u64.wrap pA.qn=100 from rfl];exact wrap_u64 (by constructor<;>omega)
 obtain⟨rfl,h4,h5⟩:=Xr h.iv hm rfl (by rw[h2];decide) (by rw[hw];omega) (by rw[h.q];decide) (by rw[h.q];decide) ht
 obtain⟨k1,k2,-,k4⟩:=vU h.iv ht
 exact⟨rfl,k1,h5.trans h.kc,k4 h.z,by rw[k2,h.q];simp,by rw[h4,hw]⟩
variable{ok:Bool}
theorem KA{ac:Int}{z:Pd}(h0:0≤now∧now≤4611686018427387904)(h:wG c d [pA] ac)(ht:oh d now z ok d'):ok=true∧z.gq3=100∧wG c d' [] ac:=by
 have hq:qk d.kb 1≠[]:=by rw[h.q];simp
 have hd:=NR h.iv h.z (i:=1) (by rw[h.kc];decide) (by rw[h.kc];decide) hq
 have hok:=NP h.iv (by omega) h0.2 ht
 subst hok
 obtain⟨k1,k2,k3,k4⟩:=vA h.iv ht
 obtain⟨m,-,h2,-⟩:=nu h.iv.by_<|k3 rfl
 obtain⟨e,-⟩:=G6 h.kc h2
 have h5:=k2 1
 rw[h.q,e] at h5;simp at h5
 obtain⟨h6,h7⟩:=h5
 refine⟨rfl,?_,k1,ht.1.2.2.1.trans h.kc,k4 h.z,h7,ht.2.2.1.trans h.ac⟩
 have:=congrArg Pk.qn h6;exact this.symm
theorem WC(h:wG c d [pA] 200)(ha:ow 1 4 150 0 d 100 [] d' un' evs): ∃e,evs=[e]∧e.vq4=100∧e.vq5=200:=by
 have hq:qk d.kb 1≠[]:=by rw[h.q];simp
 have hd:=NR h.iv h.z (i:=1) (by rw[h.kc];decide) (by rw[h.kc];decide) hq
 have hx:jH 0 100 d=100:=by unfold jH po s5 cF;grind
 cases ha with
 |stop h1=>rw[hx] at h1;omega
 |step h1 hp ha=>
  rw[hx] at hp ha
  rcases hp with⟨h2,-⟩|⟨-,z,ok,ht,hp⟩
  ·omega
  obtain⟨rfl,h3,h4⟩:=KA (by decide) h ht
  rcases hp with⟨h5,-⟩|⟨-,rfl,rfl⟩
  ·cases h5
  rw[h3] at ha
  cases ha with
  |stop h6=>exact⟨_,rfl,rfl,by show 100+z.gq3*1=200;rw[h3];rfl⟩
  |step h6 hp ha=>exfalso;have:=(xU h6<|by decide).2.1;omega
theorem RE{ev:List Ev}{o1 o2 o3 o4 o5:ew}(h1:o1.kd=1∧o1.zl=[zA])(h2:o2.kd=2∧o2.rl=[rA])(h3:o3.kd=3∧o3.op=pA)(h4:o4.kd=3∧o4.op=pA)(h5:o5.kd=4∧o5.tk=150)(hlt:c.lt=1)(hlm:c.lm=100)(hn:lU d)
  (h:oK c 1 [o1,o2,o3,o4,o5] 0 d 0 0 [] rsl ev): ∃e0 e1 e2 e3,ev=[e0,e1,e2,e3]∧e0.vq2=true∧e1.vq5=100∧e3.vq4=100∧e3.vq5=200:=by
 obtain⟨x1,v1,d1,un1,k1,l1,-,w1,hd,⟨x2,v2,d2,un2,k2,l2,-,w2,he,⟨x3,v3,d3,un3,k3,l3,-,w3,hf,⟨x4,v4,d4,un4,k4,l4,-,w4,hg,⟨x5,v5,d5,un5,k5,l5,-,w5,hh,⟨-,rfl⟩,-,rfl⟩,-,rfl⟩,-,rfl⟩,-,rfl⟩,-,rfl⟩:=h
 rw[h1.1,h1.2] at hd;rw[h2.1,h2.2] at he;rw[h3.1,h3.2] at hf;rw[h4.1,h4.2] at hg;rw[h5.1,h5.2] at hh
 obtain⟨-,⟨er,pl,hC,-⟩,rfl,rfl,rfl,rfl⟩|⟨q,-⟩|⟨q,-⟩|⟨q,-⟩|⟨q,-⟩:=hd
 rotate_left
 ·cases q
 ·cases q
 ·cases q
 ·exact absurd rfl q.1
 have a1:=WB hlt hlm hn hC
 obtain⟨q,-⟩|⟨-,rfl,rfl,rfl,rfl,⟨-,rfl,-⟩|⟨q,-⟩⟩|⟨q,-⟩|⟨q,-⟩|⟨q,-⟩:=he
 ·cases q
 rotate_left
 ·exact absurd Yg q
 ·cases q
 ·cases q
 ·exact absurd rfl q.2.1
 have hfc:nK 1=0:=rfl
 obtain⟨q,-⟩|⟨q,-⟩|⟨-,rfl,rfl,hp⟩|⟨q,-⟩|⟨q,-⟩:=hf
 ·cases q
 ·cases q
 rotate_left
 ·cases q
 ·exact absurd rfl q.2.2.1
 unfold AB at hp;rw[Nr] at hp
 obtain⟨q,-⟩|⟨-,er3,d2',hP,hp⟩:=hp
 ·exact absurd hfc q
 obtain⟨rfl,a2⟩:=Lp hlm (by decide) a1 hP
 obtain⟨q,-⟩|⟨-,-,hp⟩:=hp
 ·exact absurd rfl q
 obtain⟨q,-⟩|⟨-,z,ok,ht,hp⟩:=hp
 ·omega
 obtain⟨rfl,hz,a3⟩:=KA (by decide) a2 ht
 obtain⟨q,-⟩|⟨-,rfl,rfl⟩:=hp
 ·cases q
 obtain⟨q,-⟩|⟨q,-⟩|⟨-,rfl,rfl,hp⟩|⟨q,-⟩|⟨q,-⟩:=hg
 ·cases q
 ·cases q
 rotate_left
 ·cases q
 ·exact absurd rfl q.2.2.1
 unfold AB at hp;rw[Nr] at hp
 obtain⟨q,-⟩|⟨-,er4,d4',hP,hp⟩:=hp
 ·exact absurd hfc q
 obtain⟨rfl,a4⟩:=Lp hlm (by decide) a3 hP
 obtain⟨q,-⟩|⟨-,-,hp⟩:=hp
 ·exact absurd rfl q
 rw[hz] at hp
 obtain⟨-,rfl,rfl,rfl⟩|⟨q,-⟩:=hp
 rotate_left
 ·omega
 obtain⟨q,-⟩|⟨q,-⟩|⟨q,-⟩|⟨-,rfl,hp⟩|⟨q,-⟩:=hh
 ·cases q
 ·cases q
 ·cases q
 rotate_left
 ·exact absurd rfl q.2.2.2
 obtain⟨q,-⟩|⟨-,-,rfl,ha⟩:=hp
 ·omega
 obtain⟨e,rfl,e1,e2⟩:=WC a4 ha
 refine⟨_,_,_,e,rfl,rfl,?_,e1,e2⟩
 show 0+z.gq3*1=100
 rw[hz];rfl
theorem WE{a b c d e:ew}(h:fg (bQ [] a.zl)=[]): ∀o,[a,b,c,d,e][0]? =some o→fw [] o.zl=0→fg (bQ [] o.zl)=[]:=λo ho _=>by cases ho;exact h
theorem WG{a b c d e:ew}(h1:b.kd≠1)(h2:c.kd≠1)(h3:d.kd≠1)(h4:e.kd≠1): ∀(j:Nat)(o:ew),0<j→[a,b,c,d,e][j]? =some o→o.kd≠1
 |0,_,h,_=>absurd h<|Nat.lt_irrefl 0
 |1,_,_,h=>by cases h;exact h1
 |2,_,_,h=>by cases h;exact h2
 |3,_,_,h=>by cases h;exact h3
 |4,_,_,h=>by cases h;exact h4
 |j+5,_,_,h=>by simp at h
theorem KB(t lm:Int)(al:k0)(ops:List ew)(cl:Nat)(hol:ops.length≤1000)(htt:1≤t∧t≤65536)(hlm:1≤lm∧lm≤16384)(hNR: ∀o,ops[0]? =some o→fw [] o.zl=0→fg (bQ [] o.zl)=[])(hk1: ∀(j:Nat)(o:ew),0<j→ops[j]? =some o→o.kd≠1)(w:World)(hoa:dR w al (V.aP nn ops))(hops:qm w ops)(hs:HS w (aN []) [] w):
  Calls Tryz.prog 9 #[.agg #[i_ t,i_ lm,vS al ops cl]] w λe w'=> ∃zz:k0×List Rs×Nat×k0×List Ev×Nat,e= .returned (.tuple #[.agg #[vS zz.1 zz.2.1 zz.2.2.1,vS zz.2.2.2.1 zz.2.2.2.2.1 zz.2.2.2.2.2],i_ 0])∧(∃c d,c.lt=t∧c.lm=lm∧lU d∧oK c t ops 0 d 0 0 [] zz.2.1 zz.2.2.2.2.1)∧Turn [] [oy zz.1 zz.2.1 zz.2.2.1,gQ zz.2.2.2.1 zz.2.2.2.2.1 zz.2.2.2.2.2] w w':=by
 have ho:(eT w).holds w:=⟨Nat.le_refl _,λ_ _=>rfl⟩
 have hf:aN [eT w]=List.range w.heap.size:=by simp[aN,eT]
 refine(Xo w t lm al ops cl hoa hops hol htt hlm hNR hk1 (λc d h1 h2 h3=>⟨Iv c,lA,Jy,BD (by rw[h1];exact htt) (by rw[h2];exact hlm) h3,Jz h3⟩) w<|HS.start w _ (λit hi=>by rw[List.mem_singleton] at hi;subst hi;exact ho) (by rw[hf];exact List.nodup_range)).mono ?_
 rintro e w' ⟨⟨A,rs,a,B,ev,b⟩,h1,h2,h3⟩
 have hw:=h3.all (eT w)<|List.mem_cons_self ..
 have hn:=h3.nodup
 change(aN<|[eT w]++[oy A rs a,gQ B ev b]).Nodup at hn
 rw[lW] at hn
 obtain⟨-,n2,n3⟩:=List.nodup_append.1 hn
 refine⟨(A,rs,a,B,ev,b),h1,h2,⟨h3.fr.os,h3.fr.tape,h3.fr.output,h3.fr.size,λk hk _=>hw.2 k hk⟩,λit hi=>h3.all it<|List.mem_cons_of_mem _ hi,n2,λb hb=> .inr ?_⟩
 rcases Nat.lt_or_ge b w.heap.size with h|h
 ·exact absurd rfl (n3 b (by rw[hf];exact List.mem_range.2 h) b hb)
 ·exact h
variable{w0:World}{H:List V.aI}
theorem AE{w:World}(h:qm w0 ops)(s:HS w0 [] H w):qm w ops:=λx hx=>by
 obtain⟨h1,h2,h3⟩:=h x hx
 exact⟨cL h1 (by simp) w s,cL h2 (by simp) w s,h3⟩
def oL(t lm:Int):Bool:=decide (t≥1)&&decide (t≤65536)&&decide (lm≥1)&&decide (lm≤16384)
def wH(o:ew):Bool:= !(decide ((o.zl.length:Int)>40)||decide ((o.rl.length:Int)>40))
def js(ops:List ew)(m:Int):Bool:=decide ((ops.length:Int)≤m)&&ops.all wH
variable{m:Int}
theorem RF(h:(ops.length:Int)>m):js ops m=false:=by unfold js;simp;omega
theorem WH(hk:ops[k]? =some o)(h:wH o=false):js ops m=false:=by
 unfold js;rw[Bool.and_eq_false_iff];right;rw[List.all_eq_false];exact⟨o,Zd hk,by simp[h]⟩
theorem TS(h: ¬(ops.length:Int)>m)(hk:ops.length≤k)(hn: ∀j y,j<k→ops[j]? =some y→wH y=true):js ops m=true:=by
 unfold js;rw[Bool.and_eq_true];refine⟨by simp;omega,?_⟩
 rw[List.all_eq_true];intro x hx
 obtain⟨j,h1,h2⟩:=List.getElem_of_mem hx
 exact hn j x (by omega) (by rw[←h2];exact Ze h1)
theorem Xs(t lm:Int)(w:World):
  CW 29 #[.agg #[i_ t,i_ lm]] w (b_<|oL t lm):=by
 refine aU Tryz.func29 rfl (HS.nil w) (aC<|dL [.al] [] (λb1=>[(1,p_ b1)]) (λb1=>aA b1 [i_ t,i_ lm] 23) ?_)
 intro b1
 refine aC<|bB [.ld 0,.o,.ld 0,.cl,.o,.ld 0,.cl,.o,.ld 0,.cl] [(2,b_<|(((decide (t≥1))&&(decide (t≤65536)))&&(decide (lm≥1)))&&(decide (lm≤16384)))]<|aF<|bJ [b_<|(((decide (t≥1))&&(decide (t≤65536)))&&(decide (lm≥1)))&&(decide (lm≤16384))] ?_
 rfl
theorem Xt(t lm:Int)(al:k0)(ops:List ew)(cl:Nat)(m:Int)(hm:m≤1000)(w:World)(r0:dR w al (V.aP nn ops)):
  CW 30 #[.agg #[i_ t,i_ lm,vS al ops cl],i_ m] w (b_<|js ops m):=by
 refine aU Tryz.func30 rfl (HS.nil w) (aC<|dL [.al] [] (λb1=>[(2,p_ b1)]) (λb1=>aA b1 [i_ t,i_ lm,vS al ops cl] 26) ?_)
 intro b1
 refine bS<|bB [.ld 0] [(11,b_<|decide ((ops.length:Int)>m))]<|aL rfl (λe1=>?_) (λe1=>?_)
 ·have p1:=Zg e1
  refine aE [(4,b_ false)]<|aF<|bJ [b_ false] ?_
  show((b_ false):Value)=(b_<|js ops m)
  rw[RF<|by omega]
 have p1:=Zh e1
 refine aO<|bS<|bB [.ld 0] [(13,vS al ops cl),(14,c_ ops.length),(15,i_ 0)]<|aR<|iC (σ:=Nat) [] (λk=>[(15,c_ k)]) [] (λk=>[]) (λk=>(k≤ops.length)∧(∀j y,j<k→ops[j]? =some y→wH y=true)) (λk=>ops.length-k) (0:Nat) ⟨(by omega),(by intro j y hj;omega)⟩ ?_ ?_
 ·exact cX [0]
 rintro k ⟨hk,hn⟩
 refine aE [(16,b_<|decide ((k:Int)<(ops.length:Int)))]<|aD<|aL rfl (λe2=>?_) (λe2=>?_)
 ·have p2:=Zg e2
  refine az<|aR<|aC<|jJ [.ix] [(17,.pointer<|some<|(au al).add (k*10))] (o1<|io (k:Int)<|dh oY (by decide) (cL r0<|by simp[aN])<|by omega) ?_
  obtain⟨x2,hx2⟩: ∃x,(ops)[k]? =some x:=⟨_,Ze<|by omega⟩
  refine jI [.rd [i_ x2.kd,vS x2.za x2.zl x2.zc,vS x2.ra x2.rl x2.rc,u_ x2.op.qi,i_ x2.op.qn,w_ x2.op.qa,w_ x2.op.qb,w_ x2.op.qc,w_ x2.op.qd,u_ x2.tk],.al,.st 1] [] (λb3=>[(6,p_ b3)]) (λb3=>[]) (λb3=>aA b3 [i_ x2.kd,vS x2.za x2.zl x2.zc,vS x2.ra x2.rl x2.rc,u_ x2.op.qi,i_ x2.op.qn,w_ x2.op.qa,w_ x2.op.qb,w_ x2.op.qc,w_ x2.op.qd,u_ x2.tk] 47) (λb3=>o1<|ro ((au al).add (k*10))<|dr (vs:=[i_ x2.kd,vS x2.za x2.zl x2.zc,vS x2.ra x2.rl x2.rc,u_ x2.op.qi,i_ x2.op.qn,w_ x2.op.qa,w_ x2.op.qb,w_ x2.op.qc,w_ x2.op.qd,u_ x2.tk]) oY (cL r0<|by simp[aN]) hx2 (Nat.le_of_ble_eq_true rfl) rfl) ?_
  intro b3
  refine aC<|bB [.ld 1,.o,.ld 1,.cl] [(28,b_<|(decide ((x2.zl.length:Int)>40))||(decide ((x2.rl.length:Int)>40)))]<|aL rfl (λe3=>?_) (λe3=>?_)
  ·have p3:=e3;try simp only[cR] at p3
   refine aE [(4,b_ false)]<|aF<|bJ [b_ false] ?_
   show((b_ false):Value)=(b_<|js ops m)
   rw[WH ‹_› (by unfold wH;simp;omega)]
  have p3:=e3
  refine aO<|aM<|aj [.w<|(k:Int)+1] [(15,i_<|(k:Int)+1)] (o1<|wj ((k:Int)+1)<|by omega)<|bN (k+1) ⟨(by omega),(by intro j y hj_ hy_;rcases Nat.lt_succ_iff_lt_or_eq.1 hj_ with h_|rfl;exact hn j y h_ hy_;simp_all[wH])⟩ (by omega) ?_
  exact cX [0]
 have p2:=Zh e2
 refine bg<|aE [(4,b_ true)]<|aF<|bJ [b_ true] ?_
 show((b_ true):Value)=(b_<|js ops m)
 rw[TS (by omega) (by omega) hn]
theorem TT(t lm:Int)(al:k0)(ops:List ew)(cl:Nat)(m:Int)(hm:m≤1000)(w:World)(r0:dR w al (V.aP nn ops)):
  CW 7 #[.agg #[i_ t,i_ lm,vS al ops cl],i_ m] w (b_<|oL t lm&&js ops m):=by
 refine aU Tryz.func7 rfl (HS.nil w) (aC<|dL [.al] [] (λb1=>[(2,p_ b1)]) (λb1=>aA b1 [i_ t,i_ lm,vS al ops cl] 26) ?_)
 intro b1
 refine dF [.ld 0,.cq<|b_<|oL t lm,.o,.ld 0,.cq<|b_<|js ops m,.cl] [(4,b_<|(oL t lm)&&(js ops m))] (oc (qw<|Xs t lm)<|o1<|go (true&&((oL t lm)==true)) λh_=>(qo<|λw s=>Xt t lm al ops cl m ‹_› w ((cL r0<|by simp[aN]) w s)))<|aF<|bJ [b_<|(oL t lm)&&(js ops m)] ?_
 rfl
theorem WI{lm:Int}(h:oL t lm=true):(1≤t∧t≤65536)∧1≤lm∧lm≤16384:=by unfold oL at h;simp at h;omega
theorem TU(h:js ops m=true):(ops.length:Int)≤m:=by unfold js at h;simp at h;exact h.1
theorem KC: ∀{ops:List ew}{no un clk:Int}{d:Sd}{rl:List Rl}{rsl:List Rs}{evl:List Ev},oK c t ops no d un clk rl rsl evl→Iv c d→d.ck≤clk→0≤clk∧clk≤4611686018427387904→(∀o∈ops,(∀z∈o.zl,iQ z)∧0≤o.tk)→evl.length≤lA d+2*ops.length
 |[],no,un,clk,d,rl,rsl,evl,⟨h1,h2⟩,_,_,_,_=>by subst h2;simp
 |o::ops,no,un,clk,d,rl,rsl,evl,⟨x,evs,d',un',clk',rl',rsl',evl',hd,hr,h1,h2⟩,hI,hk,hc,hz=>by
  subst h1 h2
  obtain⟨z1,z2⟩:=hz o<|List.mem_cons_self ..
  obtain⟨a1,a2,a3,a4⟩:=Ll Jy z1 z2 hI hk hc hd
  have:=KC hr a1 a2 a3 λo ho=>hz o<|List.mem_cons_of_mem _ ho
  simp;omega
theorem Y0{w:World}{za ra:k0}{zc rc:Nat}(h1:dR w za (V.aP gv [zA]))(h2:dR w ra (V.aP f9 [rA])):qm w [⟨1,za,[zA],zc,none,[],0,⟨0,0,0,0,0,0⟩,0⟩,⟨2,none,[],0,ra,[rA],rc,⟨0,0,0,0,0,0⟩,0⟩,⟨3,none,[],0,none,[],0,pA,0⟩,⟨3,none,[],0,none,[],0,pA,0⟩,⟨4,none,[],0,none,[],0,⟨0,0,0,0,0,0⟩,150⟩]:=by
 intro x hx
 have hn:dR w none ([]:Za):=λj u h=>by simp at h
 simp only[List.mem_cons,List.not_mem_nil,or_false] at hx
 rcases hx with rfl|rfl|rfl|rfl|rfl
 ·exact⟨h1,hn,by simp[iQ,zA],by simp,by simp[ko,fc],by simp⟩
 ·exact⟨hn,h2,by simp,by simp[kq,rA],by simp[ko,fc],by simp⟩
 ·exact⟨hn,hn,by simp,by simp,by simp[ko,fc,pA],by simp⟩
 ·exact⟨hn,hn,by simp,by simp,by simp[ko,fc,pA],by simp⟩
 ·exact⟨hn,hn,by simp,by simp,by simp[ko,fc],by simp⟩
abbrev Lq(p0):=(.slice (some ⟨p0,0,none⟩) 5 5:Value)
abbrev xk(p0):=(.slice (some ⟨p0,0,none⟩) 1 1:Value)
abbrev Lr(p0):=(aA p0 [w_ 0,w_ 0,w_ 0,w_ 0,w_ 0,w_ 0,w_ 0,w_ 0,i_ 1] 86:V.aI)
abbrev BE(p0):=(aA p0 [i_ 3,e_,e_,u_ 7,i_ 100,w_ 0,w_ 0,w_ 0,w_ 0,u_ 0] 47:V.aI)
abbrev F9(p0):=(aA p0 [i_ 1,i_ 1,i_ 0,b_ true,u_ 0,u_ 0,u_ 0,u_ 65536,u_ 0,u_ 65536,u_ 0,u_ 0,u_ 0,i_ 3,i_ 300] 84:V.aI)
abbrev BF(p0):=(aA p0 [i_ 1,i_ 0,b_ true,u_ 0,u_ 0,u_ 0,u_ 65536,u_ 0,u_ 65536,u_ 0,u_ 0,u_ 0,i_ 3,i_ 300] 62:V.aI)
abbrev WJ(p0)(p1)(p2):=(aA p0 [i_ 1,.slice (some ⟨p1,0,none⟩) 1 1,e_,u_ 0,i_ 0,w_ 0,w_ 0,w_ 0,w_ 0,u_ 0,i_ 2,e_,.slice (some ⟨p2,0,none⟩) 1 1,u_ 0,i_ 0,w_ 0,w_ 0,w_ 0,w_ 0,u_ 0,i_ 3,e_,e_,u_ 7,i_ 100,w_ 0,w_ 0,w_ 0,w_ 0,u_ 0,i_ 3,e_,e_,u_ 7,i_ 100,w_ 0,w_ 0,w_ 0,w_ 0,u_ 0,i_ 4,e_,e_,u_ 0,i_ 0,w_ 0,w_ 0,w_ 0,w_ 0,u_ 150] 47:V.aI)
theorem tp(w:World):
  CW 8 #[] w (b_ true):=by
 refine aU Tryz.func8 rfl (HS.nil w) (dW [] [] trivial rfl (aE []<|aC<|dM [.al,.st 0] [] (λb1=>[(1,p_ b1)]) (λ_=>[]) (λb1=>BF b1) ?_))
 intro b1
 refine aC<|dM [.al,.st 1] [] (λb2=>[(2,p_ b2)]) (λ_=>[]) (λb2=>BE b2) ?_
 intro b2
 refine aC<|an 3 [.ld 0] [(10,.agg #[i_ 1,i_ 100]),(12,.agg #[i_ 1,i_ 1,i_ 0,b_ true,u_ 0,u_ 0,u_ 0,u_ 65536,u_ 0,u_ 65536,u_ 0,u_ 0,u_ 0,i_ 3,i_ 300])]<|aG<|eB 13 (e:=84) [i_ 1,i_ 1,i_ 0,b_ true,u_ 0,u_ 0,u_ 0,u_ 65536,u_ 0,u_ 65536,u_ 0,u_ 0,u_ 0,i_ 3,i_ 300] (by kernel_rfl) rfl (λ_=>by kernel_rfl) (λb3=>[BF b1,BE b2,F9 b3]) (λ_=>rfl) ?_
 intro b3
 refine an 2 [] [(14,.agg #[i_ 1,xk b3,e_,u_ 0,i_ 0,w_ 0,w_ 0,w_ 0,w_ 0,u_ 0]),(15,.agg #[w_ 0,w_ 0,w_ 0,w_ 0,w_ 0,w_ 0,w_ 0,w_ 0,i_ 1])]<|aG<|eB 16 (e:=86) [w_ 0,w_ 0,w_ 0,w_ 0,w_ 0,w_ 0,w_ 0,w_ 0,i_ 1] (by kernel_rfl) rfl (λ_=>by kernel_rfl) (λb4=>[BF b1,BE b2,F9 b3,Lr b4]) (λ_=>rfl) ?_
 intro b4
 refine k9 [.p,.ld 1,.ld 1,.p] [(10,.agg #[i_ 1,i_ 100]),(14,.agg #[i_ 1,xk b3,e_,u_ 0,i_ 0,w_ 0,w_ 0,w_ 0,w_ 0,u_ 0]),(17,.agg #[i_ 2,e_,xk b4,u_ 0,i_ 0,w_ 0,w_ 0,w_ 0,w_ 0,u_ 0]),(18,.agg #[i_ 3,e_,e_,u_ 7,i_ 100,w_ 0,w_ 0,w_ 0,w_ 0,u_ 0]),(19,.agg #[i_ 3,e_,e_,u_ 7,i_ 100,w_ 0,w_ 0,w_ 0,w_ 0,u_ 0]),(20,.agg #[i_ 4,e_,e_,u_ 0,i_ 0,w_ 0,w_ 0,w_ 0,w_ 0,u_ 150])]<|aG<|eB 21 (e:=47) [i_ 1,xk b3,e_,u_ 0,i_ 0,w_ 0,w_ 0,w_ 0,w_ 0,u_ 0,i_ 2,e_,xk b4,u_ 0,i_ 0,w_ 0,w_ 0,w_ 0,w_ 0,u_ 0,i_ 3,e_,e_,u_ 7,i_ 100,w_ 0,w_ 0,w_ 0,w_ 0,u_ 0,i_ 3,e_,e_,u_ 7,i_ 100,w_ 0,w_ 0,w_ 0,w_ 0,u_ 0,i_ 4,e_,e_,u_ 0,i_ 0,w_ 0,w_ 0,w_ 0,w_ 0,u_ 150] (by kernel_rfl) rfl (λ_=>by kernel_rfl) (λb5=>[BF b1,BE b2,F9 b3,Lr b4,WJ b5 b3 b4]) (λ_=>rfl) ?_
 intro b5
 refine dM [.al,.st 5] [] (λb6=>[(3,p_ b6)]) (λ_=>[]) (λb6=>aA b6 [i_ 1,i_ 100,Lq b5] 26) ?_
 intro b6
 refine aC<|cV [.ld 5] [(24,.agg #[i_ 1,i_ 100,Lq b5])]<|aG<|dH (some 25) [] (λw s h=>KB 1 100 (some ⟨b5,0,none⟩) ([(⟨1,some ⟨b3,0,none⟩,[(⟨1,1,0,true,0,0,0,65536,0,65536,0,0,0,3,300⟩:Zc)],1,none,([]:List Rl),0,(⟨0,0,0,0,0,0⟩:Pk),0⟩:ew),(⟨2,none,([]:List Zc),0,some ⟨b4,0,none⟩,[(⟨0,0,0,0,0,0,0,0,1⟩:Rl)],1,(⟨0,0,0,0,0,0⟩:Pk),0⟩:ew),(⟨3,none,([]:List Zc),0,none,([]:List Rl),0,(⟨7,100,0,0,0,0⟩:Pk),0⟩:ew),(⟨3,none,([]:List Zc),0,none,([]:List Rl),0,(⟨7,100,0,0,0,0⟩:Pk),0⟩:ew),(⟨4,none,([]:List Zc),0,none,([]:List Rl),0,(⟨0,0,0,0,0,0⟩:Pk),150⟩:ew)]) 5 (by(simp;done)) (by omega) (by omega) (WE<|by kernel_rfl) (WG (by simp) (by simp) (by simp)<|by simp) w ((ef (i:=4) rfl) w s) (Y0 ((ef (i:=2) rfl) w s)<|(ef (i:=3) rfl) w s) h) ?_
 rintro⟨A'7,rs'8,a'9,B'10,ev'11,b'12⟩ hz1
 dsimp only at hz1
 refine dM [.al,.st 8] [] (λb15=>[(4,p_ b15),(5,i_ 0)]) (λ_=>[]) (λb15=>aA b15 [vS A'7 rs'8 a'9,vS B'10 ev'11 b'12] 32) ?_
 intro b15
 refine aD<|aD ?_
 obtain⟨cc,dd,hc1,hc2,hnS,hRL⟩:=hz1
 obtain⟨e0,e1,e2,e3,hev,q0,q1,q2,q3⟩:=RE ⟨rfl,rfl⟩ ⟨rfl,rfl⟩ ⟨rfl,rfl⟩ ⟨rfl,rfl⟩ ⟨rfl,rfl⟩ hc1 hc2 hnS hRL
 have hel:ev'11.length=4:=by rw[hev];rfl
 have hx0_:ev'11[0]? =some e0:=by rw[hev];rfl
 have hx1_:ev'11[1]? =some e1:=by rw[hev];rfl
 have hx2_:ev'11[2]? =some e2:=by rw[hev];rfl
 have hx3_:ev'11[3]? =some e3:=by rw[hev];rfl
 refine aM<|bB [.ld 8] [(35,b_<|(ev'11.length:Int)!=4)]<|aL (E:=(ev'11.length:Int)!=4) rfl (λe2=>?_) (λe2=>?_)
 ·exact absurd e2<|by(intro h_;simp[hel] at h_)
 refine aO<|dF [.ld 8,.ix,.rd [b_ e0.vq2],.o,.ld 8,.ix,.rd [u_ e1.vq5],.cl,.o,.ld 8,.ix,.rd [u_ e3.vq4],.cl,.o,.ld 8,.ix,.rd [u_ e3.vq5],.cl] [(0,b_<|((e0.vq2&&(e1.vq5==100))&&(e3.vq4==100))&&(e3.vq5==200))] (oc (io (0:Int)<|dh lK (by decide) (bW (i:=1) rfl)<|by(simp;omega))<|oc (ro (((au B'10).add (0*12)).add 1)<|j8 (f:=1) (vs:=[b_ e0.vq2]) lK (bW (i:=1) rfl) hx0_ (by simp) rfl)<|oc (go (true&&(e0.vq2==true)) λh_=>(io (1:Int)<|dh lK (by decide) (bW (i:=1) rfl)<|by(simp;omega)))<|oc (go (true&&(e0.vq2==true)) λh_=>(ro (((au B'10).add (1*12)).add 4)<|j8 (f:=4) (vs:=[u_ e1.vq5]) lK (bW (i:=1) rfl) hx1_ (by simp) rfl))<|oc (go (true&&((e0.vq2&&(e1.vq5==100))==true)) λh_=>(io (3:Int)<|dh lK (by decide) (bW (i:=1) rfl)<|by(simp;omega)))<|oc (go (true&&((e0.vq2&&(e1.vq5==100))==true)) λh_=>(ro (((au B'10).add (3*12)).add 3)<|j8 (f:=3) (vs:=[u_ e3.vq4]) lK (bW (i:=1) rfl) hx3_ (by simp) rfl))<|oc (go (true&&(((e0.vq2&&(e1.vq5==100))&&(e3.vq4==100))==true)) λh_=>(io (3:Int)<|dh lK (by decide) (bW (i:=1) rfl)<|by(simp;omega)))<|o1<|go (true&&(((e0.vq2&&(e1.vq5==100))&&(e3.vq4==100))==true)) λh_=>(ro (((au B'10).add (3*12)).add 4)<|j8 (f:=4) (vs:=[u_ e3.vq5]) lK (bW (i:=1) rfl) hx3_ (by simp) rfl))<|aF<|fE [b_<|((e0.vq2&&(e1.vq5==100))&&(e3.vq4==100))&&(e3.vq5==200)] (λ_ w r s=>⟨cw r rfl,trivial⟩) ?_
 show((b_<|((e0.vq2&&(e1.vq5==100))&&(e3.vq4==100))&&(e3.vq5==200)):Value)=(b_ true)
 simp[q0,q1,q2,q3]
structure N4 where
 nn1:Int
 nn2:Int
 nn3:Int
 nn4:Int
 deriving Inhabited,DecidableEq
def dI(x:N4):List Value:=[u_ x.nn1,u_ x.nn2,u_ x.nn3,u_ x.nn4]
def cM(v:Int):N4:=⟨v.tmod 4294967296,IntKind.u64.wrap<|v.tdiv 4294967296,0,0⟩
def iR(v w:Int):N4:=⟨w.tmod 4294967296,IntKind.u64.wrap<|w.tdiv 4294967296,v.tmod 4294967296,IntKind.u64.wrap<|v.tdiv 4294967296⟩
def fX(a:N4):Int:=IntKind.u64.wrap<|IntKind.u64.wrap (a.nn4*4294967296)+a.nn3
def eK(a:N4):Int:=IntKind.u64.wrap<|IntKind.u64.wrap (a.nn2*4294967296)+a.nn1
def km(a b:N4):Bool:=if a.nn4≠b.nn4 then decide (a.nn4<b.nn4) else if a.nn3≠b.nn3 then decide (a.nn3<b.nn3) else if a.nn2≠b.nn2 then decide (a.nn2<b.nn2) else if a.nn1≠b.nn1 then decide (a.nn1<b.nn1) else false
def oS(a b:N4):Int:=IntKind.u64.wrap<|(IntKind.u64.wrap<|a.nn1+b.nn1)+0
def Be(a b:N4):Int:=IntKind.u64.wrap<|(oS a b).tdiv 4294967296
def mf(a b:N4):Int:=IntKind.u64.wrap<|(IntKind.u64.wrap<|a.nn2+b.nn2)+(Be a b)
def Bf(a b:N4):Int:=IntKind.u64.wrap<|(mf a b).tdiv 4294967296
def nR(a b:N4):Int:=IntKind.u64.wrap<|(IntKind.u64.wrap<|a.nn3+b.nn3)+(Bf a b)
def yN(a b:N4):Int:=IntKind.u64.wrap<|(nR a b).tdiv 4294967296
def oz(a b:N4):Int:=IntKind.u64.wrap<|(IntKind.u64.wrap<|a.nn4+b.nn4)+(yN a b)
def vk(a b:N4):Int:=IntKind.u64.wrap<|(oz a b).tdiv 4294967296
def bP(a b:N4):N4:=⟨(oS a b).tmod 4294967296,(mf a b).tmod 4294967296,(nR a b).tmod 4294967296,(oz a b).tmod 4294967296⟩
def sj(x y:Int):Int:=IntKind.u64.wrap<|((cM x).nn1)*((cM y).nn1)
def sq(x y:Int):Int:=IntKind.u64.wrap<|((cM x).nn1)*((cM y).nn2)
def tA(x y:Int):Int:=IntKind.u64.wrap<|((cM x).nn2)*((cM y).nn1)
def rI(x y:Int):Int:=IntKind.u64.wrap<|((cM x).nn2)*((cM y).nn2)
def qA(x y:Int):N4:=⟨(sj x y).tmod 4294967296,IntKind.u64.wrap<|(sj x y).tdiv 4294967296,0,0⟩
def qB(x y:Int):N4:=⟨0,(sq x y).tmod 4294967296,IntKind.u64.wrap<|(sq x y).tdiv 4294967296,0⟩
def yO(x y:Int):N4:=⟨0,(tA x y).tmod 4294967296,IntKind.u64.wrap<|(tA x y).tdiv 4294967296,0⟩
def qD(x y:Int):N4:=⟨0,0,(rI x y).tmod 4294967296,IntKind.u64.wrap<|(rI x y).tdiv 4294967296⟩
def mA(x y:Int):N4:=bP (⟨0,0,0,0⟩:N4)<|qA x y
def mB(x y:Int):N4:=bP (mA x y)<|qB x y
def yP(x y:Int):N4:=bP (mB x y)<|yO x y
def aw(x y:Int):N4:=bP (yP x y)<|qD x y
abbrev BG(p0:Int):=(u_ (IntKind.u64.wrap<|p0.tdiv 4294967296):Value)
theorem xw(v:Int)(w:World):
  CW 55 #[u_ v] w (.agg #[u_<|(cM v).nn1,u_<|(cM v).nn2,u_<|(cM v).nn3,u_<|(cM v).nn4]):=by
 refine aU Tryz.func55 rfl (HS.nil w) (aC<|dL [.al] [] (λb1=>[(2,p_ b1)]) (λb1=>aA b1 [u_ 0,u_ 0,u_ 0,u_ 0] 69) ?_)
 intro b1
 refine aC<|bL [.st 0] [] [(0,aA b1 [u_<|v.tmod 4294967296,BG v,u_ 0,u_ 0] 69)]<|aF<|ez 0 [u_<|v.tmod 4294967296,BG v,u_ 0,u_ 0] ?_
 rfl
theorem Ls(v w_:Int)(w:World):
  CW 58 #[u_ v,u_ w_] w (.agg #[u_<|(iR v w_).nn1,u_<|(iR v w_).nn2,u_<|(iR v w_).nn3,u_<|(iR v w_).nn4]):=by
 refine aU Tryz.func58 rfl (HS.nil w) (aC<|dL [.al] [] (λb1=>[(4,p_ b1)]) (λb1=>aA b1 [u_ 0,u_ 0,u_ 0,u_ 0] 69) ?_)
 intro b1
 refine aC<|bL [.st 0] [] [(0,aA b1 [u_<|w_.tmod 4294967296,u_<|wU<|w_.tdiv 4294967296,u_<|v.tmod 4294967296,BG v] 69)]<|aF<|ez 0 [u_<|w_.tmod 4294967296,u_<|wU<|w_.tdiv 4294967296,u_<|v.tmod 4294967296,BG v] ?_
 rfl
abbrev Lt(p0:N4):=(u_ (IntKind.u64.wrap<|(IntKind.u64.wrap<|p0.nn4*4294967296)+p0.nn3):Value)
theorem NS(a:N4)(w:World):
  CW 56 #[.agg (dI a).toArray] w (u_<|fX a):=by
 refine aU Tryz.func56 rfl (HS.nil w) (aC<|dL [.al] [] (λb1=>[(1,p_ b1)]) (λb1=>aA b1 (dI a) 69) ?_)
 intro b1
 refine aC<|bB [.ld 0,.ld 0] [(2,Lt a)]<|aF<|bJ [Lt a] ?_
 rfl
abbrev Lu(p0:N4):=(u_ (IntKind.u64.wrap<|(IntKind.u64.wrap<|p0.nn2*4294967296)+p0.nn1):Value)
theorem GU(a:N4)(w:World):
  CW 57 #[.agg (dI a).toArray] w (u_<|eK a):=by
 refine aU Tryz.func57 rfl (HS.nil w) (aC<|dL [.al] [] (λb1=>[(1,p_ b1)]) (λb1=>aA b1 (dI a) 69) ?_)
 intro b1
 refine aC<|bB [.ld 0,.ld 0] [(2,Lu a)]<|aF<|bJ [Lu a] ?_
 rfl
theorem KD(a b:N4)(w:World):
  CW 21 #[.agg (dI a).toArray,.agg (dI b).toArray] w (b_<|km a b):=by
 refine aU Tryz.func21 rfl (HS.nil w) (aC<|wK [.al,.al,.p] [2,3] (λb1 b2=>[(2,p_ b1),(3,p_ b2)]) (λb1 b2=>[aA b1 (dI a) 69,aA b2 (dI b) 69]) (λb1 b2=>[]) (λ_ _=>T0) (λ_ _=>by kernel_rfl) (λb1 b2=>trivial) ?_)
 intro b1 b2
 refine aD<|aE [(2,p_ b1),(3,p_ b2),(6,i_ 0)]<|aR<|i4 400<|cd (m:=399)<|aE [(7,b_ true)]<|aD<|iw rfl (az<|aR<|aE [(5,i_ 0)]<|aD<|kN [.ld 0,.ld 1] [0,1,2,3,4,5,6,7,8] [(2,p_ b1),(3,p_ b2),(6,i_ 0),(5,i_ 0),(17,b_<|a.nn4 !=b.nn4)]<|aL (E:=a.nn4 !=b.nn4) rfl (λe1=>?_) (λe1=>?_))
 ·refine aD<|kN [.ld 0,.ld 1] [0,1,2,3,4,5,6,7,8,9] [(4,b_<|decide (a.nn4<b.nn4))]<|aF<|fE [b_<|decide (a.nn4<b.nn4)] (λ_ w r s=>⟨cw r rfl,trivial⟩) ?_
  show((b_<|decide (a.nn4<b.nn4)):Value)=(b_<|km a b)
  unfold km;simp_all
 refine aO<|bZ [(6,i_ 1)]<|cd (m:=398)<|aE [(7,b_ true)]<|aD<|iw rfl (az<|aR<|aE [(5,i_ 1)]<|aD<|kN [.ld 0,.ld 1] [0,1,2,3,4,5,6,7,8] [(5,i_ 1),(17,b_<|a.nn3 !=b.nn3)]<|aL (E:=a.nn3 !=b.nn3) rfl (λe2=>?_) (λe2=>?_))
 ·refine aD<|kN [.ld 0,.ld 1] [0,1,2,3,4,5,6,7,8,9] [(4,b_<|decide (a.nn3<b.nn3))]<|aF<|fE [b_<|decide (a.nn3<b.nn3)] (λ_ w r s=>⟨cw r rfl,trivial⟩) ?_
  show((b_<|decide (a.nn3<b.nn3)):Value)=(b_<|km a b)
  unfold km;simp_all
 refine aO<|bZ [(6,i_ 2)]<|cd (m:=397)<|aC<|da [] [(2,p_ b1),(3,p_ b2),(6,i_ 2),(7,b_ true)]<|aD<|iw rfl (az<|aR<|aE [(5,i_ 2)]<|aD<|kN [.ld 0,.ld 1] [0,1,2,3,4,5,6,7,8] [(17,b_<|a.nn2 !=b.nn2)]<|aL (E:=a.nn2 !=b.nn2) rfl (λe3=>?_) (λe3=>?_))
 ·refine aD<|kN [.ld 0,.ld 1] [0,1,2,3,4,5,6,7,8,9] [(4,b_<|decide (a.nn2<b.nn2))]<|aF<|fE [b_<|decide (a.nn2<b.nn2)] (λ_ w r s=>⟨cw r rfl,trivial⟩) ?_
  show((b_<|decide (a.nn2<b.nn2)):Value)=(b_<|km a b)
  unfold km;simp_all
 refine aO<|bZ [(6,i_ 3)]<|cd (m:=396)<|aE [(7,b_ true)]<|aD<|iw rfl (az<|aR<|aE [(5,i_ 3)]<|aD<|kN [.ld 0,.ld 1] [0,1,2,3,4,5,6,7,8] [(6,i_ 3),(5,i_ 3),(17,b_<|a.nn1 !=b.nn1)]<|aL (E:=a.nn1 !=b.nn1) rfl (λe4=>?_) (λe4=>?_))
 ·refine aD<|kN [.ld 0,.ld 1] [0,1,2,3,4,5,6,7,8,9] [(4,b_<|decide (a.nn1<b.nn1))]<|aF<|fE [b_<|decide (a.nn1<b.nn1)] (λ_ w r s=>⟨cw r rfl,trivial⟩) ?_
  show((b_<|decide (a.nn1<b.nn1)):Value)=(b_<|km a b)
  unfold km;simp_all
 refine aO<|bZ [(6,i_ 4)]<|cd (m:=395)<|aE [(7,b_ false)]<|aD<|oW rfl (bg<|aE [(4,b_ false)]<|aF<|fE [b_ false] (λ_ w r s=>⟨cw r rfl,trivial⟩) ?_)
 show((b_ false):Value)=(b_<|km a b)
 unfold km;simp_all
theorem WL(a b:N4)(w:World):
  CW 87 #[.agg (dI a).toArray,.agg (dI b).toArray] w (.tuple #[.agg (dI<|bP a b).toArray,u_<|vk a b]):=by
 refine aU Tryz.func87 rfl (HS.nil w) (aC<|nW [.al,.al,.al,.p] [2,3,4] (λb1 b2 b3=>[(2,p_ b1),(3,p_ b2),(4,p_ b3)]) (λb1 b2 b3=>[aA b1 (dI a) 69,aA b2 (dI b) 69,aA b3 [u_ 0,u_ 0,u_ 0,u_ 0] 69]) (λb1 b2 b3=>[]) (λ_ _ _=>T0) (λ_ _ _=>by kernel_rfl) (λb1 b2 b3=>trivial) ?_)
 intro b1 b2 b3
 refine aC<|dM [.al,.st 3] [] (λb4=>[(2,p_ b1),(3,p_ b2),(4,p_ b3),(6,p_ b4)]) (λ_=>[]) (λb4=>aA b4 [u_ 0,u_ 0,u_ 0,u_ 0] 69) ?_
 intro b4
 refine aE [(7,u_ 0)]<|aD<|aE [(11,i_ 0)]<|aR<|i4 400<|cd (m:=399)<|aE [(12,b_ true)]<|aD<|iw rfl (az<|aR<|aE [(8,i_ 0)]<|aD<|kN [.ld 0,.ld 1] [0,1,2,3,4,5,6,7,8,9] [(2,p_ b1),(3,p_ b2),(4,p_ b3),(6,p_ b4),(11,i_ 0),(8,i_ 0),(9,u_<|oS a b)]<|aC<|gl [.st 3] [] [] [(3,aA b4 [u_<|(oS a b).tmod 4294967296,u_ 0,u_ 0,u_ 0] 69)]<|bZ [(7,u_<|Be a b)]<|bZ [(11,i_ 1)]<|cd (m:=398)<|aE [(12,b_ true)]<|aD<|iw rfl (az<|aR<|aE [(8,i_ 1)]<|aD<|kN [.ld 0,.ld 1] [0,1,2,3,4,5,6,7,8,9] [(11,i_ 1),(8,i_ 1),(9,u_<|mf a b)]<|aC<|bL [.st 3] [(9,u_<|mf a b)] [(3,aA b4 [u_<|(oS a b).tmod 4294967296,u_<|(mf a b).tmod 4294967296,u_ 0,u_ 0] 69)]<|bZ [(7,u_<|Bf a b)]<|bZ [(11,i_ 2)]<|cd (m:=397)<|aE [(12,b_ true)]<|aD<|iw rfl (az<|aR<|aE [(8,i_ 2)]<|aD<|kN [.ld 0,.ld 1] [0,1,2,3,4,5,6,7,8,9] [(11,i_ 2),(8,i_ 2),(9,u_<|nR a b)]<|aC<|bL [.st 3] [(9,u_<|nR a b)] [(3,aA b4 [u_<|(oS a b).tmod 4294967296,u_<|(mf a b).tmod 4294967296,u_<|(nR a b).tmod 4294967296,u_ 0] 69)]<|bZ [(7,u_<|yN a b)]<|aM<|da [] [(2,p_ b1),(3,p_ b2),(4,p_ b3),(6,p_ b4),(11,i_ 3),(7,u_<|yN a b)]<|cd (m:=396)<|aE [(12,b_ true)]<|aD<|iw rfl (az<|aR<|aE [(8,i_ 3)]<|aD<|kN [.ld 0,.ld 1] [0,1,2,3,4,5,6,7,8,9] [(8,i_ 3),(9,u_<|oz a b)]<|aC<|bL [.st 3] [(9,u_<|oz a b)] [(3,aA b4 (dI<|bP a b) 69)]<|bZ [(7,u_<|vk a b)]<|bZ [(11,i_ 4)]<|cd (m:=395)<|aE [(11,i_ 4),(7,u_<|vk a b),(12,b_ false)]<|aD<|oW rfl (bg<|aC<|bL [.ld 3,.st 2] [(5,u_<|vk a b)] [(2,aA b3 (dI<|bP a b) 69)]<|aF<|pF 2 (dI<|bP a b) (u_<|vk a b) ?_)))))
 rfl
theorem pX(a b:N4)(w:World):
  CW 54 #[.agg (dI a).toArray,.agg (dI b).toArray] w (.agg (dI<|bP a b).toArray):=by
 refine aU Tryz.func54 rfl (HS.nil w) (aC<|nW [.al,.al,.al] [2,3,4] (λb1 b2 b3=>[(2,p_ b1),(3,p_ b2),(4,p_ b3)]) (λb1 b2 b3=>[aA b1 (dI a) 69,aA b2 (dI b) 69,aA b3 [u_ 0,u_ 0,u_ 0,u_ 0] 69]) (λb1 b2 b3=>[]) (λ_ _ _=>T0) (λ_ _ _=>by kernel_rfl) (λb1 b2 b3=>trivial) ?_)
 intro b1 b2 b3
 refine aC<|jI [.ld 0,.ld 1,.cq<|.tuple #[.agg (dI<|bP a b).toArray,u_<|vk a b],.al,.st 3] [] (λb4=>[(5,p_ b4)]) (λb4=>[]) (λb4=>aA b4 (dI<|bP a b) 69) (λb4=>o1<|qw<|WL a b) ?_
 intro b4
 refine aC<|bL [.ld 3,.st 2] [] [(2,aA b3 (dI<|bP a b) 69)]<|aF<|ez 2 (dI<|bP a b) ?_
 rfl
theorem uF(x y:Int)(w:World):
  CW 37 #[u_ x,u_ y] w (.agg (dI<|aw x y).toArray):=by
 refine aU Tryz.func37 rfl (HS.nil w) (aC<|dM [.al] [] (λb1=>[(4,p_ b1)]) (λ_=>[]) (λb1=>aA b1 [u_ 0,u_ 0,u_ 0,u_ 0] 69) ?_)
 intro b1
 refine aC<|iI [.p,.cq<|.agg (dI<|cM x).toArray,.al,.st 1] [1,4,5] (λb2=>[(1,u_ y),(4,p_ b1),(5,p_ b2)]) (λb2=>[aA b1 [u_ 0,u_ 0,u_ 0,u_ 0] 69,aA b2 (dI<|cM x) 69]) (λb2=>[b2]) (λ_=>(λκ=>κ.call 55 [u_ x] (.agg (dI<|cM x).toArray)∧True)) (λ_=>by kernel_rfl) (λb2=>⟨(λw s=>xw x w),trivial⟩) ?_
 intro b2
 refine aC<|iI [.p,.cq<|.agg (dI<|cM y).toArray,.al,.st 2] [4,5,6] (λb3=>[(4,p_ b1),(5,p_ b2),(6,p_ b3)]) (λb3=>[aA b1 [u_ 0,u_ 0,u_ 0,u_ 0] 69,aA b2 (dI<|cM x) 69,aA b3 (dI<|cM y) 69]) (λb3=>[b3]) (λ_=>(λκ=>κ.call 55 [u_ y] (.agg (dI<|cM y).toArray)∧True)) (λ_=>by kernel_rfl) (λb3=>⟨(λw s=>xw y w),trivial⟩) ?_
 intro b3
 refine aC<|dM [.al,.st 3] [] (λb4=>[(5,p_ b2),(6,p_ b3),(7,p_ b4)]) (λ_=>[]) (λb4=>aA b4 [u_ 0,u_ 0,u_ 0,u_ 0] 69) ?_
 intro b4
 refine aD<|aE [(17,i_ 0)]<|aR<|i4 400<|cd (m:=399)<|aE [(18,b_ true)]<|aD<|iw rfl (az<|aR<|aE [(8,i_ 0)]<|aE [(4,p_ b1),(5,p_ b2),(6,p_ b3),(7,p_ b4),(17,i_ 0),(8,i_ 0),(20,i_ 0)]<|aR<|i4 400<|cd (m:=399)<|aE [(21,b_ true)]<|aD<|iw rfl (az<|aR<|aE [(9,i_ 0)]<|aD<|kN [.ld 1,.ld 2] [0,1,2,3,4,5,6,7] [(9,i_ 0),(10,u_<|sj x y)]<|aC<|dM [.al,.st 4] [] (λb5=>[(10,u_<|sj x y),(11,p_ b5)]) (λ_=>[]) (λb5=>aA b5 [u_ 0,u_ 0,u_ 0,u_ 0] 69) ?_))
 intro b5
 refine aC<|bL [.st 4] [] [(4,aA b5 [u_<|(sj x y).tmod 4294967296,u_ 0,u_ 0,u_ 0] 69)]<|aC<|bL [.st 4] [] [(4,aA b5 (dI<|qA x y) 69)]<|aM<|gJ [.ld 3,.ld 4,.cq<|.agg (dI<|mA x y).toArray,.st 3] [] [] [(3,aA b4 (dI<|mA x y) 69)] (o1<|qw<|pX (⟨0,0,0,0⟩:N4)<|qA x y)<|bZ [(20,i_ 1)]<|cd (m:=398)<|aE [(21,b_ true)]<|aD<|iw rfl (az<|aR<|aE [(9,i_ 1)]<|aD<|kN [.ld 1,.ld 2] [0,1,2,3,4,5,6,7] [(20,i_ 1),(9,i_ 1),(10,u_<|sq x y)]<|aC<|dM [.al,.st 5] [] (λb6=>[(10,u_<|sq x y),(11,p_ b6)]) (λ_=>[]) (λb6=>aA b6 [u_ 0,u_ 0,u_ 0,u_ 0] 69) ?_)
 intro b6
 refine aC<|bL [.st 5] [] [(5,aA b6 [u_ 0,u_<|(sq x y).tmod 4294967296,u_ 0,u_ 0] 69)]<|aC<|gl [.st 5] [] [(11,p_ b6)] [(5,aA b6 (dI<|qB x y) 69)]<|aM<|gJ [.ld 3,.ld 5,.cq<|.agg (dI<|mB x y).toArray,.st 3] [] [] [(3,aA b4 (dI<|mB x y) 69)] (o1<|qw<|pX (mA x y)<|qB x y)<|(bZ [(20,i_ 2)]<|cd (m:=397)<|aE [(21,b_ false)]<|aD<|oW rfl (bg<|bZ [(17,i_ 1)]<|cd (m:=398)<|aE [(18,b_ true)]<|aD<|iw rfl (az<|aR<|aC<|da [] [(4,p_ b1),(5,p_ b2),(6,p_ b3),(7,p_ b4),(17,i_ 1),(8,i_ 1)]<|aE [(20,i_ 0)]<|aR<|i4 400<|cd (m:=399)<|aE [(21,b_ true)]<|aD<|iw rfl (az<|aR<|aE [(9,i_ 0)]<|aD<|kN [.ld 1,.ld 2] [0,1,2,3,4,5,6,7] [(20,i_ 0),(9,i_ 0),(10,u_<|tA x y)]<|aC<|dM [.al,.st 6] [] (λb7=>[(10,u_<|tA x y),(11,p_ b7)]) (λ_=>[]) (λb7=>aA b7 [u_ 0,u_ 0,u_ 0,u_ 0] 69) ?_))))
 intro b7
 refine aC<|bL [.st 6] [] [(6,aA b7 [u_ 0,u_<|(tA x y).tmod 4294967296,u_ 0,u_ 0] 69)]<|aC<|gl [.st 6] [] [(11,p_ b7)] [(6,aA b7 (dI<|yO x y) 69)]<|aM<|gJ [.ld 3,.ld 6,.cq<|.agg (dI<|yP x y).toArray,.st 3] [] [] [(3,aA b4 (dI<|yP x y) 69)] (o1<|qw<|pX (mB x y)<|yO x y)<|(bZ [(20,i_ 1)]<|cd (m:=398)<|aE [(21,b_ true)]<|aD<|iw rfl (az<|aR<|aE [(9,i_ 1)]<|aD<|kN [.ld 1,.ld 2] [0,1,2,3,4,5,6,7] [(20,i_ 1),(9,i_ 1),(10,u_<|rI x y)]<|aC<|dM [.al,.st 7] [] (λb8=>[(10,u_<|rI x y),(11,p_ b8)]) (λ_=>[]) (λb8=>aA b8 [u_ 0,u_ 0,u_ 0,u_ 0] 69) ?_))
 intro b8
 refine aC<|CC [.st 7] [(4,p_ b1),(5,p_ b2),(6,p_ b3),(7,p_ b4),(17,i_ 1),(8,i_ 1),(20,i_ 1),(9,i_ 1),(10,u_<|rI x y),(11,p_ b8)] [(7,aA b8 [u_ 0,u_ 0,u_<|(rI x y).tmod 4294967296,u_ 0] 69)]<|aC<|bL [.st 7] [] [(7,aA b8 (dI<|qD x y) 69)]<|aM<|gJ [.ld 3,.ld 7,.cq<|.agg (dI<|aw x y).toArray,.st 3] [] [] [(3,aA b4 (dI<|aw x y) 69)] (o1<|qw<|pX (yP x y)<|qD x y)<|bZ [(20,i_ 2)]<|cd (m:=397)<|aE [(21,b_ false)]<|aD<|oW rfl (bg<|bZ [(17,i_ 2)]<|cd (m:=397)<|aC<|da [] [(4,p_ b1),(5,p_ b2),(6,p_ b3),(7,p_ b4),(17,i_ 2),(18,b_ false)]<|aD<|oW rfl (bg<|aC<|bL [.ld 3,.st 0] [] [(0,aA b1 (dI<|aw x y) 69)]<|aF<|ez 0 (dI<|aw x y) ?_))
 rfl
def eU(a b c t:Int):N4:=if bD a b c=0 then⟨0,0,0,0⟩ else if t≤b then aw a t else bP (aw a b)<|aw c<|IntKind.u64.wrap<|t-b
theorem kD(a b c:Int)(w:World):
  CW 15 #[.agg #[u_ a,u_ b,u_ c]] w (i_<|bD a b c):=by
 refine aU Tryz.func15 rfl (HS.nil w) (aC<|dL [.al] [] (λb1=>[(1,p_ b1)]) (λb1=>aA b1 [u_ a,u_ b,u_ c] 60) ?_)
 intro b1
 refine aE [(3,u_ 4294967295)]<|bS<|bB [.ld 0,.o,.ld 0,.cl,.o,.ld 0,.cl] [(18,b_<|((decide (a>4294967295))||(decide (c>4294967295)))||(decide (b>1048576)))]<|aL rfl (λe1=>?_) (λe1=>?_)
 ·refine aE [(2,i_ 0)]<|aF<|bJ [i_ 0] ?_
  refine congrArg (Value.int .i64) ?_;unfold bD;grind[bV]
 refine aO<|bS<|bB [.ld 0,.o,.ld 0,.cl,.o,.ld 0,.cl] [(31,b_<|((a==0)&&(c==0))&&(b==0))]<|aL rfl (λe2=>?_) (λe2=>?_)
 ·refine aE [(2,i_ 1)]<|aF<|bJ [i_ 1] ?_
  refine congrArg (Value.int .i64) ?_;unfold bD;grind[bV]
 refine aO<|bS<|bB [.ld 0,.o,.ld 0,.ld 0,.cl] [(41,b_<|(b==0)&&(a==c))]<|aL rfl (λe3=>?_) (λe3=>?_)
 ·refine aE [(2,i_ 2)]<|aF<|bJ [i_ 2] ?_
  refine congrArg (Value.int .i64) ?_;unfold bD;grind[bV]
 refine aO<|bS<|bB [.ld 0] [(44,b_<|b==0)]<|iD (b==0) (λe4=>?_)<|λe4=>?_
 ·refine aE [(2,i_ 0)]<|aF<|bJ [i_ 0] ?_
  refine congrArg (Value.int .i64) ?_;unfold bD;grind[bV]
 refine aO<|bS<|bB [.ld 0,.ld 0] [(49,b_<|decide (a>c))]<|aL rfl (λe5=>?_) (λe5=>?_)
 ·have p5:=Zg e5
  refine aE [(2,i_ 3)]<|aF<|bJ [i_ 3] ?_
  refine congrArg (Value.int .i64) ?_;unfold bD;grind[bV]
 have p5:=Zh e5
 refine aO<|bS<|bB [.ld 0,.o,.ld 0,.cl] [(57,b_<|(a==0)&&(decide (c>0)))]<|aL rfl (λe6=>?_) (λe6=>?_)
 ·refine aE [(2,i_ 4)]<|aF<|bJ [i_ 4] ?_
  refine congrArg (Value.int .i64) ?_;unfold bD;grind[bV]
 refine aO<|aE [(2,i_ 0)]<|aF<|bJ [i_ 0] ?_
 refine congrArg (Value.int .i64) ?_;unfold bD;grind[bV]
theorem WM(a b c t:Int)(w:World):
  CW 166 #[.agg #[u_ a,u_ b,u_ c],u_ t] w (.agg #[u_<|(eU a b c t).nn1,u_<|(eU a b c t).nn2,u_<|(eU a b c t).nn3,u_<|(eU a b c t).nn4]):=by
 refine aU Tryz.func166 rfl (HS.nil w) (aC<|iK [.al,.al] [] (λb1 b2=>[(2,p_ b1),(4,p_ b2)]) (λb1 b2=>[aA b1 [u_ a,u_ b,u_ c] 60,aA b2 [u_ 0,u_ 0,u_ 0,u_ 0] 69]) ?_)
 intro b1 b2
 refine aD<|dF [.ld 0,.cq<|i_<|bD a b c] [(7,b_<|(bD a b c)==0)] (o1<|qw<|kD a b c)<|aL rfl (λe1=>?_) (λe1=>?_)
 ·refine aC<|bL [.st 1] [] []<|aF<|ez 1 [u_ 0,u_ 0,u_ 0,u_ 0] ?_
  show((.agg #[u_ 0,u_ 0,u_ 0,u_ 0]):Value)=(.agg #[u_<|(eU a b c t).nn1,u_<|(eU a b c t).nn2,u_<|(eU a b c t).nn3,u_<|(eU a b c t).nn4])
  unfold eU;grind
 refine aO<|bS<|bB [.ld 0] [(12,b_<|decide (t≤b))]<|aL rfl (λe2=>?_) (λe2=>?_)
 ·have p2:=Zg e2
  refine aC<|gJ [.ld 0,.cq<|.agg #[u_<|(aw a t).nn1,u_<|(aw a t).nn2,u_<|(aw a t).nn3,u_<|(aw a t).nn4],.st 1] [] [] [(1,aA b2 [u_<|(aw a t).nn1,u_<|(aw a t).nn2,u_<|(aw a t).nn3,u_<|(aw a t).nn4] 69)] (o1<|qw<|uF a t)<|aF<|ez 1 [u_<|(aw a t).nn1,u_<|(aw a t).nn2,u_<|(aw a t).nn3,u_<|(aw a t).nn4] ?_
  show((.agg #[u_<|(aw a t).nn1,u_<|(aw a t).nn2,u_<|(aw a t).nn3,u_<|(aw a t).nn4]):Value)=(.agg #[u_<|(eU a b c t).nn1,u_<|(eU a b c t).nn2,u_<|(eU a b c t).nn3,u_<|(eU a b c t).nn4])
  unfold eU;grind
 have p2:=Zh e2
 refine aO<|aD<|bY [13] 14<|eR 1 [.ld 0,.ld 0,.cq<|.agg #[u_<|(aw a b).nn1,u_<|(aw a b).nn2,u_<|(aw a b).nn3,u_<|(aw a b).nn4],.ld 0,.ld 0,.cq<|.agg #[u_<|(aw c<|wU<|t-b).nn1,u_<|(aw c<|wU<|t-b).nn2,u_<|(aw c<|wU<|t-b).nn3,u_<|(aw c<|wU<|t-b).nn4],.cq<|.agg #[u_<|(bP (aw a b)<|aw c<|wU<|t-b).nn1,u_<|(bP (aw a b)<|aw c<|wU<|t-b).nn2,u_<|(bP (aw a b)<|aw c<|wU<|t-b).nn3,u_<|(bP (aw a b)<|aw c<|wU<|t-b).nn4]] (rg 0 13) [(29,.agg #[u_<|(bP (aw a b)<|aw c<|wU<|t-b).nn1,u_<|(bP (aw a b)<|aw c<|wU<|t-b).nn2,u_<|(bP (aw a b)<|aw c<|wU<|t-b).nn3,u_<|(bP (aw a b)<|aw c<|wU<|t-b).nn4])] (oc (qw<|uF a b)<|oc (qw<|uF c<|wU<|t-b)<|o1<|qw<|pX (aw a b)<|aw c<|wU<|t-b)<|bF 13 rfl (dQ 1 [u_<|(bP (aw a b)<|aw c<|wU<|t-b).nn1,u_<|(bP (aw a b)<|aw c<|wU<|t-b).nn2,u_<|(bP (aw a b)<|aw c<|wU<|t-b).nn3,u_<|(bP (aw a b)<|aw c<|wU<|t-b).nn4] rfl (cb<|eN<|aF<|fE [.agg #[u_<|(bP (aw a b)<|aw c<|wU<|t-b).nn1,u_<|(bP (aw a b)<|aw c<|wU<|t-b).nn2,u_<|(bP (aw a b)<|aw c<|wU<|t-b).nn3,u_<|(bP (aw a b)<|aw c<|wU<|t-b).nn4]] (λ_ w r s=>⟨tQ (vs:=[u_<|(bP (aw a b)<|aw c<|wU<|t-b).nn1,u_<|(bP (aw a b)<|aw c<|wU<|t-b).nn2,u_<|(bP (aw a b)<|aw c<|wU<|t-b).nn3,u_<|(bP (aw a b)<|aw c<|wU<|t-b).nn4]) r s rfl (by kernel_rfl) (jL (i:=1) rfl rfl),trivial⟩) ?_))
 show((.agg #[u_<|(bP (aw a b)<|aw c<|IntKind.u64.wrap<|t-b).nn1,u_<|(bP (aw a b)<|aw c<|IntKind.u64.wrap<|t-b).nn2,u_<|(bP (aw a b)<|aw c<|IntKind.u64.wrap<|t-b).nn3,u_<|(bP (aw a b)<|aw c<|IntKind.u64.wrap<|t-b).nn4]):Value)=(.agg #[u_<|(eU a b c t).nn1,u_<|(eU a b c t).nn2,u_<|(eU a b c t).nn3,u_<|(eU a b c t).nn4])
 unfold eU;grind
abbrev uG(p0)(p1)(p2)(p3):=(.agg #[u_ p0,u_ p1,u_ p2,u_ p3]:Value)
abbrev sE(p0)(p1)(p2)(p3)(p4):=(aA p0 [u_ p1,u_ p2,u_ p3,u_ p4] 69:V.aI)
abbrev pe(p0):=(aA p0 [u_ 0,u_ 0,u_ 0,u_ 0] 69:V.aI)
theorem WN(al:k0)(l:List Cv)(cl:Nat)(t:Int)(hl:l.length≤100000)(w:World)(r0:dR w al (V.aP de l))(hs:HI w []):
  CV 126 #[vS al l cl,u_ t] w [] (λ((o1,o2,o3,o4):Int×Int×Int×Int)=>(uG o1 o2 o3 o4)) (λ_=>True) λ_=>[]:=by
 refine aU Tryz.func126 rfl hs (aC<|dM [.al] [] (λb1=>[(4,p_ b1)]) (λ_=>[]) (λb1=>pe b1) ?_)
 intro b1
 refine aC<|dM [.al,.st 1] [] (λb2=>[(5,p_ b2)]) (λ_=>[]) (λb2=>pe b2) ?_
 intro b2
 refine aD<|aE [(9,vS al l cl),(10,c_ l.length),(11,i_ 0)]<|aR<|fY (λ((k,o1,o2,o3,o4):Nat×Int×Int×Int×Int)=>[(1,u_ t),(4,p_ b1),(5,p_ b2),(9,vS al l cl),(10,c_ l.length),(11,c_ k)]) (λ((k,o1,o2,o3,o4):Nat×Int×Int×Int×Int)=>[sE b2 o1 o2 o3 o4,pe b1]) (λ((k,o1,o2,o3,o4):Nat×Int×Int×Int×Int)=>(k≤l.length)) (λ((k,o1,o2,o3,o4):Nat×Int×Int×Int×Int)=>l.length-k) (0,0,0,0,0) (by omega) ?_ ?_
 ·exact bw [1,0] ⟨rfl,rfl,rfl,rfl,rfl,rfl,trivial⟩<|by kernel_rfl
 rintro⟨k,o1,o2,o3,o4⟩ hk
 have hk:k≤l.length:=hk
 refine dW [(1,u_ t),(4,p_ b1),(5,p_ b2),(9,vS al l cl),(10,c_ l.length),(11,c_ k)] [sE b2 o1 o2 o3 o4,pe b1] ⟨rfl,rfl,rfl,rfl,rfl,rfl,trivial⟩ rfl (aE [(11,c_ k),(12,b_<|decide ((k:Int)<(l.length:Int)))]<|aD<|aL (E:=decide ((k:Int)<(l.length:Int))) rfl (λe1=>?_) (λe1=>?_))
 ·have p1:=Zg e1
  refine az<|aR<|aC<|Gk [.ix] [(1,u_ t),(4,p_ b1),(5,p_ b2),(9,vS al l cl),(10,c_ l.length),(11,c_ k),(13,.pointer<|some<|(au al).add (k*3))] [] (λκ=>κ.ix al l.length (k:Int)∧True) (by kernel_rfl) ⟨dh pL (by decide) (cL r0<|by simp[aN])<|by omega,trivial⟩ ?_
  obtain⟨x3,hx3⟩: ∃x,(l)[k]? =some x:=⟨_,Ze<|by omega⟩
  refine iI [.rd<|de x3,.al,.st 2] [1,4,5,9,10,11,7] (λb4=>[(1,u_ t),(4,p_ b1),(5,p_ b2),(9,vS al l cl),(10,c_ l.length),(11,c_ k),(7,p_ b4)]) (λb4=>[sE b2 o1 o2 o3 o4,pe b1,aA b4 (de x3) 60]) (λb4=>[b4]) (λ_=>(λκ=>κ.rd ((au al).add (k*3)) (de x3)∧True)) (λ_=>by kernel_rfl) (λb4=>⟨dr (vs:=(de x3)) pL (cL r0<|by simp[aN]) hx3 (Nat.le_of_ble_eq_true rfl) rfl,trivial⟩) ?_
  intro b4
  refine bY [5] 6<|Bq 1 [.ld 0,.ld 2,.p,.cq<|.agg #[u_<|(eU x3.ka x3.kb x3.kc t).nn1,u_<|(eU x3.ka x3.kb x3.kc t).nn2,u_<|(eU x3.ka x3.kb x3.kc t).nn3,u_<|(eU x3.ka x3.kb x3.kc t).nn4],.cq<|.agg #[u_<|(bP (⟨o1,o2,o3,o4⟩:N4)<|eU x3.ka x3.kb x3.kc t).nn1,u_<|(bP (⟨o1,o2,o3,o4⟩:N4)<|eU x3.ka x3.kb x3.kc t).nn2,u_<|(bP (⟨o1,o2,o3,o4⟩:N4)<|eU x3.ka x3.kb x3.kc t).nn3,u_<|(bP (⟨o1,o2,o3,o4⟩:N4)<|eU x3.ka x3.kb x3.kc t).nn4]] [0,1,2,3,4] [(1,u_ t),(4,p_ b1),(5,p_ b2),(9,vS al l cl),(10,c_ l.length),(11,c_ k),(19,.agg #[u_<|(bP (⟨o1,o2,o3,o4⟩:N4)<|eU x3.ka x3.kb x3.kc t).nn1,u_<|(bP (⟨o1,o2,o3,o4⟩:N4)<|eU x3.ka x3.kb x3.kc t).nn2,u_<|(bP (⟨o1,o2,o3,o4⟩:N4)<|eU x3.ka x3.kb x3.kc t).nn3,u_<|(bP (⟨o1,o2,o3,o4⟩:N4)<|eU x3.ka x3.kb x3.kc t).nn4])] [b2,b4] (λκ=>κ.call 166 [.agg (de x3).toArray,u_ t] (.agg #[u_<|(eU x3.ka x3.kb x3.kc t).nn1,u_<|(eU x3.ka x3.kb x3.kc t).nn2,u_<|(eU x3.ka x3.kb x3.kc t).nn3,u_<|(eU x3.ka x3.kb x3.kc t).nn4])∧κ.call 54 [uG o1 o2 o3 o4,.agg #[u_<|(eU x3.ka x3.kb x3.kc t).nn1,u_<|(eU x3.ka x3.kb x3.kc t).nn2,u_<|(eU x3.ka x3.kb x3.kc t).nn3,u_<|(eU x3.ka x3.kb x3.kc t).nn4]] (.agg #[u_<|(bP (⟨o1,o2,o3,o4⟩:N4)<|eU x3.ka x3.kb x3.kc t).nn1,u_<|(bP (⟨o1,o2,o3,o4⟩:N4)<|eU x3.ka x3.kb x3.kc t).nn2,u_<|(bP (⟨o1,o2,o3,o4⟩:N4)<|eU x3.ka x3.kb x3.kc t).nn3,u_<|(bP (⟨o1,o2,o3,o4⟩:N4)<|eU x3.ka x3.kb x3.kc t).nn4])∧True) (by kernel_rfl) ⟨(λw s=>WM x3.ka x3.kb x3.kc t w),(λw s=>pX (⟨o1,o2,o3,o4⟩:N4) (eU x3.ka x3.kb x3.kc t) w),trivial⟩<|bF 5 rfl (dQ 0 [u_<|(bP (⟨o1,o2,o3,o4⟩:N4)<|eU x3.ka x3.kb x3.kc t).nn1,u_<|(bP (⟨o1,o2,o3,o4⟩:N4)<|eU x3.ka x3.kb x3.kc t).nn2,u_<|(bP (⟨o1,o2,o3,o4⟩:N4)<|eU x3.ka x3.kb x3.kc t).nn3,u_<|(bP (⟨o1,o2,o3,o4⟩:N4)<|eU x3.ka x3.kb x3.kc t).nn4] rfl (dV<|aM<|tC [.w<|(k:Int)+1] [(1,u_ t),(4,p_ b1),(5,p_ b2),(9,vS al l cl),(10,c_ l.length),(11,i_<|(k:Int)+1)] (λκ=>(IntKind.i64.wrap ((k:Int)+1)=((k:Int)+1))∧True) ⟨nB (e:=(k:Int)+1) (by constructor<;>omega),trivial⟩<|bN (k+1,(bP (⟨o1,o2,o3,o4⟩:N4)<|eU x3.ka x3.kb x3.kc t).nn1,(bP (⟨o1,o2,o3,o4⟩:N4)<|eU x3.ka x3.kb x3.kc t).nn2,(bP (⟨o1,o2,o3,o4⟩:N4)<|eU x3.ka x3.kb x3.kc t).nn3,(bP (⟨o1,o2,o3,o4⟩:N4)<|eU x3.ka x3.kb x3.kc t).nn4) (by omega) (by(simp;omega)) ?_))
  exact bw [0,0] ⟨rfl,rfl,rfl,rfl,rfl,rfl,trivial⟩<|by kernel_rfl
 have p1:=Zh e1
 refine bg<|aC<|bL [.ld 0,.st 1] [] [(1,sE b1 o1 o2 o3 o4)]<|aF<|cP [] [uG o1 o2 o3 o4] (λ_ w r s=>⟨dS 1 r s,trivial⟩) (o1,o2,o3,o4) ?_ ?_<|by kernel_rfl
 ·rfl
 trivial
abbrev BH(p0)(p1)(p2)(p3)(p4:List Cv)(p5)(p6):=([(1,b_ p0),(4,p_ p1),(5,p_ p2),(10,vS p3 p4 p5),(11,c_ p4.length),(12,i_<|(p6:Int)+1)]:aT)
theorem WO(al:k0)(l:List Cv)(cl:Nat)(st:Bool)(hl:l.length≤100000)(w:World)(r0:dR w al (V.aP de l))(hs:HI w []):
  CV 127 #[vS al l cl,b_ st] w [] (λ((o1,o2,o3,o4):Int×Int×Int×Int)=>(uG o1 o2 o3 o4)) (λ_=>True) λ_=>[]:=by
 refine aU Tryz.func127 rfl hs (aC<|dM [.al] [] (λb1=>[(4,p_ b1)]) (λ_=>[]) (λb1=>pe b1) ?_)
 intro b1
 refine aC<|dM [.al,.st 1] [] (λb2=>[(5,p_ b2)]) (λ_=>[]) (λb2=>pe b2) ?_
 intro b2
 refine aD<|aE [(10,vS al l cl),(11,c_ l.length),(12,i_ 0)]<|aR<|fY (λ((k,o1,o2,o3,o4):Nat×Int×Int×Int×Int)=>[(1,b_ st),(4,p_ b1),(5,p_ b2),(10,vS al l cl),(11,c_ l.length),(12,c_ k)]) (λ((k,o1,o2,o3,o4):Nat×Int×Int×Int×Int)=>[sE b2 o1 o2 o3 o4,pe b1]) (λ((k,o1,o2,o3,o4):Nat×Int×Int×Int×Int)=>(k≤l.length)) (λ((k,o1,o2,o3,o4):Nat×Int×Int×Int×Int)=>l.length-k) (0,0,0,0,0) (by omega) ?_ ?_
 ·exact bw [1,0] ⟨rfl,rfl,rfl,rfl,rfl,rfl,trivial⟩<|by kernel_rfl
 rintro⟨k,o1,o2,o3,o4⟩ hk
 have hk:k≤l.length:=hk
 refine dW [(1,b_ st),(4,p_ b1),(5,p_ b2),(10,vS al l cl),(11,c_ l.length),(12,c_ k)] [sE b2 o1 o2 o3 o4,pe b1] ⟨rfl,rfl,rfl,rfl,rfl,rfl,trivial⟩ rfl (aE [(12,c_ k),(13,b_<|decide ((k:Int)<(l.length:Int)))]<|aD<|aL (E:=decide ((k:Int)<(l.length:Int))) rfl (λe1=>?_) (λe1=>?_))
 ·have p1:=Zg e1
  refine az<|aR<|aC<|Gk [.ix] [(1,b_ st),(4,p_ b1),(5,p_ b2),(10,vS al l cl),(11,c_ l.length),(12,c_ k),(14,.pointer<|some<|(au al).add (k*3))] [] (λκ=>κ.ix al l.length (k:Int)∧True) (by kernel_rfl) ⟨dh pL (by decide) (cL r0<|by simp[aN])<|by omega,trivial⟩ ?_
  obtain⟨x3,hx3⟩: ∃x,(l)[k]? =some x:=⟨_,Ze<|by omega⟩
  refine iI [.rd<|de x3,.al,.st 2] [1,4,5,10,11,12,7] (λb4=>[(1,b_ st),(4,p_ b1),(5,p_ b2),(10,vS al l cl),(11,c_ l.length),(12,c_ k),(7,p_ b4)]) (λb4=>[sE b2 o1 o2 o3 o4,pe b1,aA b4 (de x3) 60]) (λb4=>[b4]) (λ_=>(λκ=>κ.rd ((au al).add (k*3)) (de x3)∧True)) (λ_=>by kernel_rfl) (λb4=>⟨dr (vs:=(de x3)) pL (cL r0<|by simp[aN]) hx3 (Nat.le_of_ble_eq_true rfl) rfl,trivial⟩) ?_
  intro b4
  refine aC<|bB [.ld 2] [(7,p_ b4),(8,u_ x3.kc)]<|bS<|bB [.o,.ld 2,.cl] [(4,p_ b1),(5,p_ b2),(10,vS al l cl),(11,c_ l.length),(12,c_ k),(7,p_ b4),(8,u_ x3.kc),(24,b_<|st&&(decide (x3.ka>x3.kc)))]<|aL (E:=st&&(decide (x3.ka>x3.kc))) rfl (λe2=>?_) (λe2=>?_)
  ·refine aM<|bB [.ld 2] [(8,u_ x3.ka)]<|aC<|tC [.ld 2,.cq<|i_<|bD x3.ka x3.kb x3.kc] [(1,b_ st),(4,p_ b1),(5,p_ b2),(10,vS al l cl),(11,c_ l.length),(12,c_ k),(8,u_ x3.ka),(29,b_<|(bD x3.ka x3.kb x3.kc)!=0)] (λκ=>κ.call 15 [.agg (de x3).toArray] (i_<|bD x3.ka x3.kb x3.kc)∧True) ⟨(λw s=>kD x3.ka x3.kb x3.kc w),trivial⟩<|aL (E:=(bD x3.ka x3.kb x3.kc)!=0) rfl (λe3=>?_) (λe3=>?_)
   ·refine bY [4] 5<|Bq 1 [.ld 0,.p,.cq<|.agg #[u_<|(cM x3.ka).nn1,u_<|(cM x3.ka).nn2,u_<|(cM x3.ka).nn3,u_<|(cM x3.ka).nn4],.cq<|.agg #[u_<|(bP (⟨o1,o2,o3,o4⟩:N4)<|cM x3.ka).nn1,u_<|(bP (⟨o1,o2,o3,o4⟩:N4)<|cM x3.ka).nn2,u_<|(bP (⟨o1,o2,o3,o4⟩:N4)<|cM x3.ka).nn3,u_<|(bP (⟨o1,o2,o3,o4⟩:N4)<|cM x3.ka).nn4]] [0,1,2,3] [(1,b_ st),(4,p_ b1),(5,p_ b2),(10,vS al l cl),(11,c_ l.length),(12,c_ k),(33,.agg #[u_<|(bP (⟨o1,o2,o3,o4⟩:N4)<|cM x3.ka).nn1,u_<|(bP (⟨o1,o2,o3,o4⟩:N4)<|cM x3.ka).nn2,u_<|(bP (⟨o1,o2,o3,o4⟩:N4)<|cM x3.ka).nn3,u_<|(bP (⟨o1,o2,o3,o4⟩:N4)<|cM x3.ka).nn4])] [b2] (λκ=>κ.call 55 [u_ x3.ka] (.agg #[u_<|(cM x3.ka).nn1,u_<|(cM x3.ka).nn2,u_<|(cM x3.ka).nn3,u_<|(cM x3.ka).nn4])∧κ.call 54 [uG o1 o2 o3 o4,.agg #[u_<|(cM x3.ka).nn1,u_<|(cM x3.ka).nn2,u_<|(cM x3.ka).nn3,u_<|(cM x3.ka).nn4]] (.agg #[u_<|(bP (⟨o1,o2,o3,o4⟩:N4)<|cM x3.ka).nn1,u_<|(bP (⟨o1,o2,o3,o4⟩:N4)<|cM x3.ka).nn2,u_<|(bP (⟨o1,o2,o3,o4⟩:N4)<|cM x3.ka).nn3,u_<|(bP (⟨o1,o2,o3,o4⟩:N4)<|cM x3.ka).nn4])∧True) (by kernel_rfl) ⟨(λw s=>xw x3.ka w),(λw s=>pX (⟨o1,o2,o3,o4⟩:N4) (cM x3.ka) w),trivial⟩<|bF 4 rfl (dQ 0 [u_<|(bP (⟨o1,o2,o3,o4⟩:N4)<|cM x3.ka).nn1,u_<|(bP (⟨o1,o2,o3,o4⟩:N4)<|cM x3.ka).nn2,u_<|(bP (⟨o1,o2,o3,o4⟩:N4)<|cM x3.ka).nn3,u_<|(bP (⟨o1,o2,o3,o4⟩:N4)<|cM x3.ka).nn4] rfl (dV<|aM<|tC [.w<|(k:Int)+1] (BH st b1 b2 al l cl k) (λκ=>(IntKind.i64.wrap ((k:Int)+1)=((k:Int)+1))∧True) ⟨nB (e:=(k:Int)+1) (by constructor<;>omega),trivial⟩<|bN (k+1,(bP (⟨o1,o2,o3,o4⟩:N4)<|cM x3.ka).nn1,(bP (⟨o1,o2,o3,o4⟩:N4)<|cM x3.ka).nn2,(bP (⟨o1,o2,o3,o4⟩:N4)<|cM x3.ka).nn3,(bP (⟨o1,o2,o3,o4⟩:N4)<|cM x3.ka).nn4) (by omega) (by(simp;omega)) ?_))
    exact bw [0,0] ⟨rfl,rfl,rfl,rfl,rfl,rfl,trivial⟩<|by kernel_rfl
   refine aO<|aM<|tC [.w<|(k:Int)+1] (BH st b1 b2 al l cl k) (λκ=>(IntKind.i64.wrap ((k:Int)+1)=((k:Int)+1))∧True) ⟨nB (e:=(k:Int)+1) (by constructor<;>omega),trivial⟩<|bN (k+1,o1,o2,o3,o4) (by omega) (by(simp;omega)) ?_
   exact bw [0,0] ⟨rfl,rfl,rfl,rfl,rfl,rfl,trivial⟩<|by kernel_rfl
  refine aO<|aC<|tC [.ld 2,.cq<|i_<|bD x3.ka x3.kb x3.kc] [(1,b_ st),(4,p_ b1),(5,p_ b2),(10,vS al l cl),(11,c_ l.length),(12,c_ k),(8,u_ x3.kc),(29,b_<|(bD x3.ka x3.kb x3.kc)!=0)] (λκ=>κ.call 15 [.agg (de x3).toArray] (i_<|bD x3.ka x3.kb x3.kc)∧True) ⟨(λw s=>kD x3.ka x3.kb x3.kc w),trivial⟩<|aL (E:=(bD x3.ka x3.kb x3.kc)!=0) rfl (λe4=>?_) (λe4=>?_)
  ·refine bY [4] 5<|Bq 1 [.ld 0,.p,.cq<|.agg #[u_<|(cM x3.kc).nn1,u_<|(cM x3.kc).nn2,u_<|(cM x3.kc).nn3,u_<|(cM x3.kc).nn4],.cq<|.agg #[u_<|(bP (⟨o1,o2,o3,o4⟩:N4)<|cM x3.kc).nn1,u_<|(bP (⟨o1,o2,o3,o4⟩:N4)<|cM x3.kc).nn2,u_<|(bP (⟨o1,o2,o3,o4⟩:N4)<|cM x3.kc).nn3,u_<|(bP (⟨o1,o2,o3,o4⟩:N4)<|cM x3.kc).nn4]] [0,1,2,3] [(1,b_ st),(4,p_ b1),(5,p_ b2),(10,vS al l cl),(11,c_ l.length),(12,c_ k),(33,.agg #[u_<|(bP (⟨o1,o2,o3,o4⟩:N4)<|cM x3.kc).nn1,u_<|(bP (⟨o1,o2,o3,o4⟩:N4)<|cM x3.kc).nn2,u_<|(bP (⟨o1,o2,o3,o4⟩:N4)<|cM x3.kc).nn3,u_<|(bP (⟨o1,o2,o3,o4⟩:N4)<|cM x3.kc).nn4])] [b2] (λκ=>κ.call 55 [u_ x3.kc] (.agg #[u_<|(cM x3.kc).nn1,u_<|(cM x3.kc).nn2,u_<|(cM x3.kc).nn3,u_<|(cM x3.kc).nn4])∧κ.call 54 [uG o1 o2 o3 o4,.agg #[u_<|(cM x3.kc).nn1,u_<|(cM x3.kc).nn2,u_<|(cM x3.kc).nn3,u_<|(cM x3.kc).nn4]] (.agg #[u_<|(bP (⟨o1,o2,o3,o4⟩:N4)<|cM x3.kc).nn1,u_<|(bP (⟨o1,o2,o3,o4⟩:N4)<|cM x3.kc).nn2,u_<|(bP (⟨o1,o2,o3,o4⟩:N4)<|cM x3.kc).nn3,u_<|(bP (⟨o1,o2,o3,o4⟩:N4)<|cM x3.kc).nn4])∧True) (by kernel_rfl) ⟨(λw s=>xw x3.kc w),(λw s=>pX (⟨o1,o2,o3,o4⟩:N4) (cM x3.kc) w),trivial⟩<|bF 4 rfl (dQ 0 [u_<|(bP (⟨o1,o2,o3,o4⟩:N4)<|cM x3.kc).nn1,u_<|(bP (⟨o1,o2,o3,o4⟩:N4)<|cM x3.kc).nn2,u_<|(bP (⟨o1,o2,o3,o4⟩:N4)<|cM x3.kc).nn3,u_<|(bP (⟨o1,o2,o3,o4⟩:N4)<|cM x3.kc).nn4] rfl (dV<|aM<|tC [.w<|(k:Int)+1] (BH st b1 b2 al l cl k) (λκ=>(IntKind.i64.wrap ((k:Int)+1)=((k:Int)+1))∧True) ⟨nB (e:=(k:Int)+1) (by constructor<;>omega),trivial⟩<|bN (k+1,(bP (⟨o1,o2,o3,o4⟩:N4)<|cM x3.kc).nn1,(bP (⟨o1,o2,o3,o4⟩:N4)<|cM x3.kc).nn2,(bP (⟨o1,o2,o3,o4⟩:N4)<|cM x3.kc).nn3,(bP (⟨o1,o2,o3,o4⟩:N4)<|cM x3.kc).nn4) (by omega) (by(simp;omega)) ?_))
   exact bw [0,0] ⟨rfl,rfl,rfl,rfl,rfl,rfl,trivial⟩<|by kernel_rfl
  refine aO<|aM<|tC [.w<|(k:Int)+1] (BH st b1 b2 al l cl k) (λκ=>(IntKind.i64.wrap ((k:Int)+1)=((k:Int)+1))∧True) ⟨nB (e:=(k:Int)+1) (by constructor<;>omega),trivial⟩<|bN (k+1,o1,o2,o3,o4) (by omega) (by(simp;omega)) ?_
  exact bw [0,0] ⟨rfl,rfl,rfl,rfl,rfl,rfl,trivial⟩<|by kernel_rfl
 have p1:=Zh e1
 refine bg<|aC<|bL [.ld 0,.st 1] [] [(1,sE b1 o1 o2 o3 o4)]<|aF<|cP [] [uG o1 o2 o3 o4] (λ_ w r s=>⟨dS 1 r s,trivial⟩) (o1,o2,o3,o4) ?_ ?_<|by kernel_rfl
 ·rfl
 trivial
def nM(a:N4)(t:Int):N4:=bP (aw (eK a)<|IntKind.u64.wrap t)<|iR (eK<|aw (fX a)<|IntKind.u64.wrap t) 0
def sV(a:N4)(t k:Int):Bool:= !km (aw 65536 k) (nM a t)
theorem WQ(al:k0)(l:List Cv)(cl:Nat)(hl:l.length≤100000)(w:World)(r0:dR w al (V.aP de l))(hs:HI w []):
  CV 124 #[vS al l cl] w [] (λ((A',xs',c'):(k0)×(Wx)×Nat)=>(vS A' xs' c')) (λ(A',xs',c')=>xs'.length≤l.length) λ(A',xs',c')=>[sl A' (xs'.length) c' 40 1<|V.aP fm xs']:=by
 refine aU Tryz.func124 rfl hs (aE []<|aE [(3,e_)]<|aD<|aE [(10,vS al l cl),(11,c_ l.length),(12,i_ 0)]<|aR<|gW 40 1 [sl none (([]:Wx).length) 0 40 1<|V.aP fm ([]:Wx)] rfl (fY (λ((k,ao,xs,co):Nat×(k0)×(Wx)×Nat)=>[(10,vS al l cl),(11,c_ l.length),(12,c_ k),(3,vS ao xs co)]) (λ((k,ao,xs,co):Nat×(k0)×(Wx)×Nat)=>[sl ao (xs.length) co 40 1<|V.aP fm xs]) (λ((k,ao,xs,co):Nat×(k0)×(Wx)×Nat)=>(k≤l.length)∧(xs.length≤k)) (λ((k,ao,xs,co):Nat×(k0)×(Wx)×Nat)=>l.length-k) (0,none,([]:Wx),0) ⟨(by omega),(by(simp;done))⟩ ?_ ?_))
 ·exact bw [0] ⟨rfl,rfl,rfl,rfl,trivial⟩<|by kernel_rfl
 rintro⟨k,ao,xs,co⟩ ⟨hk,hx⟩
 refine dW [(10,vS al l cl),(11,c_ l.length),(12,c_ k),(3,vS ao xs co)] [sl ao (xs.length) co 40 1<|V.aP fm xs] ⟨rfl,rfl,rfl,rfl,trivial⟩ rfl (aE [(12,c_ k),(3,vS ao xs co),(13,b_<|decide ((k:Int)<(l.length:Int)))]<|aD<|aL (E:=decide ((k:Int)<(l.length:Int))) rfl (λe1=>?_) (λe1=>?_))
 ·have p1:=Zg e1
  refine az<|aR<|aC<|jJ [.ix] [(14,.pointer<|some<|(au al).add (k*3))] (o1<|io (k:Int)<|dh pL (by decide) (cL r0<|by simp[aN])<|by omega) ?_
  obtain⟨x2,hx2⟩: ∃x,(l)[k]? =some x:=⟨_,Ze<|by omega⟩
  refine iI [.rd<|de x2,.al,.st 1] [10,11,12,3,5] (λb3=>[(10,vS al l cl),(11,c_ l.length),(12,c_ k),(3,vS ao xs co),(5,p_ b3)]) (λb3=>[sl ao (xs.length) co 40 1<|V.aP fm xs,aA b3 (de x2) 60]) (λb3=>[b3]) (λ_=>(λκ=>κ.rd ((au al).add (k*3)) (de x2)∧True)) (λ_=>by kernel_rfl) (λb3=>⟨dr (vs:=(de x2)) pL (cL r0<|by simp[aN]) hx2 (Nat.le_of_ble_eq_true rfl) rfl,trivial⟩) ?_
  intro b3
  refine bS<|jK [.ld 1,.cq<|i_<|bD x2.ka x2.kb x2.kc] [(10,vS al l cl),(11,c_ l.length),(12,c_ k),(3,vS ao xs co),(5,p_ b3),(18,b_<|decide ((bD x2.ka x2.kb x2.kc)<3))] (o1<|qw<|kD x2.ka x2.kb x2.kc)<|aL (E:=decide ((bD x2.ka x2.kb x2.kc)<3)) rfl (λe2=>?_) (λe2=>?_)
  ·have p2:=Zg e2
   refine bg<|aM<|aj [.w<|(k:Int)+1] [(12,i_<|(k:Int)+1)] (o1<|wj ((k:Int)+1)<|by omega)<|bN (k+1,ao,xs,co) ⟨(by omega),(by(simp_all<;>omega))⟩ (by(simp;omega)) ?_
   exact bw [0] ⟨rfl,rfl,rfl,rfl,trivial⟩<|by kernel_rfl
  have p2:=Zh e2
  refine aO<|aE [(6,e_)]<|aE [(7,b_ false)]<|aD<|aE [(19,vS ao xs co),(20,c_ xs.length),(21,i_ 0)]<|aR<|gW 40 1 [sl ao (xs.length) co 40 1<|V.aP fm xs,aA b3 (de x2) 60,sl none (([]:Wx).length) 0 40 1<|V.aP fm ([]:Wx)] rfl (fY (λ((j,am,m,cm,bp):Nat×(k0)×(Wx)×Nat×Bool)=>[(10,vS al l cl),(11,c_ l.length),(12,c_ k),(5,p_ b3),(19,vS ao xs co),(20,c_ xs.length),(21,c_ j),(6,vS am m cm),(7,b_ bp)]) (λ((j,am,m,cm,bp):Nat×(k0)×(Wx)×Nat×Bool)=>[sl am (m.length) cm 40 1<|V.aP fm m,sl ao (xs.length) co 40 1<|V.aP fm xs,aA b3 (de x2) 60]) (λ((j,am,m,cm,bp):Nat×(k0)×(Wx)×Nat×Bool)=>(j≤xs.length)∧(m.length+(bif bp then 0 else 1)≤j+1)) (λ((j,am,m,cm,bp):Nat×(k0)×(Wx)×Nat×Bool)=>xs.length-j) (0,none,([]:Wx),0,false) ⟨(by omega),(by(simp;done))⟩ ?_ ?_)
  ·exact bw [2,0,0] ⟨rfl,rfl,rfl,rfl,rfl,rfl,rfl,rfl,rfl,trivial⟩<|by kernel_rfl
  rintro⟨j,am,m,cm,bp⟩ ⟨hj,hm⟩
  refine dW [(10,vS al l cl),(11,c_ l.length),(12,c_ k),(5,p_ b3),(19,vS ao xs co),(20,c_ xs.length),(21,c_ j),(6,vS am m cm),(7,b_ bp)] [sl am (m.length) cm 40 1<|V.aP fm m,sl ao (xs.length) co 40 1<|V.aP fm xs,aA b3 (de x2) 60] ⟨rfl,rfl,rfl,rfl,rfl,rfl,rfl,rfl,rfl,trivial⟩ rfl (aE [(21,c_ j),(6,vS am m cm),(7,b_ bp),(22,b_<|decide ((j:Int)<(xs.length:Int)))]<|aD<|aL (E:=decide ((j:Int)<(xs.length:Int))) rfl (λe3=>?_) (λe3=>?_))
  ·have p3:=Zg e3
   refine az<|aR<|aC<|jJ [.ix] [(23,.pointer<|some<|(au ao).add (j*1))] (o1<|io (j:Int)<|dh rO (by decide) (bW (i:=1) rfl)<|by omega) ?_
   obtain⟨x5,hx5⟩: ∃x,(xs)[j]? =some x:=⟨_,Ze<|by omega⟩
   refine jK [.rd [u_ x5]] [(10,vS al l cl),(11,c_ l.length),(12,c_ k),(5,p_ b3),(19,vS ao xs co),(20,c_ xs.length),(21,c_ j),(6,vS am m cm),(7,b_ bp),(9,u_ x5)] (o1<|ro ((au ao).add (j*1))<|dr (vs:=[u_ x5]) rO (bW (i:=1) rfl) hx5 (Nat.le_of_ble_eq_true rfl) rfl)<|bS<|bB [.o,.ld 2,.cl] [(32,b_<|(!bp)&&(decide (x5≥x2.kb)))]<|aL (E:=(!bp)&&(decide (x5≥x2.kb))) rfl (λe4=>?_) (λe4=>?_)
   ·refine aC<|an 3 [.ld 2] [(33,vS am m cm),(35,u_ x2.kb)]<|aG<|eB 36 (e:=40) [u_ x2.kb] (by kernel_rfl) rfl (λ_=>by kernel_rfl) (λb6=>[sl am (m.length) cm 40 1<|V.aP fm m,sl ao (xs.length) co 40 1<|V.aP fm xs,aA b3 (de x2) 60,aA b6 [u_ x2.kb] 40]) (λ_=>rfl) ?_
    intro b6
    refine aG<|jZ (enc:=fm) (xs:=m) ([x2.kb]) 0 37 (e:=40) (z:=(u_ 0)) (sz:=1) (by_:=8) (by kernel_rfl) rfl rfl rfl (by kernel_rfl) (by kernel_rfl) (by rfl) (by decide) rO zI rfl (ef (i:=3) rfl) (by(simp_all<;>omega)) (λA7 c7=>[sl A7 ((m++([x2.kb])).length) c7 40 1<|V.aP fm<|m++([x2.kb]),sl ao (xs.length) co 40 1<|V.aP fm xs,aA b3 (de x2) 60,aA b6 [u_ x2.kb] 40]) (λ_ _=>rfl) ?_
    intro A7 c7
    refine aQ [(6,vS A7 (m++([x2.kb])) c7)]<|bZ [(7,b_ true)]<|aC<|bB [.ld 2] [(41,b_<|x5 !=x2.kb)]<|aL (E:=x5 !=x2.kb) rfl (λe5=>?_) (λe5=>?_)
    ·refine aM<|k9 [.p,.p] [(10,vS al l cl),(11,c_ l.length),(12,c_ k),(5,p_ b3),(19,vS ao xs co),(20,c_ xs.length),(21,c_ j),(6,vS A7 (m++([x2.kb])) c7),(7,b_ true),(42,vS A7 (m++([x2.kb])) c7),(43,u_ x5)]<|aG<|eB 44 (e:=40) [u_ x5] (by kernel_rfl) rfl (λ_=>by kernel_rfl) (λb8=>[sl A7 ((m++([x2.kb])).length) c7 40 1<|V.aP fm<|m++([x2.kb]),sl ao (xs.length) co 40 1<|V.aP fm xs,aA b3 (de x2) 60,aA b6 [u_ x2.kb] 40,aA b8 [u_ x5] 40]) (λ_=>rfl) ?_
     intro b8
     refine aG<|jZ (enc:=fm) (xs:=m++([x2.kb])) ([x5]) 0 45 (e:=40) (z:=(u_ 0)) (sz:=1) (by_:=8) (by kernel_rfl) rfl rfl rfl (by kernel_rfl) (by kernel_rfl) (by rfl) (by decide) rO zI rfl (ef (i:=4) rfl) (by(simp_all<;>omega)) (λA9 c9=>[sl A9 (((m++([x2.kb]))++([x5])).length) c9 40 1<|V.aP fm<|(m++([x2.kb]))++([x5]),sl ao (xs.length) co 40 1<|V.aP fm xs,aA b3 (de x2) 60,aA b6 [u_ x2.kb] 40,aA b8 [u_ x5] 40]) (λ_ _=>rfl) ?_
     intro A9 c9
     refine aQ [(6,vS A9 ((m++([x2.kb]))++([x5])) c9)]<|aM<|aj [.w<|(j:Int)+1] [(21,i_<|(j:Int)+1)] (o1<|wj ((j:Int)+1)<|by omega)<|bN (j+1,A9,(m++([x2.kb]))++([x5]),c9,true) ⟨(by omega),(by(simp_all<;>omega))⟩ (by(simp;omega)) ?_
     exact bw [0,0,0] ⟨rfl,rfl,rfl,rfl,rfl,rfl,rfl,rfl,rfl,trivial⟩<|by kernel_rfl
    refine aO<|aM<|jK [.w<|(j:Int)+1] [(10,vS al l cl),(11,c_ l.length),(12,c_ k),(5,p_ b3),(19,vS ao xs co),(20,c_ xs.length),(21,i_<|(j:Int)+1),(6,vS A7 (m++([x2.kb])) c7),(7,b_ true)] (o1<|wj ((j:Int)+1)<|by omega)<|bN (j+1,A7,m++([x2.kb]),c7,true) ⟨(by omega),(by(simp_all<;>omega))⟩ (by(simp;omega)) ?_
    exact bw [0,0,0] ⟨rfl,rfl,rfl,rfl,rfl,rfl,rfl,rfl,rfl,trivial⟩<|by kernel_rfl
   refine aO<|aC<|bB [.ld 2] [(41,b_<|x5 !=x2.kb)]<|aL (E:=x5 !=x2.kb) rfl (λe6=>?_) (λe6=>?_)
   ·refine aM<|an 2 [] [(42,vS am m cm),(43,u_ x5)]<|aG<|eB 44 (e:=40) [u_ x5] (by kernel_rfl) rfl (λ_=>by kernel_rfl) (λb10=>[sl am (m.length) cm 40 1<|V.aP fm m,sl ao (xs.length) co 40 1<|V.aP fm xs,aA b3 (de x2) 60,aA b10 [u_ x5] 40]) (λ_=>rfl) ?_
    intro b10
    refine aG<|jZ (enc:=fm) (xs:=m) ([x5]) 0 45 (e:=40) (z:=(u_ 0)) (sz:=1) (by_:=8) (by kernel_rfl) rfl rfl rfl (by kernel_rfl) (by kernel_rfl) (by rfl) (by decide) rO zI rfl (ef (i:=3) rfl) (by(simp_all<;>omega)) (λA11 c11=>[sl A11 ((m++([x5])).length) c11 40 1<|V.aP fm<|m++([x5]),sl ao (xs.length) co 40 1<|V.aP fm xs,aA b3 (de x2) 60,aA b10 [u_ x5] 40]) (λ_ _=>rfl) ?_
    intro A11 c11
    refine aQ [(6,vS A11 (m++([x5])) c11)]<|aM<|aj [.w<|(j:Int)+1] [(21,i_<|(j:Int)+1)] (o1<|wj ((j:Int)+1)<|by omega)<|bN (j+1,A11,m++([x5]),c11,bp) ⟨(by omega),(by(simp_all<;>omega))⟩ (by(simp;omega)) ?_
    exact bw [0,0,0] ⟨rfl,rfl,rfl,rfl,rfl,rfl,rfl,rfl,rfl,trivial⟩<|by kernel_rfl
   refine aO<|aM<|aj [.w<|(j:Int)+1] [(21,i_<|(j:Int)+1)] (o1<|wj ((j:Int)+1)<|by omega)<|bN (j+1,am,m,cm,bp) ⟨(by omega),(by(simp_all<;>omega))⟩ (by(simp;omega)) ?_
   exact bw [0,0,0] ⟨rfl,rfl,rfl,rfl,rfl,rfl,rfl,rfl,rfl,trivial⟩<|by kernel_rfl
  have p3:=Zh e3
  refine bg<|aD<|aE [(48,b_ (!bp))]<|aL (E:= !bp) rfl (λe7=>?_) (λe7=>?_)
  ·refine aM<|k9 [.p,.p,.ld 2] [(10,vS al l cl),(11,c_ l.length),(12,c_ k),(6,vS am m cm),(49,vS am m cm),(51,u_ x2.kb)]<|aG<|eB 52 (e:=40) [u_ x2.kb] (by kernel_rfl) rfl (λ_=>by kernel_rfl) (λb12=>[sl am (m.length) cm 40 1<|V.aP fm m,sl ao (xs.length) co 40 1<|V.aP fm xs,aA b3 (de x2) 60,aA b12 [u_ x2.kb] 40]) (λ_=>rfl) ?_
   intro b12
   refine aG<|jZ (enc:=fm) (xs:=m) ([x2.kb]) 0 53 (e:=40) (z:=(u_ 0)) (sz:=1) (by_:=8) (by kernel_rfl) rfl rfl rfl (by kernel_rfl) (by kernel_rfl) (by rfl) (by decide) rO zI rfl (ef (i:=3) rfl) (by(simp_all<;>omega)) (λA13 c13=>[sl A13 ((m++([x2.kb])).length) c13 40 1<|V.aP fm<|m++([x2.kb]),sl ao (xs.length) co 40 1<|V.aP fm xs,aA b3 (de x2) 60,aA b12 [u_ x2.kb] 40]) (λ_ _=>rfl) ?_
   intro A13 c13
   refine aQ [(6,vS A13 (m++([x2.kb])) c13)]<|bZ [(3,vS A13 (m++([x2.kb])) c13)]<|aM<|aj [.w<|(k:Int)+1] [(12,i_<|(k:Int)+1)] (o1<|wj ((k:Int)+1)<|by omega)<|bN (k+1,A13,m++([x2.kb]),c13) ⟨(by omega),(by(simp_all<;>omega))⟩ (by(simp;omega)) ?_
   exact bw [0] ⟨rfl,rfl,rfl,rfl,trivial⟩<|by kernel_rfl
  refine aO<|aM<|da [] [(10,vS al l cl),(11,c_ l.length),(12,c_ k),(3,vS am m cm)]<|aM<|aj [.w<|(k:Int)+1] [(12,i_<|(k:Int)+1)] (o1<|wj ((k:Int)+1)<|by omega)<|bN (k+1,am,m,cm) ⟨(by omega),(by(simp_all<;>omega))⟩ (by(simp;omega)) ?_
  exact bw [0] ⟨rfl,rfl,rfl,rfl,trivial⟩<|by kernel_rfl
 have p1:=Zh e1
 refine bg<|aE [(2,vS ao xs co)]<|aF<|cP [0] [vS ao xs co] (λ_ w r s=>⟨cw r rfl,trivial⟩) (ao,xs,co) ?_ ?_<|by kernel_rfl
 ·rfl
 omega
theorem WR(a:N4)(t:Int)(w:World):
  CW 165 #[.agg #[u_ a.nn1,u_ a.nn2,u_ a.nn3,u_ a.nn4],i_ t] w (.agg #[u_<|(nM a t).nn1,u_<|(nM a t).nn2,u_<|(nM a t).nn3,u_<|(nM a t).nn4]):=by
 refine aU Tryz.func165 rfl (HS.nil w) (aC<|iK [.al,.al] [] (λb1 b2=>[(2,p_ b1),(4,p_ b2)]) (λb1 b2=>[aA b1 [u_ a.nn1,u_ a.nn2,u_ a.nn3,u_ a.nn4] 69,aA b2 [u_ 0,u_ 0,u_ 0,u_ 0] 69]) ?_)
 intro b1 b2
 refine aC<|jI [.ld 0,.cq<|u_<|eK a,.cq<|.agg #[u_<|(aw (eK a)<|wU<|t).nn1,u_<|(aw (eK a)<|wU<|t).nn2,u_<|(aw (eK a)<|wU<|t).nn3,u_<|(aw (eK a)<|wU<|t).nn4],.al,.st 2] [] (λb3=>[(5,p_ b3)]) (λb3=>[]) (λb3=>aA b3 [u_<|(aw (eK a)<|wU<|t).nn1,u_<|(aw (eK a)<|wU<|t).nn2,u_<|(aw (eK a)<|wU<|t).nn3,u_<|(aw (eK a)<|wU<|t).nn4] 69) (λb3=>oc (qw<|GU a)<|o1<|qw<|uF (eK a)<|wU<|t) ?_
 intro b3
 refine aC<|jI [.ld 0,.cq<|u_<|fX a,.cq<|.agg #[u_<|(aw (fX a)<|wU<|t).nn1,u_<|(aw (fX a)<|wU<|t).nn2,u_<|(aw (fX a)<|wU<|t).nn3,u_<|(aw (fX a)<|wU<|t).nn4],.al,.st 3] [] (λb4=>[(6,p_ b4)]) (λb4=>[]) (λb4=>aA b4 [u_<|(aw (fX a)<|wU<|t).nn1,u_<|(aw (fX a)<|wU<|t).nn2,u_<|(aw (fX a)<|wU<|t).nn3,u_<|(aw (fX a)<|wU<|t).nn4] 69) (λb4=>oc (qw<|NS a)<|o1<|qw<|uF (fX a)<|wU<|t) ?_
 intro b4
 refine aD<|bY [5] 6 ?_
 refine eR 1 [.ld 2,.ld 3,.cq<|u_<|eK<|aw (fX a)<|wU<|t,.cq<|.agg #[u_<|(iR (eK<|aw (fX a)<|wU<|t) 0).nn1,u_<|(iR (eK<|aw (fX a)<|wU<|t) 0).nn2,u_<|(iR (eK<|aw (fX a)<|wU<|t) 0).nn3,u_<|(iR (eK<|aw (fX a)<|wU<|t) 0).nn4],.cq<|.agg #[u_<|(bP (aw (eK a)<|wU<|t)<|iR (eK<|aw (fX a)<|wU<|t) 0).nn1,u_<|(bP (aw (eK a)<|wU<|t)<|iR (eK<|aw (fX a)<|wU<|t) 0).nn2,u_<|(bP (aw (eK a)<|wU<|t)<|iR (eK<|aw (fX a)<|wU<|t) 0).nn3,u_<|(bP (aw (eK a)<|wU<|t)<|iR (eK<|aw (fX a)<|wU<|t) 0).nn4]] [0,1,2,3,4] [(21,.agg #[u_<|(bP (aw (eK a)<|wU<|t)<|iR (eK<|aw (fX a)<|wU<|t) 0).nn1,u_<|(bP (aw (eK a)<|wU<|t)<|iR (eK<|aw (fX a)<|wU<|t) 0).nn2,u_<|(bP (aw (eK a)<|wU<|t)<|iR (eK<|aw (fX a)<|wU<|t) 0).nn3,u_<|(bP (aw (eK a)<|wU<|t)<|iR (eK<|aw (fX a)<|wU<|t) 0).nn4])] (oc (qw<|GU<|aw (fX a)<|wU<|t)<|oc (qw<|Ls (eK<|aw (fX a)<|wU<|t) 0)<|o1<|qw<|pX (aw (eK a)<|wU<|t)<|iR (eK<|aw (fX a)<|wU<|t) 0) ?_
 refine bF 5 rfl (dQ 1 [u_<|(bP (aw (eK a)<|wU<|t)<|iR (eK<|aw (fX a)<|wU<|t) 0).nn1,u_<|(bP (aw (eK a)<|wU<|t)<|iR (eK<|aw (fX a)<|wU<|t) 0).nn2,u_<|(bP (aw (eK a)<|wU<|t)<|iR (eK<|aw (fX a)<|wU<|t) 0).nn3,u_<|(bP (aw (eK a)<|wU<|t)<|iR (eK<|aw (fX a)<|wU<|t) 0).nn4] rfl ?_)
 refine dV<|aF<|ez 1 [u_<|(bP (aw (eK a)<|wU<|t)<|iR (eK<|aw (fX a)<|wU<|t) 0).nn1,u_<|(bP (aw (eK a)<|wU<|t)<|iR (eK<|aw (fX a)<|wU<|t) 0).nn2,u_<|(bP (aw (eK a)<|wU<|t)<|iR (eK<|aw (fX a)<|wU<|t) 0).nn3,u_<|(bP (aw (eK a)<|wU<|t)<|iR (eK<|aw (fX a)<|wU<|t) 0).nn4] ?_
 rfl
theorem Lx(a:N4)(t k:Int)(w:World):
  CW 125 #[.agg #[u_ a.nn1,u_ a.nn2,u_ a.nn3,u_ a.nn4],i_ t,u_ k] w (b_<|sV a t k):=by
 refine aU Tryz.func125 rfl (HS.nil w) (aC<|dL [.al] [] (λb1=>[(3,p_ b1)]) (λb1=>aA b1 [u_ a.nn1,u_ a.nn2,u_ a.nn3,u_ a.nn4] 69) ?_)
 intro b1
 refine aD<|jw [.cq<|.agg #[u_<|(aw 65536 k).nn1,u_<|(aw 65536 k).nn2,u_<|(aw 65536 k).nn3,u_<|(aw 65536 k).nn4],.ld 0,.cq<|.agg #[u_<|(nM a t).nn1,u_<|(nM a t).nn2,u_<|(nM a t).nn3,u_<|(nM a t).nn4],.cq<|b_<|km (aw 65536 k)<|nM a t] (rg 0 8) [] [(6,b_ (!(km (aw 65536 k)<|nM a t)))] (oc (qw<|uF 65536 k)<|oc (qw<|WR a t)<|o1<|qw<|KD (aw 65536 k)<|nM a t)<|aF<|bJ [b_ (!(km (aw 65536 k)<|nM a t))] ?_
 rfl
theorem Ly(al:k0)(l:List Cv)(cl:Nat)(t:Int)(hl:l.length≤100000)(w:World)(r0:dR w al (V.aP de l))(hs:HI w []):
  CV 83 #[i_ t,vS al l cl] w [] (λ(v:Int)=>(i_ v)) (λ_=>True) λ_=>[]:=by
 refine aU Tryz.func83 rfl hs (aE []<|bS<|bB [.o,.cl] [(12,b_<|(decide (t<1))||(decide (t>65536)))]<|aL (E:=(decide (t<1))||(decide (t>65536))) rfl (λe1=>?_) (λe1=>?_))
 ·refine aE [(4,i_ 1)]<|aF<|cP [] [i_ 1] (λ_ w r s=>⟨cw r rfl,trivial⟩) (1) ?_ ?_<|by kernel_rfl
  ·rfl
  trivial
 refine az<|aE [(13,vS al l cl),(14,c_ l.length),(15,i_ 0)]<|aR<|fY (λ(zz:Nat)=>match zz with|k=>[(13,vS al l cl),(14,c_ l.length),(15,c_ k)]) (λ(zz:Nat)=>match zz with|k=>[]) (λ(zz:Nat)=>match zz with|k=>(k≤l.length)) (λ(zz:Nat)=>match zz with|k=>l.length-k) (0:Nat) (by omega) ?_ ?_
 ·exact bw [] ⟨rfl,rfl,rfl,trivial⟩<|by kernel_rfl
 rintro k hk
 have hk:k≤l.length:=hk
 refine dW [(13,vS al l cl),(14,c_ l.length),(15,c_ k)] [] ⟨rfl,rfl,rfl,trivial⟩ rfl (aE [(15,c_ k),(16,b_<|decide ((k:Int)<(l.length:Int)))]<|aD<|aL (E:=decide ((k:Int)<(l.length:Int))) rfl (λe2=>?_) (λe2=>?_))
 ·have p2:=Zg e2
  refine az<|aR<|aC<|jJ [.ix] [(17,.pointer<|some<|(au al).add (k*3))] (o1<|io (k:Int)<|dh pL (by decide) (cL r0<|by simp[aN])<|by omega) ?_
  obtain⟨x1,hx1⟩: ∃x,(l)[k]? =some x:=⟨_,Ze<|by omega⟩
  refine iI [.rd<|de x1,.al,.st 0] [13,14,15,6] (λb2=>[(13,vS al l cl),(14,c_ l.length),(15,c_ k),(6,p_ b2)]) (λb2=>[aA b2 (de x1) 60]) (λb2=>[b2]) (λ_=>(λκ=>κ.rd ((au al).add (k*3)) (de x1)∧True)) (λ_=>by kernel_rfl) (λb2=>⟨dr (vs:=(de x1)) pL (cL r0<|by simp[aN]) hx1 (Nat.le_of_ble_eq_true rfl) rfl,trivial⟩) ?_
  intro b2
  refine aC<|jK [.ld 0,.cq<|i_<|bD x1.ka x1.kb x1.kc] [(13,vS al l cl),(14,c_ l.length),(15,c_ k),(21,b_<|(bD x1.ka x1.kb x1.kc)==0)] (o1<|qw<|kD x1.ka x1.kb x1.kc)<|aL (E:=(bD x1.ka x1.kb x1.kc)==0) rfl (λe3=>?_) (λe3=>?_)
  ·refine aE [(4,i_ 21)]<|aF<|cP [] [i_ 21] (λ_ w r s=>⟨cw r rfl,trivial⟩) (21) ?_ ?_<|by kernel_rfl
   ·rfl
   trivial
  refine aO<|aM<|aj [.w<|(k:Int)+1] [(15,i_<|(k:Int)+1)] (o1<|wj ((k:Int)+1)<|by omega)<|bN (k+1) (by omega) (by(simp;omega)) ?_
  exact bw [] ⟨rfl,rfl,rfl,trivial⟩<|by kernel_rfl
 have p2:=Zh e2
 refine bg<|aE [(4,i_ 0)]<|aF<|cP [] [i_ 0] (λ_ w r s=>⟨cw r rfl,trivial⟩) (0) ?_ ?_<|by kernel_rfl
 ·rfl
 trivial
theorem WS(al:k0)(l:List Cv)(cl:Nat)(t:Int)(hl:l.length≤100000)(w:World)(r0:dR w al (V.aP de l))(hs:HI w []):
  CV 84 #[i_ t,vS al l cl] w [] (λ((v,b):Int×Bool)=>(.agg #[u_ v,b_ b])) (λ_=>True) λ_=>[]:=by
 refine aU Tryz.func84 rfl hs (aC<|dM [.al] [] (λb1=>[(4,p_ b1)]) (λ_=>[]) (λb1=>aA b1 [u_ 0,b_ false] 179) ?_)
 intro b1
 refine bS<|an 2 [] [(7,i_ t),(8,vS al l cl)]<|aG<|dH (some 9) [] (λw s h=>Ly al l cl t ‹_› w ((cL r0<|by simp[aN]) w s) h) ?_
 rintro v2-
 refine aQ [(10,b_<|v2 !=0)]<|aL (E:=v2 !=0) rfl (λe2=>?_) (λe2=>?_)
 ·refine aC<|bL [.st 0] [] [(0,aA b1 [u_ 0,b_ false] 179)]<|aF<|cP [] [.agg #[u_ 0,b_ false]] (λ_ w r s=>⟨dS 0 r s,trivial⟩) (0,false) ?_ ?_<|by kernel_rfl
  ·rfl
  trivial
 refine aO<|bS<|cV [.p] [(12,vS al l cl)]<|aG<|dH (some 13) [] (λw s h=>WQ al l cl ‹_› w ((cL r0<|by simp[aN]) w s) h) ?_
 rintro⟨A'3,xs'4,c'5⟩ hz3
 dsimp only at hz3
 refine aQ [(14,c_ xs'4.length),(15,i_ 0)]<|aR<|fY (λ(zz:Nat)=>match zz with|k=>[(0,i_ t),(1,vS al l cl),(4,p_ b1),(13,vS A'3 xs'4 c'5),(14,c_ xs'4.length),(15,c_ k)]) (λ(zz:Nat)=>match zz with|k=>[sl A'3 (xs'4.length) c'5 40 1<|V.aP fm xs'4,aA b1 [u_ 0,b_ false] 179]) (λ(zz:Nat)=>match zz with|k=>(k≤xs'4.length)) (λ(zz:Nat)=>match zz with|k=>xs'4.length-k) (0:Nat) (by omega) ?_ ?_
 ·exact bw [0,0] ⟨rfl,rfl,rfl,rfl,rfl,rfl,trivial⟩<|by kernel_rfl
 rintro k hk
 have hk:k≤xs'4.length:=hk
 refine dW [(0,i_ t),(1,vS al l cl),(4,p_ b1),(13,vS A'3 xs'4 c'5),(14,c_ xs'4.length),(15,c_ k)] [sl A'3 (xs'4.length) c'5 40 1<|V.aP fm xs'4,aA b1 [u_ 0,b_ false] 179] ⟨rfl,rfl,rfl,rfl,rfl,rfl,trivial⟩ rfl (aC<|da [] [(0,i_ t),(1,vS al l cl),(4,p_ b1),(13,vS A'3 xs'4 c'5),(14,c_ xs'4.length),(15,c_ k),(16,b_<|decide ((k:Int)<(xs'4.length:Int)))]<|aD<|aL (E:=decide ((k:Int)<(xs'4.length:Int))) rfl (λe4=>?_) (λe4=>?_))
 ·have p4:=Zg e4
  refine az<|aR<|aC<|jJ [.ix] [(17,.pointer<|some<|(au A'3).add (k*1))] (o1<|io (k:Int)<|dh rO (by decide) (bW (i:=0) rfl)<|by omega) ?_
  obtain⟨x7,hx7⟩: ∃x,(xs'4)[k]? =some x:=⟨_,Ze<|by omega⟩
  refine aj [.rd [u_ x7]] [(6,u_ x7)] (o1<|ro ((au A'3).add (k*1))<|dr (vs:=[u_ x7]) rO (bW (i:=0) rfl) hx7 (Nat.le_of_ble_eq_true rfl) rfl)<|aC<|an 2 [] [(19,vS al l cl),(20,u_ x7)]<|aG<|dH (some 21) [] (λw s h=>WN al l cl x7 ‹_› w ((cL r0<|by simp[aN]) w s) h) ?_
  rintro⟨o18,o29,o310,o411⟩-
  refine aj [.cq<|b_<|sV (⟨o18,o29,o310,o411⟩:N4) t x7] [(25,b_ (!(sV (⟨o18,o29,o310,o411⟩:N4) t x7)))] (o1<|qw<|Lx (⟨o18,o29,o310,o411⟩:N4) t x7)<|aL (E:= !(sV (⟨o18,o29,o310,o411⟩:N4) t x7)) rfl (λe6=>?_) (λe6=>?_)
  ·refine aC<|bL [.st 1] [] [(1,aA b1 [u_ x7,b_ true] 179)]<|aF<|cP [] [.agg #[u_ x7,b_ true]] (λ_ w r s=>⟨dS 1 r s,trivial⟩) (x7,true) ?_ ?_<|by kernel_rfl
   ·rfl
   trivial
  refine aO<|aM<|aj [.w<|(k:Int)+1] [(15,i_<|(k:Int)+1)] (o1<|wj ((k:Int)+1)<|by omega)<|bN (k+1) (by omega) (by(simp;omega)) ?_
  exact bw [0,0] ⟨rfl,rfl,rfl,rfl,rfl,rfl,trivial⟩<|by kernel_rfl
 have p4:=Zh e4
 refine bg<|aC<|cV [.p] [(29,vS al l cl)]<|aG<|dH (some 30) [] (λw s h=>WO al l cl false ‹_› w ((cL r0<|by simp[aN]) w s) h) ?_
 rintro⟨o112,o213,o314,o415⟩-
 refine gJ [.cq<|b_<|sV (⟨o112,o213,o314,o415⟩:N4) t 1,.st 1] [] [] [(1,aA b1 [u_ 0,b_ (!(sV (⟨o112,o213,o314,o415⟩:N4) t 1))] 179)] (o1<|qw<|Lx (⟨o112,o213,o314,o415⟩:N4) t 1)<|aF<|cP [] [.agg #[u_ 0,b_ (!(sV (⟨o112,o213,o314,o415⟩:N4) t 1))]] (λ_ w r s=>⟨dS 1 r s,trivial⟩) (0,!(sV (⟨o112,o213,o314,o415⟩:N4) t 1)) ?_ ?_<|by kernel_rfl
 ·rfl
 trivial
theorem WT(al:k0)(l:List Cv)(cl:Nat)(t:Int)(hl:l.length≤100000)(w:World)(r0:dR w al (V.aP de l))(hs:HI w []):
  CV 51 #[i_ t,vS al l cl] w [] (λ(v:Int)=>(i_ v)) (λ_=>True) λ_=>[]:=by
 refine aU Tryz.func51 rfl hs (aE []<|bS<|an 2 [] [(6,i_ t),(7,vS al l cl)]<|aG<|dH (some 8) [] (λw s h=>Ly al l cl t ‹_› w ((cL r0<|by simp[aN]) w s) h) ?_)
 rintro v1-
 refine aQ [(5,i_ v1)]<|aE [(10,b_<|v1 !=0)]<|iD (v1 !=0) (λe2=>?_)<|λe2=>?_
 ·refine aE [(4,i_ v1)]<|aF<|bR [] [i_ v1] (v1) ?_ ?_
  ·rfl
  trivial
 refine aO<|bS<|an 2 [] [(12,i_ t),(13,vS al l cl)]<|aG<|dH (some 14) [] (λw s h=>WS al l cl t ‹_› w ((cL r0<|by simp[aN]) w s) h) ?_
 rintro⟨v2,b3⟩-
 refine aQ [(15,b_ b3)]<|iD b3 (λe4=>?_)<|λe4=>?_
 ·refine aE [(4,i_ 22)]<|aF<|bR [] [i_ 22] (22) ?_ ?_
  ·rfl
  trivial
 refine aO<|aE [(4,i_ 0)]<|aF<|bR [] [i_ 0] (0) ?_ ?_
 ·rfl
 trivial
theorem fJ(x:Cl):(aX x).length=14:=rfl
theorem wm(x:Cl):(aX x).all Value.oneCell'=true:=rfl
abbrev dy(A:k0)(xs:List Cl)(c:Nat):V.aI:=sl A xs.length c 62 14<|V.aP aX xs
def m8:List Cl→Int→Nat
 |[],_=>0
 |c::l,a=>if c.hi=a then 0 else m8 l a+1
def fp(l:List Cl)(a:Int):Int:=if m8 l a<l.length then(m8 l a:Int) else-1
variable{a:Int}
theorem MA: ∀{l:List Cl}{k:Nat}{y:Cl},l[k]? =some y→y.hi=a→(∀j z,j<k→l[j]? =some z→z.hi≠a)→m8 l a=k
 |[],k,y,h,_,_=>by simp at h
 |c::l,0,y,h,e,_=>by simp at h;subst h;unfold m8;rw[if_pos e]
 |c::l,k+1,y,h,e,hn=>by
  unfold m8;rw[if_neg<|hn 0 c (by omega) rfl,MA (by simpa using h) e λj z hj hz=>hn (j+1) z (by omega)<|by simpa using hz]
theorem KE: ∀{l:List Cl},(∀z∈l,z.hi≠a)→m8 l a=l.length
 |[],_=>rfl
 |c::l,h=>by unfold m8;rw[if_neg<|h c<|List.mem_cons_self ..,KE λz hz=>h z<|List.mem_cons_of_mem _ hz];rfl
variable{l:List Cl}
theorem TV{y:Cl}(h:l[k]? =some y)(e:y.hi=a)(hn: ∀j z,j<k→l[j]? =some z→z.hi≠a):fp l a=(k:Int):=by
 unfold fp;rw[MA h e hn,if_pos (Zf.1 h).1]
theorem WU(hk:l.length≤k)(hn: ∀j z,j<k→l[j]? =some z→z.hi≠a):fp l a= -1:=by
 unfold fp;rw[KE λz hz=>?_,if_neg<|Nat.lt_irrefl _]
 obtain⟨j,hj⟩:=List.mem_iff_getElem?.1 hz
 exact hn j z (by have:=(Zf.1 hj).1;omega) hj
theorem MC: ∀{l:List Cl},m8 l a<l.length→ ∃x,l[m8 l a]? =some x∧x.hi=a
 |[],h=>by simp[m8] at h
 |c::l,h=>by
  unfold m8 at h⊢;split
  ·rename_i e;exact⟨c,rfl,e⟩
  ·rename_i e;rw[if_neg e] at h;simp at h
   obtain⟨x,h1,h2⟩:=MC h;exact⟨x,by simpa using h1,h2⟩
theorem MD: ∀{l:List Cl},¬m8 l a<l.length→ ∀z∈l,z.hi≠a
 |[],_,z,hz=>by cases hz
 |c::l,h,z,hz=>by
  unfold m8 at h;split at h
  ·simp at h
  ·rename_i e;simp at h
   rcases List.mem_cons.1 hz with rfl|hz
   ·exact e
   ·exact MD (by omega) z hz
theorem vV(l:List Cl)(a:Int):(fp l a= -1∧ ∀z∈l,z.hi≠a)∨ ∃(m:Nat)(x:Cl),fp l a=(m:Int)∧l[m]? =some x∧x.hi=a:=by
 unfold fp;split
 ·rename_i h;obtain⟨x,h1,h2⟩:=MC h;exact .inr ⟨_,x,rfl,h1,h2⟩
 ·rename_i h;exact .inl ⟨rfl,MD h⟩
def jX(l:List Cl):Nat→Int→List Int
 |0,_=>[]
 |n+1,a=>if fp l a<0 then[] else a::jX l n ((l[(fp l a).toNat]?.getD default).hp)
theorem E1(l:List Cl): ∀(n:Nat)(a:Int),(jX l n a).length≤n
 |0,_=>by simp[jX]
 |n+1,a=>by unfold jX;split;exact Nat.zero_le _;simp;exact E1 l n _
variable{n:Nat}
theorem WV(h:fp l a= -1):jX l n a=[]:=by cases n with|zero=>rfl|succ n=>unfold jX;rw[h];rfl
theorem TW{m:Nat}{x:Cl}(h:fp l a=(m:Int))(hx:l[m]? =some x):jX l (n+1) a=a::jX l n x.hp:=by rw[jX,h,if_neg<|by omega,Int.toNat_natCast,hx];rfl
set_option maxHeartbeats 4000000 in
set_option maxRecDepth 100000 in
theorem xl(al:k0)(l:List Cl)(cl:Nat)(a:Int)(hl:l.length≤100000)(w:World)(r0:dR w al (V.aP aX l)):
  CQ Tryz.prog 14 #[vS al l cl,i_ a] w (i_<|fp l a):=by
 refine aU Tryz.func14 rfl (HS.nil w) ?_
 refine dW [(0,vS al l cl),(1,i_ a)] [] ⟨rfl,rfl,trivial⟩ rfl (aC<|aQ [(0,vS al l cl),(1,i_ a)]<|bS<|aQ [(7,vS al l cl),(8,c_ l.length),(9,i_ 0)]<|aR<|fY (λ(zz:Nat)=>match zz with|k=>[(1,i_ a),(7,vS al l cl),(8,c_ l.length),(9,c_ k)]) (λ(zz:Nat)=>match zz with|k=>[]) (λ(zz:Nat)=>match zz with|k=>(k≤l.length)∧(∀j y,j<k→l[j]? =some y→y.hi≠a)) (λ(zz:Nat)=>match zz with|k=>l.length-k) (0:Nat) ⟨(by omega),(by(intro j y h_;omega))⟩ ?_ ?_)
 ·exact bw [] ⟨rfl,rfl,rfl,rfl,trivial⟩<|by kernel_rfl
 ·rintro k ⟨hk,hn⟩
  refine dW [(1,i_ a),(7,vS al l cl),(8,c_ l.length),(9,c_ k)] [] ⟨rfl,rfl,rfl,rfl,trivial⟩ rfl (aC<|aQ [(9,c_ k),(10,b_<|decide ((k:Int)<(l.length:Int)))]<|aD<|aL (E:=decide ((k:Int)<(l.length:Int))) rfl (λe1=>?_) (λe1=>?_))
  ·skip
   have p1:=Zg e1
   refine az<|aR<|aC<|eI 2 [.ix] [(11,c_ k),(12,.pointer<|some<|(au al).add (k*14))] (o1<|io (k:Int)<|dh fJ (by decide) (cL r0<|by simp[aN])<|by omega) ?_
   obtain⟨x1,hx1⟩: ∃x,(l)[k]? =some x:=⟨_,Ze<|by omega⟩
   refine iI [.rd<|aX x1,.al,.p,.st 0] [1,7,8,9,6,5] (λb2=>[(1,i_ a),(7,vS al l cl),(8,c_ l.length),(9,c_ k),(6,p_ b2),(5,c_ k)]) (λb2=>[aA b2 (aX x1) 62]) (λb2=>[b2]) (λ_=>(λκ=>κ.rd ((au al).add (k*14)) (aX x1)∧True)) (λ_=>by kernel_rfl) (λb2=>⟨dr (vs:=(aX x1)) fJ (cL r0<|by simp[aN]) hx1 (Nat.le_of_ble_eq_true rfl) rfl,trivial⟩) ?_
   intro b2
   refine aC<|bB [.ld 0] [(5,c_ k),(17,b_<|x1.hi==a)]<|aL (E:=x1.hi==a) rfl (λe2=>?_) (λe2=>?_)
   ·skip
    refine aC<|da [] [(4,c_ k)] ?_
    refine aF<|fE [c_ k] (λ_ w r s=>⟨cw r rfl,trivial⟩) ?_
    show((c_ k):Value)=(i_<|fp l a)
    refine congrArg (Value.int .i64) ?_;exact(TV ‹_› (by simp_all) hn).symm
   ·skip
    refine aO<|aM<|jK [.w<|(k:Int)+1] [(1,i_ a),(7,vS al l cl),(8,c_ l.length),(9,i_<|(k:Int)+1)] (o1<|wj ((k:Int)+1)<|by omega) ?_
    refine bN (k+1) ⟨(by omega),(by(intro j y h1_ h2_;rcases Nat.lt_or_ge j k with h4_|h4_;exact hn j y h4_ h2_;(have h5_:j=k:=by omega);subst h5_;grind))⟩ (by(simp;omega)) ?_
    exact bw [] ⟨rfl,rfl,rfl,rfl,trivial⟩<|by kernel_rfl
  ·skip
   have p1:=Zh e1
   refine bg<|aC<|aQ [(4,i_ (-1))]<|aF<|fE [i_ (-1)] (λ_ w r s=>⟨cw r rfl,trivial⟩) ?_
   show((i_ (-1)):Value)=(i_<|fp l a)
   refine congrArg (Value.int .i64) ?_;exact(WU (by omega) hn).symm
set_option maxHeartbeats 4000000 in
set_option maxRecDepth 100000 in
theorem ME(al:k0)(l:List Cl)(cl:Nat)(a:Int)(hl:l.length≤100000)(w:World)(r0:dR w al (V.aP aX l))(hs:HI w []):
  CT Tryz.prog 35 #[vS al l cl,i_ a] w [] (λ((A',xs',c'):(k0)×(Wx)×Nat)=>(vS A' xs' c')) (λ(A',xs',c')=>xs'=jX l 70 a) λ(A',xs',c')=>[sI A' xs' c']:=by
 refine aU Tryz.func35 rfl hs ?_
 refine dW [(0,vS al l cl),(1,i_ a)] [] ⟨rfl,rfl,trivial⟩ rfl (aC<|aQ [(0,vS al l cl),(1,i_ a)]<|aC<|aQ [(5,e_)]<|aC<|aQ [(6,i_ a)]<|bS<|aQ [(9,i_ 0)]<|aR<|gW 3 1 [sI none ([]:Wx) 0] rfl (fY (λ(zz:Nat×Int×(k0)×(Wx)×Nat)=>match zz with|(k,ta,ao,xs,co)=>[(0,vS al l cl),(9,c_ k),(6,i_ ta),(5,vS ao xs co)]) (λ(zz:Nat×Int×(k0)×(Wx)×Nat)=>match zz with|(k,ta,ao,xs,co)=>[sI ao xs co]) (λ(zz:Nat×Int×(k0)×(Wx)×Nat)=>match zz with|(k,ta,ao,xs,co)=>(k≤70)∧(xs.length≤k)∧(xs++jX l (70-k) ta=jX l 70 a)) (λ(zz:Nat×Int×(k0)×(Wx)×Nat)=>match zz with|(k,ta,ao,xs,co)=>70-k) (0,a,none,([]:Wx),0) ⟨(by omega),(by(simp;done)),(by rfl)⟩ ?_ ?_))
 ·exact bw [0] ⟨rfl,rfl,rfl,rfl,trivial⟩<|by kernel_rfl
 ·rintro⟨k,ta,ao,xs,co⟩ ⟨hk,hx,hu⟩
  refine dW [(0,vS al l cl),(9,c_ k),(6,i_ ta),(5,vS ao xs co)] [sI ao xs co] ⟨rfl,rfl,rfl,rfl,trivial⟩ rfl (aC<|aQ [(9,c_ k),(6,i_ ta),(5,vS ao xs co),(10,b_<|decide ((k:Int)<70))]<|aD<|aL (E:=decide ((k:Int)<70)) rfl (λe1=>?_) (λe1=>?_))
  ·skip
   have p1:=Zg e1
   refine az<|aR<|aC<|jK [.cq<|i_<|fp l ta] [(0,vS al l cl),(9,c_ k),(6,i_ ta),(5,vS ao xs co),(7,i_<|fp l ta)] (o1<|qo<|λw s=>xl al l cl ta ‹_› w ((cL r0<|by simp[aN]) w s))<|aD<|aD ?_
   by_cases ho:fp l ta= -1
   ·skip
    refine ei [(0,vS al l cl),(9,c_ k),(6,i_ ta),(5,vS ao xs co),(7,i_ (-1))] (by exact⟨rfl,rfl,rfl,rfl,congrArg (λz_=>some<|i_ z_) (ho:(fp l ta)= -1),trivial⟩) ?_
    refine aM<|da [.p,.p] [(0,vS al l cl),(9,c_ k),(6,i_ ta),(5,vS ao xs co),(7,i_ (-1)),(15,b_ true)] ?_
    refine eF<|iw rfl (bg<|qO<|wL rfl ?_)
    refine qO<|qO<|Bn<|eF<|aD<|aM<|da [.p,.p] [(4,vS ao xs co)] ?_
    refine eF<|aF<|cP [0] [vS ao xs co] (λaa ww rr ss=>⟨cw rr rfl,trivial⟩) (ao,xs,co) ?_ ?_<|by kernel_rfl
    ·rfl
    ·show xs=jX l 70 a
     (rw[WV ho,List.append_nil] at hu;exact hu)
   ·skip
    obtain⟨m,x,hv,hx,hxa⟩:=(vV l ta).resolve_left λh_=>ho h_.1;have hlt:=(Zf.1 hx).1
    refine ei [(0,vS al l cl),(9,c_ k),(6,i_ ta),(5,vS ao xs co),(7,c_ m)] ⟨rfl,rfl,rfl,rfl,congrArg (λz_=>some<|i_ z_) (by exact hv:(fp l ta)=(m:Int)),trivial⟩<|aM<|aQ [(7,c_ m),(15,b_<|decide ((m:Int)<0))]<|aL (E:=decide ((m:Int)<0)) rfl (λe2=>?_) (λe2=>?_)
    ·exact absurd e2<|by(intro h_;simp at h_;omega)
    ·skip
     have p2:=Zh e2
     refine aO<|aC<|an 2 [] [(16,vS ao xs co),(17,i_ ta)]<|aG<|eB 18 (e:=3) [i_ ta] (by kernel_rfl) rfl (λ_=>by kernel_rfl) (λb2=>[sI ao xs co,aA b2 [i_ ta] 3]) (λ_=>rfl) ?_
     intro b2
     refine aG<|jZ (enc:=gq) (xs:=xs) ([ta]) 0 19 (e:=3) (z:=(i_ 0)) (sz:=1) (by_:=8) (by kernel_rfl) rfl rfl rfl (by kernel_rfl) (by kernel_rfl) (by rfl) (by decide) dG j9 rfl (ef (i:=1) rfl) (by(simp_all<;>omega)) (λA3 c3=>[sI A3 (xs++([ta])) c3,aA b2 [i_ ta] 3]) (λ_ _=>rfl) ?_
     intro A3 c3
     refine aQ [(5,vS A3 (xs++([ta])) c3)]<|aM<|aj [.ix,.rd [i_ x.hp]] [(6,i_ x.hp)] (oc (io (m:Int)<|dh fJ (by decide) (cL r0<|by simp[aN])<|by omega)<|o1<|ro (((au al).add (m*14)).add 1)<|j8 (f:=1) (vs:=[i_ x.hp]) fJ (cL r0<|by simp[aN]) hx (by simp) rfl)<|(aM<|aj [.w<|(k:Int)+1] [(9,i_<|(k:Int)+1)] (o1<|wj ((k:Int)+1)<|by omega)<|bN (k+1,x.hp,A3,xs++([ta]),c3) ⟨(by omega),(by(simp_all<;>omega)),(by(rw[←hu,show 70-k=70-(k+1)+1 by omega,TW hv hx,List.append_assoc];rfl))⟩ (by(simp;omega)) ?_)
     exact bw [0] ⟨rfl,rfl,rfl,rfl,trivial⟩<|by kernel_rfl
  ·skip
   have p1:=Zh e1
   refine bg<|aC<|da [] [(4,vS ao xs co)]<|aF<|cP [0] [vS ao xs co] (λ_ w r s=>⟨cw r rfl,trivial⟩) (ao,xs,co) ?_ ?_<|by kernel_rfl
   ·rfl
   ·show xs=jX l 70 a
    ((have h_:k=70:=by omega);rw[h_] at hu;rw[←hu];simp[jX])
theorem Iy(c:Cl):
  CS 120 #[.agg (aX c).toArray] [] (λ(v:Int)=>(i_ v)) (λ_=>True) λ_=>[]:=by
 intro w hs
 refine aU Tryz.func120 rfl hs (aC<|dL [.al] [] (λb1=>[(1,p_ b1)]) (λb1=>aA b1 (aX c) 62) ?_)
 intro b1
 refine bS<|bB [.ld 0,.p,.p,.o,.ld 0,.p,.cl,.p,.o,.ld 0,.p,.cl,.p,.o,.ld 0,.p,.cl,.p,.o,.ld 0,.ld 0,.p,.cl] [(30,b_<|((((decide (c.hi<1))||(decide (c.hi>65536)))||(decide (c.hp<0)))||(decide (c.hp>65536)))||(c.hi==c.hp))]<|aL rfl (λe1=>?_) (λe1=>?_)
 ·refine aE [(2,i_ 1)]<|aF<|bR [] [i_ 1] (1) ?_ ?_
  ·rfl
  trivial
 refine aO<|dF [.ld 0,.cq<|i_<|bD c.ra c.rb c.rc] [(3,i_<|bD c.ra c.rb c.rc)] (o1<|qw<|kD c.ra c.rb c.rc)<|dF [.ld 0,.cq<|i_<|bD c.la c.lb c.lc] [(4,i_<|bD c.la c.lb c.lc)] (o1<|qw<|kD c.la c.lb c.lc)<|dF [.ld 0,.cq<|i_<|bD c.ua c.ub c.uc] [(5,i_<|bD c.ua c.ub c.uc)] (o1<|qw<|kD c.ua c.ub c.uc)<|bS<|bB [.p,.p,.p,.o,.p,.p,.cl,.p,.o,.p,.p,.cl,.p,.o,.p,.p,.cl,.p,.o,.p,.p,.cl] [(57,b_<|(((((bD c.ra c.rb c.rc)==0)||((bD c.la c.lb c.lc)==0))||((bD c.ua c.ub c.uc)==0))||((bD c.la c.lb c.lc)==4))||((bD c.ua c.ub c.uc)==4))]<|aL rfl (λe2=>?_) (λe2=>?_)
 ·refine aE [(2,i_ 21)]<|aF<|bR [] [i_ 21] (21) ?_ ?_
  ·rfl
  trivial
 refine aO<|bS<|bB [.p,.p,.p,.o,.p,.p,.cl] [(63,b_<|(decide ((bD c.ua c.ub c.uc)>1))&&((bD c.la c.lb c.lc)==1))]<|aL rfl (λe3=>?_) (λe3=>?_)
 ·refine aE [(2,i_ 29)]<|aF<|bR [] [i_ 29] (29) ?_ ?_
  ·rfl
  trivial
 refine aO<|bS<|bB [.ld 0] [(65,b_ c.hl)]<|iD c.hl (λe4=>?_)<|λe4=>?_
 ·refine bS<|bB [.ld 0,.p,.p,.o,.ld 0,.p,.cl,.p,.o,.ld 0,.p,.cl,.p,.o,.ld 0,.p,.cl,.p,.o,.p,.p,.p,.o,.p,.p,.cl,.cl] [(91,b_<|((((decide (c.hk<1))||(decide (c.hk>64)))||(decide (c.hq<1)))||(decide (c.hq>1048576)))||(((bD c.ra c.rb c.rc)==1)&&((bD c.la c.lb c.lc)==1)))]<|aL rfl (λe5=>?_) (λe5=>?_)
  ·refine aE [(2,i_ 29)]<|aF<|bR [] [i_ 29] (29) ?_ ?_
   ·rfl
   trivial
  refine aO<|aE [(2,i_ 0)]<|aF<|bR [] [i_ 0] (0) ?_ ?_
  ·rfl
  trivial
 refine aO<|bS<|bB [.ld 0,.o,.ld 0,.cl,.o,.cl] [(103,b_<|((c.hk !=0)||(c.hq !=0))||((bD c.ra c.rb c.rc)!=1))]<|aL rfl (λe6=>?_) (λe6=>?_)
 ·refine aE [(2,i_ 29)]<|aF<|bR [] [i_ 29] (29) ?_ ?_
  ·rfl
  trivial
 refine aO<|aE [(2,i_ 0)]<|aF<|bR [] [i_ 0] (0) ?_ ?_
 ·rfl
 trivial
abbrev Fa(p0)(p1:List Cl):=(b_ (decide ((p0:Int)<(p1.length:Int))):Value)
theorem xW(al:k0)(l:List Cl)(cl:Nat)(a:Int)(hl:l.length≤100000)(w:World)(r0:dR w al (V.aP aX l))(hs:HI w []):
  CV 14 #[vS al l cl,i_ a] w [] (λ(v:Int)=>(i_ v)) (λv=>(v= -1∨ ∃(m:Nat)(x:Cl),v=(m:Int)∧l[m]? =some x)) λ_=>[]:=by
 refine(xl al l cl a hl w r0).mono ?_
 rintro e w' ⟨h1,h2⟩
 exact⟨_,h1,(vV l a).imp (λh3=>h3.1) (λ⟨m,x,h3,h4,_⟩=>⟨m,x,h3,h4⟩),Turn.of (hs.kept h2)<|.refl _⟩
theorem BI(al:k0)(l:List Cl)(cl:Nat)(a:Int)(hl:l.length≤100000)(w:World)(r0:dR w al (V.aP aX l))(hs:HI w []):
  CV 121 #[vS al l cl,i_ a] w [] (λ(b:Bool)=>(b_ b)) (λ_=>True) λ_=>[]:=by
 refine aU Tryz.func121 rfl hs (aE []<|aC<|an 2 [] [(6,vS al l cl),(7,i_ a)]<|aG<|dH (some 8) [] (λw s h=>xW al l cl a ‹_› w ((cL r0<|by simp[aN]) w s) h) ?_)
 rintro v1 hz1
 refine aQ [(5,i_ v1)]<|aD ?_
 by_cases ho:v1= -1
 ·refine dO 5 (i_ (-1)) (qI ho)<|aM<|an 3 [] [(11,b_<|a==0)]<|i5 (a==0) (λe2=>?_)<|λe2=>?_
  ·refine dO 11 (b_ true) (gB e2)<|bB [.sk,.sk,.sk,.sk,.sk,.sk,.sk,.sk,.sk,.sk,.sk] [(4,b_ true)]<|aF<|bR [] [b_ true] (true) ?_ ?_
   ·rfl
   trivial
  refine dO 11 (b_ false) (gB e2)<|bB [.p,.p,.p,.sk,.sk,.sk,.sk,.sk,.sk,.sk] [(4,b_ false)]<|aF<|bR [] [b_ false] (false) ?_ ?_
  ·rfl
  trivial
 obtain⟨m,x,hv,hx⟩:=hz1.resolve_left ho;have hlt:=(Zf.1 hx).1
 refine dO 5 (c_ m) (qI hv)<|aM<|aj [.p,.p,.p,.o,.p,.p,.p,.o,.ix,.rd [u_ x.la,u_ x.lb,u_ x.lc],.cq<|i_<|bD x.la x.lb x.lc,.p,.cl,.cl] [(4,b_<|(a==0)||((decide ((m:Int)≥0))&&(decide ((bD x.la x.lb x.lc)>1))))] (oc (go ((true&&((a==0)==false))&&((decide ((m:Int)≥0))==true)) λh_=>(io (m:Int)<|dh fJ (by decide) (cL r0<|by simp[aN])<|by omega))<|oc (go ((true&&((a==0)==false))&&((decide ((m:Int)≥0))==true)) λh_=>(ro (((au al).add (m*14)).add 6)<|j8 (f:=6) (vs:=[u_ x.la,u_ x.lb,u_ x.lc]) fJ (cL r0<|by simp[aN]) hx (by simp) rfl))<|o1<|go ((true&&((a==0)==false))&&((decide ((m:Int)≥0))==true)) λh_=>(qw<|kD x.la x.lb x.lc))<|aF<|bR [] [b_<|(a==0)||((decide ((m:Int)≥0))&&(decide ((bD x.la x.lb x.lc)>1)))] ((a==0)||((decide ((m:Int)≥0))&&(decide ((bD x.la x.lb x.lc)>1)))) ?_ ?_
 ·rfl
 trivial
theorem B0(al:k0)(l:List Cl)(cl:Nat)(a:Int)(hl:l.length≤100000)(w:World)(r0:dR w al (V.aP aX l))(hs:HI w []):
  CV 35 #[vS al l cl,i_ a] w [] (λ((A',xs',c'):(k0)×(Wx)×Nat)=>(vS A' xs' c')) (λ(A',xs',c')=>xs'.length≤70) λ(A',xs',c')=>[sI A' xs' c']:=by
 refine(ME al l cl a hl w r0 hs).mono ?_
 rintro e w' ⟨⟨A',xs',c'⟩,h1,h2,h3⟩
 exact⟨(A',xs',c'),h1,by have h4:xs'=jX l 70 a:=h2;show xs'.length≤70;rw[h4];exact E1 l 70 a,h3⟩
theorem Fb(al:k0)(l:List Cl)(cl:Nat)(a:Int)(hl:l.length≤100000)(w:World)(r0:dR w al (V.aP aX l))(hs:HI w []):
  CV 123 #[vS al l cl,i_ a] w [] (λ((A',xs',c'):(k0)×(Wx)×Nat)=>(vS A' xs' c')) (λ(A',xs',c')=>xs'.length≤l.length) λ(A',xs',c')=>[sI A' xs' c']:=by
 refine aU Tryz.func123 rfl hs (aE []<|aE [(5,e_)]<|aD<|aE [(8,vS al l cl),(9,c_ l.length),(10,i_ 0)]<|aR<|gW 3 1 [sI none ([]:Wx) 0] rfl (fY (λ((k,ao,xs,co):Nat×(k0)×(Wx)×Nat)=>[(1,i_ a),(8,vS al l cl),(9,c_ l.length),(10,c_ k),(5,vS ao xs co)]) (λ((k,ao,xs,co):Nat×(k0)×(Wx)×Nat)=>[sI ao xs co]) (λ((k,ao,xs,co):Nat×(k0)×(Wx)×Nat)=>(k≤l.length)∧(xs.length≤k)) (λ((k,ao,xs,co):Nat×(k0)×(Wx)×Nat)=>l.length-k) (0,none,([]:Wx),0) ⟨(by omega),(by(simp;done))⟩ ?_ ?_))
 ·exact bw [0] ⟨rfl,rfl,rfl,rfl,rfl,trivial⟩<|by kernel_rfl
 rintro⟨k,ao,xs,co⟩ ⟨hk,hx⟩
 refine dW [(1,i_ a),(8,vS al l cl),(9,c_ l.length),(10,c_ k),(5,vS ao xs co)] [sI ao xs co] ⟨rfl,rfl,rfl,rfl,rfl,trivial⟩ rfl (aE [(10,c_ k),(5,vS ao xs co),(11,Fa k l)]<|aD<|aL (E:=decide ((k:Int)<(l.length:Int))) rfl (λe1=>?_) (λe1=>?_))
 ·have p1:=Zg e1
  refine az<|aR<|aC<|jJ [.ix] [(12,.pointer<|some<|(au al).add (k*14))] (o1<|io (k:Int)<|dh fJ (by decide) (cL r0<|by simp[aN])<|by omega) ?_
  obtain⟨x2,hx2⟩: ∃x,(l)[k]? =some x:=⟨_,Ze<|by omega⟩
  refine iI [.rd<|aX x2,.al,.st 1] [1,8,9,10,5,7] (λb3=>[(1,i_ a),(8,vS al l cl),(9,c_ l.length),(10,c_ k),(5,vS ao xs co),(7,p_ b3)]) (λb3=>[sI ao xs co,aA b3 (aX x2) 62]) (λb3=>[b3]) (λ_=>(λκ=>κ.rd ((au al).add (k*14)) (aX x2)∧True)) (λ_=>by kernel_rfl) (λb3=>⟨dr (vs:=(aX x2)) fJ (cL r0<|by simp[aN]) hx2 (Nat.le_of_ble_eq_true rfl) rfl,trivial⟩) ?_
  intro b3
  refine aC<|da [.ld 1] [(1,i_ a),(8,vS al l cl),(9,c_ l.length),(10,c_ k),(5,vS ao xs co),(7,p_ b3),(17,b_<|x2.hp==a)]<|aL (E:=x2.hp==a) rfl (λe2=>?_) (λe2=>?_)
  ·refine aM<|an 3 [.ld 1] [(18,vS ao xs co),(20,i_ x2.hi)]<|aG<|eB 21 (e:=3) [i_ x2.hi] (by kernel_rfl) rfl (λ_=>by kernel_rfl) (λb4=>[sI ao xs co,aA b3 (aX x2) 62,aA b4 [i_ x2.hi] 3]) (λ_=>rfl) ?_
   intro b4
   refine aG<|jZ (enc:=gq) (xs:=xs) ([x2.hi]) 0 22 (e:=3) (z:=(i_ 0)) (sz:=1) (by_:=8) (by kernel_rfl) rfl rfl rfl (by kernel_rfl) (by kernel_rfl) (by rfl) (by decide) dG j9 rfl (ef (i:=2) rfl) (by(simp_all<;>omega)) (λA5 c5=>[sI A5 (xs++([x2.hi])) c5,aA b3 (aX x2) 62,aA b4 [i_ x2.hi] 3]) (λ_ _=>rfl) ?_
   intro A5 c5
   refine aQ [(5,vS A5 (xs++([x2.hi])) c5)]<|aM<|aj [.w<|(k:Int)+1] [(10,i_<|(k:Int)+1)] (o1<|wj ((k:Int)+1)<|by omega)<|bN (k+1,A5,xs++([x2.hi]),c5) ⟨(by omega),(by(simp_all<;>omega))⟩ (by(simp;omega)) ?_
   exact bw [0] ⟨rfl,rfl,rfl,rfl,rfl,trivial⟩<|by kernel_rfl
  refine aO<|aM<|aj [.w<|(k:Int)+1] [(10,i_<|(k:Int)+1)] (o1<|wj ((k:Int)+1)<|by omega)<|bN (k+1,ao,xs,co) ⟨(by omega),(by(simp_all<;>omega))⟩ (by(simp;omega)) ?_
  exact bw [0] ⟨rfl,rfl,rfl,rfl,rfl,trivial⟩<|by kernel_rfl
 have p1:=Zh e1
 refine bg<|aE [(4,vS ao xs co)]<|aF<|cP [0] [vS ao xs co] (λ_ w r s=>⟨cw r rfl,trivial⟩) (ao,xs,co) ?_ ?_<|by kernel_rfl
 ·rfl
 omega
abbrev BJ:=((.agg #[i_ 0,i_ 0,b_ false,u_ 0,u_ 0,u_ 0,u_ 0,u_ 0,u_ 0,u_ 0,u_ 0,u_ 0,i_ 0,i_ 0]):Value)
theorem vW(al:k0)(l:List Cl)(cl:Nat)(c:Cl)(hl:l.length≤100000)(w:World)(r0:dR w al (V.aP aX l))(hs:HI w []):
  CV 122 #[vS al l cl,.agg (aX c).toArray] w [] (λ((A',xs',c'):(k0)×(List Cl)×Nat)=>(vS A' xs' c')) (λ(A',xs',c')=>xs'.length≤l.length+1∧ ∀y,y∈xs'↔y=c∨(y∈l∧y.hi≠c.hi)) λ(A',xs',c')=>[dy A' xs' c']:=by
 refine aU Tryz.func122 rfl hs (aC<|dM [.al] [] (λb1=>[(3,p_ b1)]) (λ_=>[]) (λb1=>aA b1 (aX c) 62) ?_)
 intro b1
 refine aE [(5,e_)]<|aE [(6,b_ false)]<|aD<|aE [(9,vS al l cl),(10,c_ l.length),(11,i_ 0)]<|aR<|gW 62 14 [aA b1 (aX c) 62,dy none ([]:List Cl) 0] rfl (fY (λ((k,ao,xs,co,bp):Nat×(k0)×(List Cl)×Nat×Bool)=>[(3,p_ b1),(9,vS al l cl),(10,c_ l.length),(11,c_ k),(5,vS ao xs co),(6,b_ bp)]) (λ((k,ao,xs,co,bp):Nat×(k0)×(List Cl)×Nat×Bool)=>[dy ao xs co,aA b1 (aX c) 62]) (λ((k,ao,xs,co,bp):Nat×(k0)×(List Cl)×Nat×Bool)=>(k≤l.length)∧(xs.length+(bif bp then 0 else 1)≤k+1)∧(∀y,y∈xs↔(bp=true∧y=c)∨(y∈l.take k∧y.hi≠c.hi))) (λ((k,ao,xs,co,bp):Nat×(k0)×(List Cl)×Nat×Bool)=>l.length-k) (0,none,([]:List Cl),0,false) ⟨(by omega),(by(simp;done)),(by(simp;done))⟩ ?_ ?_)
 ·exact bw [1,0] ⟨rfl,rfl,rfl,rfl,rfl,rfl,trivial⟩<|by kernel_rfl
 rintro⟨k,ao,xs,co,bp⟩ ⟨hk,hx,hm⟩
 refine dW [(3,p_ b1),(9,vS al l cl),(10,c_ l.length),(11,c_ k),(5,vS ao xs co),(6,b_ bp)] [dy ao xs co,aA b1 (aX c) 62] ⟨rfl,rfl,rfl,rfl,rfl,rfl,trivial⟩ rfl (aE [(11,c_ k),(5,vS ao xs co),(6,b_ bp),(12,Fa k l)]<|aD<|aL (E:=decide ((k:Int)<(l.length:Int))) rfl (λe1=>?_) (λe1=>?_))
 ·have p1:=Zg e1
  refine az<|aR<|aC<|Bv [.ix] [(3,p_ b1),(9,vS al l cl),(10,c_ l.length),(11,c_ k),(5,vS ao xs co),(6,b_ bp),(13,.pointer<|some<|(au al).add (k*14))] (o1<|io (k:Int)<|dh fJ (by decide) (cL r0<|by simp[aN])<|by omega) ?_
  obtain⟨x3,hx3⟩: ∃x,(l)[k]? =some x:=⟨_,Ze<|by omega⟩
  refine iI [.rd<|aX x3,.al,.st 2] [3,9,10,11,5,6,8] (λb4=>[(3,p_ b1),(9,vS al l cl),(10,c_ l.length),(11,c_ k),(5,vS ao xs co),(6,b_ bp),(8,p_ b4)]) (λb4=>[dy ao xs co,aA b1 (aX c) 62,aA b4 (aX x3) 62]) (λb4=>[b4]) (λ_=>(λκ=>κ.rd ((au al).add (k*14)) (aX x3)∧True)) (λ_=>by kernel_rfl) (λb4=>⟨dr (vs:=(aX x3)) fJ (cL r0<|by simp[aN]) hx3 (Nat.le_of_ble_eq_true rfl) rfl,trivial⟩) ?_
  intro b4
  refine bS<|bB [.o,.ld 2,.ld 1,.cl] [(8,p_ b4),(23,b_<|(!bp)&&(decide (x3.hi≥c.hi)))]<|aL (E:=(!bp)&&(decide (x3.hi≥c.hi))) rfl (λe2=>?_) (λe2=>?_)
  ·refine aC<|an 2 [.ld 1] [(24,vS ao xs co),(25,.agg (aX c).toArray)]<|aG<|eB 26 (e:=62) (aX c) (by kernel_rfl) rfl (λ_=>by kernel_rfl) (λb5=>[dy ao xs co,aA b1 (aX c) 62,aA b4 (aX x3) 62,aA b5 (aX c) 62]) (λ_=>rfl) ?_
   intro b5
   refine aG<|jZ (enc:=aX) (xs:=xs) ([c]) 0 27 (e:=62) (z:=BJ) (sz:=14) (by_:=112) (by kernel_rfl) rfl rfl rfl (by kernel_rfl) (by kernel_rfl) (by rfl) (by decide) fJ wm rfl (ef (i:=3) rfl) (by(simp_all<;>omega)) (λA6 c6=>[dy A6 (xs++([c])) c6,aA b1 (aX c) 62,aA b4 (aX x3) 62,aA b5 (aX c) 62]) (λ_ _=>rfl) ?_
   intro A6 c6
   refine aQ [(5,vS A6 (xs++([c])) c6)]<|bZ [(6,b_ true)]<|aC<|bB [.ld 2,.ld 1] [(32,b_<|x3.hi !=c.hi)]<|aL (E:=x3.hi !=c.hi) rfl (λe3=>?_) (λe3=>?_)
   ·refine aM<|k9 [.p,.ld 2] [(3,p_ b1),(9,vS al l cl),(10,c_ l.length),(11,c_ k),(5,vS A6 (xs++([c])) c6),(6,b_ true),(33,vS A6 (xs++([c])) c6),(34,.agg (aX x3).toArray)]<|aG<|eB 35 (e:=62) (aX x3) (by kernel_rfl) rfl (λ_=>by kernel_rfl) (λb7=>[dy A6 (xs++([c])) c6,aA b1 (aX c) 62,aA b4 (aX x3) 62,aA b5 (aX c) 62,aA b7 (aX x3) 62]) (λ_=>rfl) ?_
    intro b7
    refine aG<|jZ (enc:=aX) (xs:=xs++([c])) ([x3]) 0 36 (e:=62) (z:=BJ) (sz:=14) (by_:=112) (by kernel_rfl) rfl rfl rfl (by kernel_rfl) (by kernel_rfl) (by rfl) (by decide) fJ wm rfl (ef (i:=4) rfl) (by(simp_all<;>omega)) (λA8 c8=>[dy A8 ((xs++([c]))++([x3])) c8,aA b1 (aX c) 62,aA b4 (aX x3) 62,aA b5 (aX c) 62,aA b7 (aX x3) 62]) (λ_ _=>rfl) ?_
    intro A8 c8
    refine aQ [(5,vS A8 ((xs++([c]))++([x3])) c8)]<|aM<|aj [.w<|(k:Int)+1] [(11,i_<|(k:Int)+1)] (o1<|wj ((k:Int)+1)<|by omega)<|bN (k+1,A8,(xs++([c]))++([x3]),c8,true) ⟨(by omega),(by(simp_all<;>omega)),(by(rw[mK ‹_›];intro y;simp only[List.mem_append,List.mem_singleton,hm];grind))⟩ (by(simp;omega)) ?_
    exact bw [0,0] ⟨rfl,rfl,rfl,rfl,rfl,rfl,trivial⟩<|by kernel_rfl
   refine aO<|aM<|jK [.w<|(k:Int)+1] [(3,p_ b1),(9,vS al l cl),(10,c_ l.length),(11,i_<|(k:Int)+1),(5,vS A6 (xs++([c])) c6),(6,b_ true)] (o1<|wj ((k:Int)+1)<|by omega)<|bN (k+1,A6,xs++([c]),c6,true) ⟨(by omega),(by(simp_all<;>omega)),(by(rw[mK ‹_›];intro y;simp only[List.mem_append,List.mem_singleton,hm];grind))⟩ (by(simp;omega)) ?_
   exact bw [0,0] ⟨rfl,rfl,rfl,rfl,rfl,rfl,trivial⟩<|by kernel_rfl
  refine aO<|aC<|bB [.ld 2,.ld 1] [(32,b_<|x3.hi !=c.hi)]<|aL (E:=x3.hi !=c.hi) rfl (λe4=>?_) (λe4=>?_)
  ·refine aM<|an 2 [.ld 2] [(33,vS ao xs co),(34,.agg (aX x3).toArray)]<|aG<|eB 35 (e:=62) (aX x3) (by kernel_rfl) rfl (λ_=>by kernel_rfl) (λb9=>[dy ao xs co,aA b1 (aX c) 62,aA b4 (aX x3) 62,aA b9 (aX x3) 62]) (λ_=>rfl) ?_
   intro b9
   refine aG<|jZ (enc:=aX) (xs:=xs) ([x3]) 0 36 (e:=62) (z:=BJ) (sz:=14) (by_:=112) (by kernel_rfl) rfl rfl rfl (by kernel_rfl) (by kernel_rfl) (by rfl) (by decide) fJ wm rfl (ef (i:=3) rfl) (by(simp_all<;>omega)) (λA10 c10=>[dy A10 (xs++([x3])) c10,aA b1 (aX c) 62,aA b4 (aX x3) 62,aA b9 (aX x3) 62]) (λ_ _=>rfl) ?_
   intro A10 c10
   refine aQ [(5,vS A10 (xs++([x3])) c10)]<|aM<|aj [.w<|(k:Int)+1] [(11,i_<|(k:Int)+1)] (o1<|wj ((k:Int)+1)<|by omega)<|bN (k+1,A10,xs++([x3]),c10,bp) ⟨(by omega),(by(simp_all<;>omega)),(by(rw[mK ‹_›];intro y;simp only[List.mem_append,List.mem_singleton,hm];grind))⟩ (by(simp;omega)) ?_
   exact bw [0,0] ⟨rfl,rfl,rfl,rfl,rfl,rfl,trivial⟩<|by kernel_rfl
  refine aO<|aM<|aj [.w<|(k:Int)+1] [(11,i_<|(k:Int)+1)] (o1<|wj ((k:Int)+1)<|by omega)<|bN (k+1,ao,xs,co,bp) ⟨(by omega),(by(simp_all<;>omega)),(by(rw[mK ‹_›];intro y;simp only[List.mem_append,List.mem_singleton,hm];grind))⟩ (by(simp;omega)) ?_
  exact bw [0,0] ⟨rfl,rfl,rfl,rfl,rfl,rfl,trivial⟩<|by kernel_rfl
 have p1:=Zh e1
 refine bg<|bS<|da [] [(3,p_ b1),(5,vS ao xs co),(39,b_ (!bp))]<|aL (E:= !bp) rfl (λe5=>?_) (λe5=>?_)
 ·refine aM<|an 2 [.ld 1] [(40,vS ao xs co),(41,.agg (aX c).toArray)]<|aG<|eB 42 (e:=62) (aX c) (by kernel_rfl) rfl (λ_=>by kernel_rfl) (λb11=>[dy ao xs co,aA b1 (aX c) 62,aA b11 (aX c) 62]) (λ_=>rfl) ?_
  intro b11
  refine aG<|jZ (enc:=aX) (xs:=xs) ([c]) 0 43 (e:=62) (z:=BJ) (sz:=14) (by_:=112) (by kernel_rfl) rfl rfl rfl (by kernel_rfl) (by kernel_rfl) (by rfl) (by decide) fJ wm rfl (ef (i:=2) rfl) (by(simp_all<;>omega)) (λA12 c12=>[dy A12 (xs++([c])) c12,aA b1 (aX c) 62,aA b11 (aX c) 62]) (λ_ _=>rfl) ?_
  intro A12 c12
  refine aQ [(5,vS A12 (xs++([c])) c12)]<|aE [(4,vS A12 (xs++([c])) c12)]<|aF<|cP [0] [vS A12 (xs++([c])) c12] (λ_ w r s=>⟨cw r rfl,trivial⟩) (A12,xs++([c]),c12) ?_ ?_<|by kernel_rfl
  ·rfl
  refine⟨by(simp_all<;>omega),?_⟩;rw[List.take_of_length_le<|by omega] at hm;intro y;simp only[List.mem_append,List.mem_singleton,hm];grind
 refine aO<|aE [(4,vS ao xs co)]<|aF<|cP [0] [vS ao xs co] (λ_ w r s=>⟨cw r rfl,trivial⟩) (ao,xs,co) ?_ ?_<|by kernel_rfl
 ·rfl
 refine⟨by(simp_all<;>omega),?_⟩;rw[List.take_of_length_le<|by omega] at hm;intro y;simp only[List.mem_append,List.mem_singleton,hm];grind
theorem WW(al:k0)(l:List Cl)(cl:Nat)(hl:l.length≤100000)(w:World)(r0:dR w al (V.aP aX l))(hs:HI w []):
  CV 52 #[vS al l cl] w [] (λ((A',xs',c'):(k0)×(List Cv)×Nat)=>(vS A' xs' c')) (λ(A',xs',c')=>xs'.length≤l.length) λ(A',xs',c')=>[nO A' xs' c']:=by
 refine aU Tryz.func52 rfl hs (aE []<|aE [(3,e_)]<|aD<|aE [(6,vS al l cl),(7,c_ l.length),(8,i_ 0)]<|aR<|gW 60 3 [nO none ([]:List Cv) 0] rfl (fY (λ((k,ao,xs,co):Nat×(k0)×(List Cv)×Nat)=>[(6,vS al l cl),(7,c_ l.length),(8,c_ k),(3,vS ao xs co)]) (λ((k,ao,xs,co):Nat×(k0)×(List Cv)×Nat)=>[nO ao xs co]) (λ((k,ao,xs,co):Nat×(k0)×(List Cv)×Nat)=>(k≤l.length)∧(xs.length≤k)) (λ((k,ao,xs,co):Nat×(k0)×(List Cv)×Nat)=>l.length-k) (0,none,([]:List Cv),0) ⟨(by omega),(by(simp;done))⟩ ?_ ?_))
 ·exact bw [0] ⟨rfl,rfl,rfl,rfl,trivial⟩<|by kernel_rfl
 rintro⟨k,ao,xs,co⟩ ⟨hk,hx⟩
 refine dW [(6,vS al l cl),(7,c_ l.length),(8,c_ k),(3,vS ao xs co)] [nO ao xs co] ⟨rfl,rfl,rfl,rfl,trivial⟩ rfl (aE [(8,c_ k),(3,vS ao xs co),(9,Fa k l)]<|aD<|aL (E:=decide ((k:Int)<(l.length:Int))) rfl (λe1=>?_) (λe1=>?_))
 ·have p1:=Zg e1
  refine az<|aR<|aC<|jJ [.ix] [(10,.pointer<|some<|(au al).add (k*14))] (o1<|io (k:Int)<|dh fJ (by decide) (cL r0<|by simp[aN])<|by omega) ?_
  obtain⟨x2,hx2⟩: ∃x,(l)[k]? =some x:=⟨_,Ze<|by omega⟩
  refine iI [.rd<|aX x2,.al,.st 1] [6,7,8,3,5] (λb3=>[(6,vS al l cl),(7,c_ l.length),(8,c_ k),(3,vS ao xs co),(5,p_ b3)]) (λb3=>[nO ao xs co,aA b3 (aX x2) 62]) (λb3=>[b3]) (λ_=>(λκ=>κ.rd ((au al).add (k*14)) (aX x2)∧True)) (λ_=>by kernel_rfl) (λb3=>⟨dr (vs:=(aX x2)) fJ (cL r0<|by simp[aN]) hx2 (Nat.le_of_ble_eq_true rfl) rfl,trivial⟩) ?_
  intro b3
  refine aC<|jK [.ld 1,.cq<|i_<|bD x2.ra x2.rb x2.rc] [(6,vS al l cl),(7,c_ l.length),(8,c_ k),(3,vS ao xs co),(5,p_ b3),(15,b_<|decide ((bD x2.ra x2.rb x2.rc)>1))] (o1<|qw<|kD x2.ra x2.rb x2.rc)<|aL (E:=decide ((bD x2.ra x2.rb x2.rc)>1)) rfl (λe2=>?_) (λe2=>?_)
  ·have p2:=Zg e2
   refine aM<|an 3 [.ld 1] [(16,vS ao xs co),(18,.agg #[u_ x2.ra,u_ x2.rb,u_ x2.rc])]<|aG<|eB 19 (e:=60) [u_ x2.ra,u_ x2.rb,u_ x2.rc] (by kernel_rfl) rfl (λ_=>by kernel_rfl) (λb4=>[nO ao xs co,aA b3 (aX x2) 62,aA b4 [u_ x2.ra,u_ x2.rb,u_ x2.rc] 60]) (λ_=>rfl) ?_
   intro b4
   refine aG<|jZ (enc:=de) (xs:=xs) ([hY x2]) 0 20 (e:=60) (z:=(.agg #[u_ 0,u_ 0,u_ 0])) (sz:=3) (by_:=24) (by kernel_rfl) rfl rfl rfl (by kernel_rfl) (by kernel_rfl) (by rfl) (by decide) pL Hm rfl (ef (i:=2) rfl) (by(simp_all<;>omega)) (λA5 c5=>[nO A5 (xs++([hY x2])) c5,aA b3 (aX x2) 62,aA b4 [u_ x2.ra,u_ x2.rb,u_ x2.rc] 60]) (λ_ _=>rfl) ?_
   intro A5 c5
   refine aQ [(3,vS A5 (xs++([hY x2])) c5)]<|aM<|aj [.w<|(k:Int)+1] [(8,i_<|(k:Int)+1)] (o1<|wj ((k:Int)+1)<|by omega)<|bN (k+1,A5,xs++([hY x2]),c5) ⟨(by omega),(by(simp_all<;>omega))⟩ (by(simp;omega)) ?_
   exact bw [0] ⟨rfl,rfl,rfl,rfl,trivial⟩<|by kernel_rfl
  have p2:=Zh e2
  refine aO<|aM<|aj [.w<|(k:Int)+1] [(8,i_<|(k:Int)+1)] (o1<|wj ((k:Int)+1)<|by omega)<|bN (k+1,ao,xs,co) ⟨(by omega),(by(simp_all<;>omega))⟩ (by(simp;omega)) ?_
  exact bw [0] ⟨rfl,rfl,rfl,rfl,trivial⟩<|by kernel_rfl
 have p1:=Zh e1
 refine bg<|aE [(2,vS ao xs co)]<|aF<|cP [0] [vS ao xs co] (λ_ w r s=>⟨cw r rfl,trivial⟩) (ao,xs,co) ?_ ?_<|by kernel_rfl
 ·rfl
 omega
def vl(z:Zc)(l m:List Cl):Prop:=((z.zk=1∨z.zk=3)∧ ∀y,y∈m↔y=oO z∨(y∈l∧y.hi≠(oO z).hi))∨(z.zk=2∧ ∀y,y∈m↔y∈l∧y.hi≠z.zi)
inductive lj(c:List Zc):Nat→List Cl→Prop
 |nil:lj c 0 []
 |snoc {k:Nat} {z:Zc} {l m:List Cl}:lj c k l→c[k]? =some z→vl z l m→lj c (k+1) m
theorem WX(al:k0)(l:List Cl)(cl:Nat)(c:Cl)(hl:l.length≤100000):
  CS 80 #[vS al l cl,.agg (aX c).toArray] [dy al l cl] (λ((A',xs',c',e):(k0)×(List Cl)×Nat×Int)=>(.agg #[vS A' xs' c',i_ e])) (λ(A',xs',c',e)=>xs'.length≤l.length+1∧(e=0→ ∀y,y∈xs'↔y=c∨(y∈l∧y.hi≠c.hi))) λ(A',xs',c',e)=>[dy A' xs' c']:=by
 intro w hs
 refine aU Tryz.func80 rfl hs (aC<|iK [.al,.al] [1] (λb1 b2=>[(3,p_ b1),(4,p_ b2)]) (λb1 b2=>[aA b1 (aX c) 62,aA b2 [e_,i_ 0] 122]) ?_)
 intro b1 b2
 refine aD<|aC<|gK [.ld 1] [] [(7,.agg (aX c).toArray)]<|aG<|dH (some 8) [] (λw s h=>Iy c w h) ?_
 rintro v3-
 refine db [.p] [7,8] [(5,i_ v3)]<|aC<|db [.p,.p] [] [(10,b_<|v3 !=0)]<|iD (v3 !=0) (λe2=>?_)<|λe2=>?_
 ·have p2:=e2;try simp only[cR] at p2
  refine aC<|gl [.p,.p,.p,.st 2] [0,3,5,10] [] [(2,aA b2 [vS al l cl,i_ v3] 122)]<|aF<|cP [0] [.agg #[vS al l cl,i_ v3]] (λ_ w r s=>⟨dS 2 r s,trivial⟩) (al,l,cl,v3) ?_ ?_<|by kernel_rfl
  ·rfl
  (refine⟨by omega,λh_=>absurd h_ ‹_›⟩)
 refine aO<|aD<|aC<|gK [.p,.p,.ld 1] [5,10] [(14,vS al l cl),(16,i_ c.hi)]<|aG<|dH (some 17) [] (λw s h=>xW al l cl c.hi ‹_› w ((bW (i:=0) rfl) w s) h) ?_
 rintro v4 hz3
 refine db [.p] [14,16,17] [(18,b_<|decide (v4≥0))]<|aL rfl (λe4=>?_) (λe4=>?_)
 ·have p4:=Zg e4
  refine aC<|gl [.p,.p,.st 2] [0,3,18] [] [(2,aA b2 [vS al l cl,i_ 8] 122)]<|aF<|cP [0] [.agg #[vS al l cl,i_ 8]] (λ_ w r s=>⟨dS 2 r s,trivial⟩) (al,l,cl,8) ?_ ?_<|by kernel_rfl
  ·rfl
  (refine⟨by omega,λh_=>absurd h_<|by decide⟩)
 have p4:=Zh e4
 refine aO<|aD<|aC<|db (ps 3) [18] [(23,b_<|(l.length:Int)==64)]<|aL rfl (λe5=>?_) (λe5=>?_)
 ·refine aC<|gl [.p,.p,.st 2] [0,3,23] [] [(2,aA b2 [vS al l cl,i_ 5] 122)]<|aF<|cP [0] [.agg #[vS al l cl,i_ 5]] (λ_ w r s=>⟨dS 2 r s,trivial⟩) (al,l,cl,5) ?_ ?_<|by kernel_rfl
  ·rfl
  (refine⟨by omega,λh_=>absurd h_<|by decide⟩)
 refine aO<|aC<|gK [.p,.p,.ld 1] [23] [(26,vS al l cl),(28,i_ c.hp)]<|aG<|dH (some 29) [] (λw s h=>xW al l cl c.hp ‹_› w ((bW (i:=0) rfl) w s) h) ?_
 rintro v5 hz6
 refine db [.p] [26,28,29] [(6,i_ v5)]<|aD<|aD ?_
 by_cases ho:v5= -1
 ·refine dO 6 (i_ (-1)) (qI ho)<|aM<|gK [.p,.ld 1,.p,.p] [] [(33,b_<|c.hp !=0)]<|i5 (c.hp !=0) (λe7=>?_)<|λe7=>?_
  ·refine dO 33 (b_ true) (gB e7)<|db [.p,.p,.p,.sk,.sk,.sk,.sk,.sk,.p,.p] [6,33] [(43,b_ true)]<|dU<|aC<|gl [.p,.p,.st 2] [0,3,43] [] [(2,aA b2 [vS al l cl,i_ 23] 122)]<|aF<|cP [0] [.agg #[vS al l cl,i_ 23]] (λ_ w r s=>⟨dS 2 r s,trivial⟩) (al,l,cl,23) ?_ ?_<|by kernel_rfl
   ·rfl
   (refine⟨by omega,λh_=>absurd h_<|by decide⟩)
  refine dO 33 (b_ false) (gB e7)<|db [.sk,.sk,.sk,.sk,.sk,.sk,.sk,.sk,.sk,.p] [6,33] [(43,b_ false)]<|bM<|aO<|aD<|aC<|u1 [.p,.ld 1,.cq<|i_<|bD c.la c.lb c.lc,.p,.p] [43] [(50,b_<|decide ((bD c.la c.lb c.lc)>1))] (o1<|qo<|λw s=>kD c.la c.lb c.lc w)<|i5 (decide ((bD c.la c.lb c.lc)>1)) (λe8=>?_)<|λe8=>?_
  ·refine dO 50 (b_ true) (gB e8)<|gK [.p,.p,.ld 1] [] [(51,vS al l cl),(53,i_ c.hp)]<|aG<|dH (some 54) [] (λw s h=>BI al l cl c.hp ‹_› w ((bW (i:=0) rfl) w s) h) ?_
   rintro b6-
   refine db [.p,.p] [50,51,53,54] [(56,b_ (!b6))]<|iD (!b6) (λe10=>?_)<|λe10=>?_
   ·refine aC<|gl [.p,.p,.st 2] [0,3,56] [] [(2,aA b2 [vS al l cl,i_ 29] 122)]<|aF<|cP [0] [.agg #[vS al l cl,i_ 29]] (λ_ w r s=>⟨dS 2 r s,trivial⟩) (al,l,cl,29) ?_ ?_<|by kernel_rfl
    ·rfl
    (refine⟨by omega,λh_=>absurd h_<|by decide⟩)
   refine aO<|aD<|aC<|gK [.p,.p,.ld 1] [56] [(59,vS al l cl),(61,i_ c.hp)]<|aG<|dH (some 62) [] (λw s h=>B0 al l cl c.hp ‹_› w ((bW (i:=0) rfl) w s) h) ?_
   rintro⟨A'7,xs'8,c'9⟩ hz11
   refine db [.p,.p] [] [(3,p_ b1),(4,p_ b2),(64,b_<|decide ((xs'8.length:Int)≥16))]<|aL rfl (λe12=>?_) (λe12=>?_)
   ·have p12:=Zg e12
    refine aC<|gl [.p,.p,.st 3] [0,3,64] [] [(3,aA b2 [vS al l cl,i_ 25] 122)]<|aF<|cP [1] [.agg #[vS al l cl,i_ 25]] (λ_ w r s=>⟨dS 3 r s,trivial⟩) (al,l,cl,25) ?_ ?_<|by kernel_rfl
    ·rfl
    (refine⟨by omega,λh_=>absurd h_<|by decide⟩)
   have p12:=Zh e12
   refine aO<|aC<|gK [.p,.ld 2] [0,3,64] [(67,vS al l cl),(68,.agg (aX c).toArray)]<|aG<|dH (some 69) [] (λw s h=>vW al l cl c ‹_› w ((bW (i:=1) rfl) w s) h) ?_
   rintro⟨A'11,xs'12,c'13⟩ hz13
   refine gl [.p,.st 4] [67,68,69] [] [(4,aA b2 [vS A'11 xs'12 c'13,i_ 0] 122)]<|aF<|cP [0] [.agg #[vS A'11 xs'12 c'13,i_ 0]] (λ_ w r s=>⟨dS 4 r s,trivial⟩) (A'11,xs'12,c'13,0) ?_ ?_<|by kernel_rfl
   ·rfl
   (refine⟨by omega,λ_=>?_⟩;exact(by assumption:_∧_).2)
  refine dO 50 (b_ false) (gB e8)<|db [.sk,.sk,.sk,.sk,.sk,.p] [50] [(56,b_ false)]<|bM<|aO<|aD<|aC<|gK [.p,.p,.ld 1] [56] [(59,vS al l cl),(61,i_ c.hp)]<|aG<|dH (some 62) [] (λw s h=>B0 al l cl c.hp ‹_› w ((bW (i:=0) rfl) w s) h) ?_
  rintro⟨A'15,xs'16,c'17⟩ hz14
  refine db [.p,.p] [59,61,62] [(64,b_<|decide ((xs'16.length:Int)≥16))]<|aL rfl (λe15=>?_) (λe15=>?_)
  ·have p15:=Zg e15
   refine aC<|gl [.p,.p,.st 3] [] [(4,p_ b2)] [(3,aA b2 [vS al l cl,i_ 25] 122)]<|aF<|cP [1] [.agg #[vS al l cl,i_ 25]] (λ_ w r s=>⟨dS 3 r s,trivial⟩) (al,l,cl,25) ?_ ?_<|by kernel_rfl
   ·rfl
   (refine⟨by omega,λh_=>absurd h_<|by decide⟩)
  have p15:=Zh e15
  refine aO<|aC<|gK [.p,.ld 2] [] [(4,p_ b2),(67,vS al l cl),(68,.agg (aX c).toArray)]<|aG<|dH (some 69) [] (λw s h=>vW al l cl c ‹_› w ((bW (i:=1) rfl) w s) h) ?_
  rintro⟨A'19,xs'20,c'21⟩ hz16
  refine gl [.p,.st 4] [67,68,69] [] [(4,aA b2 [vS A'19 xs'20 c'21,i_ 0] 122)]<|aF<|cP [0] [.agg #[vS A'19 xs'20 c'21,i_ 0]] (λ_ w r s=>⟨dS 4 r s,trivial⟩) (A'19,xs'20,c'21,0) ?_ ?_<|by kernel_rfl
  ·rfl
  (refine⟨by omega,λ_=>?_⟩;exact(by assumption:_∧_).2)
 obtain⟨m,x,hv,hx⟩:=hz6.resolve_left ho;have hlt:=(Zf.1 hx).1
 refine dO 6 (c_ m) (qI hv)<|aM<|lH [.p,.ld 1,.p,.p,.o,.p,.p,.p,.o,.p,.p,.ix,.p,.rd [b_ x.hl],.cl,.cl] [6] [(43,b_<|(c.hp !=0)&&((decide ((m:Int)<0))||x.hl))] (oc (go ((true&&((c.hp !=0)==true))&&((decide ((m:Int)<0))==false)) λh_=>(jV 0 m fJ rfl (by omega)))<|o1<|go ((true&&((c.hp !=0)==true))&&((decide ((m:Int)<0))==false)) λh_=>(ro (((au al).add (m*14)).add 2)<|j8 (f:=2) (vs:=[b_ x.hl]) fJ (bW (i:=0) rfl) hx (by simp) rfl))<|aL rfl (λe17=>?_) (λe17=>?_)
 ·refine aC<|gl [.p,.p,.st 2] [0,3,43] [] [(2,aA b2 [vS al l cl,i_ 23] 122)]<|aF<|cP [0] [.agg #[vS al l cl,i_ 23]] (λ_ w r s=>⟨dS 2 r s,trivial⟩) (al,l,cl,23) ?_ ?_<|by kernel_rfl
  ·rfl
  (refine⟨by omega,λh_=>absurd h_<|by decide⟩)
 refine aO<|aD<|aC<|u1 [.p,.ld 1,.cq<|i_<|bD c.la c.lb c.lc,.p,.p] [43] [(50,b_<|decide ((bD c.la c.lb c.lc)>1))] (o1<|qo<|λw s=>kD c.la c.lb c.lc w)<|i5 (decide ((bD c.la c.lb c.lc)>1)) (λe18=>?_)<|λe18=>?_
 ·refine dO 50 (b_ true) (gB e18)<|gK [.p,.p,.ld 1] [] [(51,vS al l cl),(53,i_ c.hp)]<|aG<|dH (some 54) [] (λw s h=>BI al l cl c.hp ‹_› w ((bW (i:=0) rfl) w s) h) ?_
  rintro b23-
  refine db [.p,.p] [50,51,53,54] [(56,b_ (!b23))]<|iD (!b23) (λe20=>?_)<|λe20=>?_
  ·refine aC<|gl [.p,.p,.st 2] [0,3,56] [] [(2,aA b2 [vS al l cl,i_ 29] 122)]<|aF<|cP [0] [.agg #[vS al l cl,i_ 29]] (λ_ w r s=>⟨dS 2 r s,trivial⟩) (al,l,cl,29) ?_ ?_<|by kernel_rfl
   ·rfl
   (refine⟨by omega,λh_=>absurd h_<|by decide⟩)
  refine aO<|aD<|aC<|gK [.p,.p,.ld 1] [56] [(59,vS al l cl),(61,i_ c.hp)]<|aG<|dH (some 62) [] (λw s h=>B0 al l cl c.hp ‹_› w ((bW (i:=0) rfl) w s) h) ?_
  rintro⟨A'24,xs'25,c'26⟩ hz21
  refine db [.p,.p] [59,61,62] [(64,b_<|decide ((xs'25.length:Int)≥16))]<|aL rfl (λe22=>?_) (λe22=>?_)
  ·have p22:=Zg e22
   refine aC<|gl [.p,.p,.st 3] [] [(4,p_ b2)] [(3,aA b2 [vS al l cl,i_ 25] 122)]<|aF<|cP [1] [.agg #[vS al l cl,i_ 25]] (λ_ w r s=>⟨dS 3 r s,trivial⟩) (al,l,cl,25) ?_ ?_<|by kernel_rfl
   ·rfl
   (refine⟨by omega,λh_=>absurd h_<|by decide⟩)
  have p22:=Zh e22
  refine aO<|aC<|gK [.p,.ld 2] [] [(4,p_ b2),(67,vS al l cl),(68,.agg (aX c).toArray)]<|aG<|dH (some 69) [] (λw s h=>vW al l cl c ‹_› w ((bW (i:=1) rfl) w s) h) ?_
  rintro⟨A'28,xs'29,c'30⟩ hz23
  refine gl [.p,.st 4] [67,68,69] [] [(4,aA b2 [vS A'28 xs'29 c'30,i_ 0] 122)]<|aF<|cP [0] [.agg #[vS A'28 xs'29 c'30,i_ 0]] (λ_ w r s=>⟨dS 4 r s,trivial⟩) (A'28,xs'29,c'30,0) ?_ ?_<|by kernel_rfl
  ·rfl
  (refine⟨by omega,λ_=>?_⟩;exact(by assumption:_∧_).2)
 refine dO 50 (b_ false) (gB e18)<|db [.sk,.sk,.sk,.sk,.sk,.p] [50] [(56,b_ false)]<|bM<|aO<|aD<|aC<|gK [.p,.p,.ld 1] [56] [(59,vS al l cl),(61,i_ c.hp)]<|aG<|dH (some 62) [] (λw s h=>B0 al l cl c.hp ‹_› w ((bW (i:=0) rfl) w s) h) ?_
 rintro⟨A'32,xs'33,c'34⟩ hz24
 refine db [.p,.p] [59,61,62] [(64,b_<|decide ((xs'33.length:Int)≥16))]<|aL rfl (λe25=>?_) (λe25=>?_)
 ·have p25:=Zg e25
  refine aC<|gl [.p,.p,.st 3] [0,3,64] [] [(3,aA b2 [vS al l cl,i_ 25] 122)]<|aF<|cP [1] [.agg #[vS al l cl,i_ 25]] (λ_ w r s=>⟨dS 3 r s,trivial⟩) (al,l,cl,25) ?_ ?_<|by kernel_rfl
  ·rfl
  (refine⟨by omega,λh_=>absurd h_<|by decide⟩)
 have p25:=Zh e25
 refine aO<|aC<|gK [.p,.ld 2] [0,3,64] [(67,vS al l cl),(68,.agg (aX c).toArray)]<|aG<|dH (some 69) [] (λw s h=>vW al l cl c ‹_› w ((bW (i:=1) rfl) w s) h) ?_
 rintro⟨A'36,xs'37,c'38⟩ hz26
 refine gl [.p,.st 4] [] [(4,p_ b2)] [(4,aA b2 [vS A'36 xs'37 c'38,i_ 0] 122)]<|aF<|cP [0] [.agg #[vS A'36 xs'37 c'38,i_ 0]] (λ_ w r s=>⟨dS 4 r s,trivial⟩) (A'36,xs'37,c'38,0) ?_ ?_<|by kernel_rfl
 ·rfl
 (refine⟨by omega,λ_=>?_⟩;exact(by assumption:_∧_).2)
theorem WY(al:k0)(l:List Cl)(cl:Nat)(a:Int)(hl:l.length≤100000):
  CS 81 #[vS al l cl,i_ a] [dy al l cl] (λ((A',xs',c',e):(k0)×(List Cl)×Nat×Int)=>(.agg #[vS A' xs' c',i_ e])) (λ(A',xs',c',e)=>xs'.length≤l.length+1∧(e=0→ ∀y,y∈xs'↔y∈l∧y.hi≠a)) λ(A',xs',c',e)=>[dy A' xs' c']:=by
 intro w hs
 refine aU Tryz.func81 rfl hs (aC<|dM [.al] [] (λb1=>[(4,p_ b1)]) (λ_=>[]) (λb1=>aA b1 [e_,i_ 0] 122) ?_)
 intro b1
 refine aD<|aC<|gK [.p,.p] [] [(8,vS al l cl),(9,i_ a)]<|aG<|dH (some 10) [] (λw s h=>xW al l cl a ‹_› w ((bW (i:=0) rfl) w s) h) ?_
 rintro v2 hz1
 refine da [.p] [(0,vS al l cl),(1,i_ a),(4,p_ b1),(11,b_<|decide (v2<0))]<|aL (E:=decide (v2<0)) rfl (λe2=>?_) (λe2=>?_)
 ·have p2:=Zg e2
  refine aC<|gl [.p,.p,.st 1] [] [] [(1,aA b1 [vS al l cl,i_ 6] 122)]<|aF<|cP [0] [.agg #[vS al l cl,i_ 6]] (λ_ w r s=>⟨dS 1 r s,trivial⟩) (al,l,cl,6) ?_ ?_<|by kernel_rfl
  ·rfl
  (refine⟨by omega,λh_=>absurd h_<|by decide⟩)
 have p2:=Zh e2
 refine aO<|aD<|aC<|gK [.p,.p] [] [(14,vS al l cl),(15,i_ a)]<|aG<|dH (some 16) [] (λw s h=>Fb al l cl a ‹_› w ((bW (i:=0) rfl) w s) h) ?_
 rintro⟨A'3,xs'4,c'5⟩ hz3
 dsimp only at hz3
 refine db [.p,.p] [] [(18,b_<|decide ((xs'4.length:Int)>0))]<|aL (E:=decide ((xs'4.length:Int)>0)) rfl (λe4=>?_) (λe4=>?_)
 ·have p4:=Zg e4
  refine aC<|CC [.p,.p,.st 2] [(4,p_ b1)] [(2,aA b1 [vS al l cl,i_ 23] 122)]<|aF<|cP [1] [.agg #[vS al l cl,i_ 23]] (λ_ w r s=>⟨dS 2 r s,trivial⟩) (al,l,cl,23) ?_ ?_<|by kernel_rfl
  ·rfl
  (refine⟨by omega,λh_=>absurd h_<|by decide⟩)
 have p4:=Zh e4
 refine aO<|aC<|da [.p] [(0,vS al l cl),(1,i_ a),(4,p_ b1),(5,e_)]<|aD<|aC<|db (ps 3) [] [(21,vS al l cl),(22,c_ l.length),(23,i_ 0)]<|aR<|gW 62 14 [sI A'3 xs'4 c'5,dy al l cl,aA b1 [e_,i_ 0] 122,dy none ([]:List Cl) 0] rfl (fY (λ((k,ao,xs,co):Nat×(k0)×(List Cl)×Nat)=>[(1,i_ a),(4,p_ b1),(21,vS al l cl),(22,c_ l.length),(23,c_ k),(5,vS ao xs co)]) (λ((k,ao,xs,co):Nat×(k0)×(List Cl)×Nat)=>[dy ao xs co,sI A'3 xs'4 c'5,dy al l cl,aA b1 [e_,i_ 0] 122]) (λ((k,ao,xs,co):Nat×(k0)×(List Cl)×Nat)=>(k≤l.length)∧(xs.length≤k)∧(∀y,y∈xs↔y∈l.take k∧y.hi≠a)) (λ((k,ao,xs,co):Nat×(k0)×(List Cl)×Nat)=>l.length-k) (0,none,([]:List Cl),0) ⟨(by omega),(by(simp;done)),(by(simp;done))⟩ ?_ ?_)
 ·exact bw [3,0,0,0] ⟨rfl,rfl,rfl,rfl,rfl,rfl,trivial⟩<|by kernel_rfl
 rintro⟨k,ao,xs,co⟩ ⟨hk,hx,hm⟩
 refine dW [(1,i_ a),(4,p_ b1),(21,vS al l cl),(22,c_ l.length),(23,c_ k),(5,vS ao xs co)] [dy ao xs co,sI A'3 xs'4 c'5,dy al l cl,aA b1 [e_,i_ 0] 122] ⟨rfl,rfl,rfl,rfl,rfl,rfl,trivial⟩ rfl (aC<|db [.p] [] [(23,c_ k),(5,vS ao xs co),(24,b_<|decide ((k:Int)<(l.length:Int)))]<|aD<|aL (E:=decide ((k:Int)<(l.length:Int))) rfl (λe5=>?_) (λe5=>?_))
 ·have p5:=Zg e5
  refine aO<|aD<|aR<|aC<|Bv [.ix] [(1,i_ a),(4,p_ b1),(21,vS al l cl),(22,c_ l.length),(23,c_ k),(5,vS ao xs co),(25,.pointer<|some<|(au al).add (k*14))] (o1<|io (k:Int)<|dh fJ (by decide) (bW (i:=2) rfl)<|by omega) ?_
  obtain⟨x8,hx8⟩: ∃x,(l)[k]? =some x:=⟨_,Ze<|by omega⟩
  refine iI [.rd<|aX x8,.al,.st 4] [1,4,21,22,23,5,7] (λb9=>[(1,i_ a),(4,p_ b1),(21,vS al l cl),(22,c_ l.length),(23,c_ k),(5,vS ao xs co),(7,p_ b9)]) (λb9=>[dy ao xs co,sI A'3 xs'4 c'5,dy al l cl,aA b1 [e_,i_ 0] 122,aA b9 (aX x8) 62]) (λb9=>[b9]) (λ_=>(λκ=>κ.rd ((au al).add (k*14)) (aX x8)∧True)) (λ_=>by kernel_rfl) (λb9=>⟨dr (vs:=(aX x8)) fJ (bW (i:=2) rfl) hx8 (Nat.le_of_ble_eq_true rfl) rfl,trivial⟩) ?_
  intro b9
  refine aC<|db [.p,.ld 4,.p,.p] [] [(7,p_ b9),(30,b_<|x8.hi !=a)]<|aL (E:=x8.hi !=a) rfl (λe6=>?_) (λe6=>?_)
  ·refine aM<|gK [.p,.ld 4] [] [(31,vS ao xs co),(32,.agg (aX x8).toArray)]<|aG<|eB 33 (e:=62) (aX x8) (by kernel_rfl) rfl (λ_=>by kernel_rfl) (λb10=>[dy ao xs co,sI A'3 xs'4 c'5,dy al l cl,aA b1 [e_,i_ 0] 122,aA b9 (aX x8) 62,aA b10 (aX x8) 62]) (λ_=>rfl) ?_
   intro b10
   refine aG<|jZ (enc:=aX) (xs:=xs) ([x8]) 0 34 (e:=62) (z:=(.agg #[i_ 0,i_ 0,b_ false,u_ 0,u_ 0,u_ 0,u_ 0,u_ 0,u_ 0,u_ 0,u_ 0,u_ 0,i_ 0,i_ 0])) (sz:=14) (by_:=112) (by kernel_rfl) rfl rfl rfl (by kernel_rfl) (by kernel_rfl) (by rfl) (by decide) fJ wm rfl (ef (i:=5) rfl) (by(simp_all<;>omega)) (λA11 c11=>[dy A11 (xs++([x8])) c11,sI A'3 xs'4 c'5,dy al l cl,aA b1 [e_,i_ 0] 122,aA b9 (aX x8) 62,aA b10 (aX x8) 62]) (λ_ _=>rfl) ?_
   intro A11 c11
   refine da [.p] [(1,i_ a),(4,p_ b1),(21,vS al l cl),(22,c_ l.length),(23,c_ k),(5,vS A11 (xs++([x8])) c11)]<|aM<|lH [.w<|(k:Int)+1,.p] [] [(23,i_<|(k:Int)+1)] (o1<|wj ((k:Int)+1)<|by omega)<|bN (k+1,A11,xs++([x8]),c11) ⟨(by omega),(by(simp_all<;>omega)),(by(rw[mK ‹_›];intro y;simp only[List.mem_append,List.mem_singleton,hm];grind))⟩ (by(simp;omega)) ?_
   exact bw [0,0,0,0] ⟨rfl,rfl,rfl,rfl,rfl,rfl,trivial⟩<|by kernel_rfl
  refine aO<|aM<|lH [.w<|(k:Int)+1,.p] [] [(23,i_<|(k:Int)+1)] (o1<|wj ((k:Int)+1)<|by omega)<|bN (k+1,ao,xs,co) ⟨(by omega),(by(simp_all<;>omega)),(by(rw[mK ‹_›];intro y;simp only[List.mem_append,List.mem_singleton,hm];grind))⟩ (by(simp;omega)) ?_
  exact bw [0,0,0,0] ⟨rfl,rfl,rfl,rfl,rfl,rfl,trivial⟩<|by kernel_rfl
 have p5:=Zh e5
 refine bg<|aC<|CC [.p,.p,.st 3] [(4,p_ b1)] [(3,aA b1 [vS ao xs co,i_ 0] 122)]<|aF<|cP [0] [.agg #[vS ao xs co,i_ 0]] (λ_ w r s=>⟨dS 3 r s,trivial⟩) (ao,xs,co,0) ?_ ?_<|by kernel_rfl
 ·rfl
 (refine⟨by omega,λ_=>?_⟩;rw[List.take_of_length_le<|by omega] at hm;exact hm)
abbrev BK(p0)(p1)(p2)(p3)(p4)(p5)(p6)(p7)(p8):=([sI p0 p1 p2,dy p3 p4 p5,aA p6 (aX p7) 62,aA p8 [e_,i_ 0] 122]:List V.aI)
theorem WZ(al:k0)(l:List Cl)(cl:Nat)(c:Cl)(hl:l.length≤100000):
  CS 82 #[vS al l cl,.agg (aX c).toArray] [dy al l cl] (λ((A',xs',c',e):(k0)×(List Cl)×Nat×Int)=>(.agg #[vS A' xs' c',i_ e])) (λ(A',xs',c',e)=>xs'.length≤l.length+1∧(e=0→ ∀y,y∈xs'↔y=c∨(y∈l∧y.hi≠c.hi))) λ(A',xs',c',e)=>[dy A' xs' c']:=by
 intro w hs
 refine aU Tryz.func82 rfl hs (aC<|wK [.al,.al] [0,3,4] (λb1 b2=>[(0,vS al l cl),(3,p_ b1),(4,p_ b2)]) (λb1 b2=>[dy al l cl,aA b1 (aX c) 62,aA b2 [e_,i_ 0] 122]) (λb1 b2=>[]) (λ_ _=>T0) (λ_ _=>by kernel_rfl) (λb1 b2=>trivial) ?_)
 intro b1 b2
 refine aD<|aC<|gK [.ld 1] [] [(3,p_ b1),(4,p_ b2),(10,.agg (aX c).toArray)]<|aG<|dH (some 11) [] (λw s h=>Iy c w h) ?_
 rintro v3-
 refine db [.p] [] [(5,i_ v3)]<|aC<|da [.p,.p] [(0,vS al l cl),(3,p_ b1),(4,p_ b2),(5,i_ v3),(13,b_<|v3 !=0)]<|aL (E:=v3 !=0) rfl (λe2=>?_) (λe2=>?_)
 ·have p2:=e2;try simp only[cR] at p2
  refine aC<|gl [.p,.p,.p,.st 2] [] [] [(2,aA b2 [vS al l cl,i_ v3] 122)]<|aF<|cP [0] [.agg #[vS al l cl,i_ v3]] (λ_ w r s=>⟨dS 2 r s,trivial⟩) (al,l,cl,v3) ?_ ?_<|by kernel_rfl
  ·rfl
  (refine⟨by omega,λh_=>absurd h_ ‹_›⟩)
 refine aO<|aC<|gK [.p,.p,.ld 1] [] [(17,vS al l cl),(19,i_ c.hi)]<|aG<|dH (some 20) [] (λw s h=>xW al l cl c.hi ‹_› w ((bW (i:=0) rfl) w s) h) ?_
 rintro v4 hz3
 refine db [.p] [] [(6,i_ v4)]<|aD<|aD ?_
 by_cases ho:v4= -1
 ·refine ei [(0,vS al l cl),(3,p_ b1),(4,p_ b2),(6,i_ (-1))] ⟨rfl,rfl,rfl,congrArg (λz_=>some<|i_ z_) (by exact ho:v4= -1),trivial⟩<|aM<|da [.p,.p] [(0,vS al l cl),(3,p_ b1),(4,p_ b2),(6,i_ (-1)),(22,b_ true)]<|iw rfl (aC<|gl [.p,.p,.st 2] [] [] [(2,aA b2 [vS al l cl,i_ 6] 122)]<|aF<|cP [0] [.agg #[vS al l cl,i_ 6]] (λ_ w r s=>⟨dS 2 r s,trivial⟩) (al,l,cl,6) ?_ ?_<|by kernel_rfl)
  ·rfl
  (refine⟨by omega,λh_=>absurd h_<|by decide⟩)
 obtain⟨m,x,hv,hx⟩:=hz3.resolve_left ho;have hlt:=(Zf.1 hx).1
 refine ei [(0,vS al l cl),(3,p_ b1),(4,p_ b2),(6,c_ m)] ⟨rfl,rfl,rfl,congrArg (λz_=>some<|i_ z_) (by exact hv:v4=(m:Int)),trivial⟩<|aM<|da [.p,.p] [(0,vS al l cl),(3,p_ b1),(4,p_ b2),(6,c_ m),(22,b_<|decide ((m:Int)<0))]<|aL (E:=decide ((m:Int)<0)) rfl (λe4=>?_) (λe4=>?_)
 ·exact absurd e4<|by(intro h_;simp at h_;omega)
 have p4:=Zh e4
 refine aO<|aD<|aD<|mH [.p,.p,.ix,.p,.rd [i_ x.hp],.p,.ld 1,.p,.p,.o,.p,.p,.ix,.p,.rd [b_ x.hl],.p,.ld 1,.eq,.cl] [0,1,2,3,4,5,6,7,8,9,10,11,12,13,14,15,16,17] [(0,vS al l cl),(3,p_ b1),(4,p_ b2),(42,b_<|(x.hp !=c.hp)||(!(x.hl==c.hl)))] [b1,b1] (λκ=>κ.ix al l.length (m:Int)∧κ.rd (((au al).add (m*14)).add 1) [i_ x.hp]∧((true&&((x.hp !=c.hp)==false))=true→κ.ix al l.length (m:Int))∧((true&&((x.hp !=c.hp)==false))=true→κ.rd (((au al).add (m*14)).add 2) [b_ x.hl])∧True) (by kernel_rfl) (by kernel_rfl) ⟨dh fJ (by decide) (bW (i:=0) rfl)<|by omega,j8 (f:=1) (vs:=[i_ x.hp]) fJ (bW (i:=0) rfl) hx (by simp) rfl,(λh_=>(dh fJ (by decide) (bW (i:=0) rfl)<|by omega)),(λh_=>(j8 (f:=2) (vs:=[b_ x.hl]) fJ (bW (i:=0) rfl) hx (by simp) rfl)),trivial⟩<|aL (E:=(x.hp !=c.hp)||(!(x.hl==c.hl))) rfl (λe5=>?_) (λe5=>?_)
 ·refine aC<|gl [.p,.p,.st 2] [] [] [(2,aA b2 [vS al l cl,i_ 1] 122)]<|aF<|cP [0] [.agg #[vS al l cl,i_ 1]] (λ_ w r s=>⟨dS 2 r s,trivial⟩) (al,l,cl,1) ?_ ?_<|by kernel_rfl
  ·rfl
  (refine⟨by omega,λh_=>absurd h_<|by decide⟩)
 refine aO<|aC<|lH [.p,.ld 1,.cq<|i_<|bD c.la c.lb c.lc,.p,.p] [] [(7,b_<|decide ((bD c.la c.lb c.lc)>1))] (o1<|qo<|λw s=>kD c.la c.lb c.lc w)<|aD<|aC<|gK [.p,.p] [] [(50,b_<|decide ((bD c.la c.lb c.lc)>1))]<|i5 (decide ((bD c.la c.lb c.lc)>1)) (λe6=>?_)<|λe6=>?_
 ·refine ei [(0,vS al l cl),(3,p_ b1),(4,p_ b2),(7,b_ true),(50,b_ true)] ⟨rfl,rfl,rfl,congrArg (λz=>some<|Value.bool z) e6,congrArg (λz=>some<|Value.bool z) e6,trivial⟩<|k9 [.p,.p,.ld 1] [(0,vS al l cl),(3,p_ b1),(4,p_ b2),(7,b_ true),(50,b_ true),(51,vS al l cl),(53,i_ c.hp)]<|aG<|dH (some 54) [] (λw s h=>BI al l cl c.hp ‹_› w ((bW (i:=0) rfl) w s) h) ?_
  rintro b5-
  refine db [.p,.p] [] [(56,b_ (!b5))]<|aL (E:= !b5) rfl (λe8=>?_) (λe8=>?_)
  ·refine aC<|gl [.p,.p,.st 2] [] [] [(2,aA b2 [vS al l cl,i_ 29] 122)]<|aF<|cP [0] [.agg #[vS al l cl,i_ 29]] (λ_ w r s=>⟨dS 2 r s,trivial⟩) (al,l,cl,29) ?_ ?_<|by kernel_rfl
   ·rfl
   (refine⟨by omega,λh_=>absurd h_<|by decide⟩)
  refine aO<|aD<|aC<|gK [.p,.p,.ld 1] [] [(59,vS al l cl),(61,i_ c.hi)]<|aG<|dH (some 62) [] (λw s h=>Fb al l cl c.hi ‹_› w ((bW (i:=0) rfl) w s) h) ?_
  rintro⟨A'6,xs'7,c'8⟩ hz9
  dsimp only at hz9
  refine da [.p,.p] [(0,vS al l cl),(3,p_ b1),(4,p_ b2),(7,b_ true),(62,vS A'6 xs'7 c'8),(63,c_ xs'7.length),(64,i_ 0)]<|aR<|fY (λ(zz:Nat)=>match zz with|k=>[(0,vS al l cl),(3,p_ b1),(4,p_ b2),(7,b_ true),(62,vS A'6 xs'7 c'8),(63,c_ xs'7.length),(64,c_ k)]) (λ(zz:Nat)=>match zz with|k=>(BK A'6 xs'7 c'8 al l cl b1 c b2)) (λ(zz:Nat)=>match zz with|k=>(k≤xs'7.length)) (λ(zz:Nat)=>match zz with|k=>xs'7.length-k) (0:Nat) (by omega) ?_ ?_
  ·exact bw [0,0,0,0] ⟨rfl,rfl,rfl,rfl,rfl,rfl,rfl,trivial⟩<|by kernel_rfl
  rintro k hk
  have hk:k≤xs'7.length:=hk
  refine dW [(0,vS al l cl),(3,p_ b1),(4,p_ b2),(7,b_ true),(62,vS A'6 xs'7 c'8),(63,c_ xs'7.length),(64,c_ k)] (BK A'6 xs'7 c'8 al l cl b1 c b2) ⟨rfl,rfl,rfl,rfl,rfl,rfl,rfl,trivial⟩ rfl (aC<|db [.p] [] [(64,c_ k),(65,b_<|decide ((k:Int)<(xs'7.length:Int)))]<|aD<|aL (E:=decide ((k:Int)<(xs'7.length:Int))) rfl (λe10=>?_) (λe10=>?_))
  ·have p10:=Zg e10
   refine aO<|aD<|aR<|aC<|u1 [.ix] [] [(66,.pointer<|some<|(au A'6).add (k*1))] (o1<|io (k:Int)<|dh dG (by decide) (bW (i:=0) rfl)<|by omega) ?_
   obtain⟨x10,hx10⟩: ∃x,(xs'7)[k]? =some x:=⟨_,Ze<|by omega⟩
   refine jK [.rd [i_ x10],.p] [(0,vS al l cl),(3,p_ b1),(4,p_ b2),(7,b_ true),(62,vS A'6 xs'7 c'8),(63,c_ xs'7.length),(64,c_ k),(9,i_ x10)] (o1<|ro ((au A'6).add (k*1))<|dr (vs:=[i_ x10]) dG (bW (i:=0) rfl) hx10 (Nat.le_of_ble_eq_true rfl) rfl)<|aC<|db [.p,.p,.p,.sk,.sk,.sk,.p] [] [(74,b_ false)]<|oW rfl (aO<|aM<|lH [.w<|(k:Int)+1,.p] [] [(64,i_<|(k:Int)+1)] (o1<|wj ((k:Int)+1)<|by omega)<|bN (k+1) (by omega) (by(simp;omega)) ?_)
   exact bw [0,0,0,0] ⟨rfl,rfl,rfl,rfl,rfl,rfl,rfl,trivial⟩<|by kernel_rfl
  have p10:=Zh e10
  refine bg<|aC<|gK [.p,.ld 2] [] [(78,vS al l cl),(79,.agg (aX c).toArray)]<|aG<|dH (some 80) [] (λw s h=>vW al l cl c ‹_› w ((bW (i:=1) rfl) w s) h) ?_
  rintro⟨A'11,xs'12,c'13⟩ hz11
  dsimp only at hz11
  refine CC [.p,.st 4] [(4,p_ b2)] [(4,aA b2 [vS A'11 xs'12 c'13,i_ 0] 122)]<|aF<|cP [0] [.agg #[vS A'11 xs'12 c'13,i_ 0]] (λ_ w r s=>⟨dS 4 r s,trivial⟩) (A'11,xs'12,c'13,0) ?_ ?_<|by kernel_rfl
  ·rfl
  (refine⟨by omega,λ_=>?_⟩;exact(by assumption:_∧_).2)
 refine ei [(0,vS al l cl),(3,p_ b1),(4,p_ b2),(7,b_ false),(50,b_ false)] ⟨rfl,rfl,rfl,congrArg (λz=>some<|Value.bool z) e6,congrArg (λz=>some<|Value.bool z) e6,trivial⟩<|da [.sk,.sk,.sk,.sk,.sk,.p] [(0,vS al l cl),(3,p_ b1),(4,p_ b2),(7,b_ false),(56,b_ false)]<|oW rfl (aO<|aD<|aC<|gK [.p,.p,.ld 1] [] [(59,vS al l cl),(61,i_ c.hi)]<|aG<|dH (some 62) [] (λw s h=>Fb al l cl c.hi ‹_› w ((bW (i:=0) rfl) w s) h) ?_)
 rintro⟨A'15,xs'16,c'17⟩ hz12
 dsimp only at hz12
 refine db [.p,.p] [] [(63,c_ xs'16.length),(64,i_ 0)]<|aR<|fY (λ(zz:Nat)=>match zz with|k=>[(0,vS al l cl),(3,p_ b1),(4,p_ b2),(7,b_ false),(62,vS A'15 xs'16 c'17),(63,c_ xs'16.length),(64,c_ k)]) (λ(zz:Nat)=>match zz with|k=>(BK A'15 xs'16 c'17 al l cl b1 c b2)) (λ(zz:Nat)=>match zz with|k=>(k≤xs'16.length)) (λ(zz:Nat)=>match zz with|k=>xs'16.length-k) (0:Nat) (by omega) ?_ ?_
 ·exact bw [0,0,0,0] ⟨rfl,rfl,rfl,rfl,rfl,rfl,rfl,trivial⟩<|by kernel_rfl
 rintro k hk
 have hk:k≤xs'16.length:=hk
 refine dW [(0,vS al l cl),(3,p_ b1),(4,p_ b2),(7,b_ false),(62,vS A'15 xs'16 c'17),(63,c_ xs'16.length),(64,c_ k)] (BK A'15 xs'16 c'17 al l cl b1 c b2) ⟨rfl,rfl,rfl,rfl,rfl,rfl,rfl,trivial⟩ rfl (aC<|da [.p] [(0,vS al l cl),(3,p_ b1),(4,p_ b2),(7,b_ false),(62,vS A'15 xs'16 c'17),(63,c_ xs'16.length),(64,c_ k),(65,b_<|decide ((k:Int)<(xs'16.length:Int)))]<|aD<|aL (E:=decide ((k:Int)<(xs'16.length:Int))) rfl (λe13=>?_) (λe13=>?_))
 ·have p13:=Zg e13
  refine aO<|aD<|aR<|aC<|u1 [.ix] [] [(66,.pointer<|some<|(au A'15).add (k*1))] (o1<|io (k:Int)<|dh dG (by decide) (bW (i:=0) rfl)<|by omega) ?_
  obtain⟨x19,hx19⟩: ∃x,(xs'16)[k]? =some x:=⟨_,Ze<|by omega⟩
  refine lH [.rd [i_ x19],.p] [] [(9,i_ x19)] (o1<|ro ((au A'15).add (k*1))<|dr (vs:=[i_ x19]) dG (bW (i:=0) rfl) hx19 (Nat.le_of_ble_eq_true rfl) rfl)<|aC<|k9 (ps 5) [(0,vS al l cl),(3,p_ b1),(4,p_ b2),(7,b_ false),(62,vS A'15 xs'16 c'17),(63,c_ xs'16.length),(64,c_ k),(70,b_ true),(71,vS al l cl),(72,i_ x19)]<|aG<|dH (some 73) [] (λw s h=>BI al l cl x19 ‹_› w ((bW (i:=1) rfl) w s) h) ?_
  rintro b20-
  refine db [.p] [] [(74,b_ b20)]<|aL (E:=b20) rfl (λe15=>?_) (λe15=>?_)
  ·refine aC<|gl [.p,.p,.st 3] [] [] [(3,aA b2 [vS al l cl,i_ 29] 122)]<|aF<|cP [1] [.agg #[vS al l cl,i_ 29]] (λ_ w r s=>⟨dS 3 r s,trivial⟩) (al,l,cl,29) ?_ ?_<|by kernel_rfl
   ·rfl
   (refine⟨by omega,λh_=>absurd h_<|by decide⟩)
  refine aO<|aM<|lH [.w<|(k:Int)+1,.p] [] [(64,i_<|(k:Int)+1)] (o1<|wj ((k:Int)+1)<|by omega)<|bN (k+1) (by omega) (by(simp;omega)) ?_
  exact bw [0,0,0,0] ⟨rfl,rfl,rfl,rfl,rfl,rfl,rfl,trivial⟩<|by kernel_rfl
 have p13:=Zh e13
 refine bg<|aC<|gK [.p,.ld 2] [] [(78,vS al l cl),(79,.agg (aX c).toArray)]<|aG<|dH (some 80) [] (λw s h=>vW al l cl c ‹_› w ((bW (i:=1) rfl) w s) h) ?_
 rintro⟨A'21,xs'22,c'23⟩ hz16
 dsimp only at hz16
 refine gl [.p,.st 4] [] [] [(4,aA b2 [vS A'21 xs'22 c'23,i_ 0] 122)]<|aF<|cP [0] [.agg #[vS A'21 xs'22 c'23,i_ 0]] (λ_ w r s=>⟨dS 4 r s,trivial⟩) (A'21,xs'22,c'23,0) ?_ ?_<|by kernel_rfl
 ·rfl
 (refine⟨by omega,λ_=>?_⟩;exact(by assumption:_∧_).2)
abbrev MF(p0:Zc):=(.agg #[i_ p0.zi,i_ p0.zp,b_ p0.zl,u_ p0.ya,u_ p0.yb,u_ p0.yc,u_ p0.va,u_ p0.vb,u_ p0.vc,u_ p0.wa,u_ p0.wb,u_ p0.wc,i_ p0.zn,i_ p0.zq]:Value)
theorem W0(al:k0)(l:List Cl)(cl:Nat)(z:Zc)(hl:l.length≤100000):
  CS 50 #[vS al l cl,.agg (gv z).toArray] [dy al l cl] (λ((A',xs',c',e):(k0)×(List Cl)×Nat×Int)=>(.agg #[vS A' xs' c',i_ e])) (λ(A',xs',c',e)=>xs'.length≤l.length+1∧(e=0→vl z l xs')) λ(A',xs',c',e)=>[dy A' xs' c']:=by
 intro w hs
 refine aU Tryz.func50 rfl hs (aC<|iK [.al,.al] [1] (λb1 b2=>[(3,p_ b1),(4,p_ b2)]) (λb1 b2=>[aA b1 (gv z) 84,aA b2 [e_,i_ 0] 122]) ?_)
 intro b1 b2
 refine aD<|aC<|db [.p,.ld 1] [] [(6,i_ z.zk)]<|aR<|aC<|db [.p,.p] [] [(7,b_<|z.zk==1)]<|aL rfl (λe1=>?_) (λe1=>?_)
 ·have p1:=e1;try simp only[cR] at p1
  refine aC<|gK [.p,.p,.ld 1] [0,3,6,7] [(9,vS al l cl),(11,MF z)]<|aG<|dH (some 12) [0] (λw s h=>WX al l cl (⟨z.zi,z.zp,z.zl,z.ya,z.yb,z.yc,z.va,z.vb,z.vc,z.wa,z.wb,z.wc,z.zn,z.zq⟩:Cl) ‹_› w h) ?_
  rintro⟨A'3,xs'4,c'5,e6⟩ hz2
  refine gl [.st 2] [9,11,12] [] [(2,aA b2 [vS A'3 xs'4 c'5,i_ e6] 122)]<|aF<|cP [0] [.agg #[vS A'3 xs'4 c'5,i_ e6]] (λ_ w r s=>⟨dS 2 r s,trivial⟩) (A'3,xs'4,c'5,e6) ?_ ?_<|by kernel_rfl
  ·rfl
  (refine⟨‹(_≤_)∧(_=(0:Int)→_)›.1,λh_=>?_⟩;have h2_:=‹(_≤_)∧(_=(0:Int)→_)›.2 h_;unfold vl;exact .inl ⟨.inl ‹_›,h2_⟩)
 refine aC<|db [.p,.p] [7] [(13,b_<|z.zk==2)]<|aL rfl (λe3=>?_) (λe3=>?_)
 ·have p3:=e3;try simp only[cR] at p3
  refine aC<|gK [.p,.p,.p,.ld 1] [0,3,6,13] [(15,vS al l cl),(18,i_ z.zi)]<|aG<|dH (some 19) [0] (λw s h=>WY al l cl z.zi ‹_› w h) ?_
  rintro⟨A'8,xs'9,c'10,e11⟩ hz4
  refine gl [.st 2] [15,18,19] [] [(2,aA b2 [vS A'8 xs'9 c'10,i_ e11] 122)]<|aF<|cP [0] [.agg #[vS A'8 xs'9 c'10,i_ e11]] (λ_ w r s=>⟨dS 2 r s,trivial⟩) (A'8,xs'9,c'10,e11) ?_ ?_<|by kernel_rfl
  ·rfl
  (refine⟨‹(_≤_)∧(_=(0:Int)→_)›.1,λh_=>?_⟩;have h2_:=‹(_≤_)∧(_=(0:Int)→_)›.2 h_;unfold vl;exact .inr ⟨‹_›,h2_⟩)
 refine aC<|db [.p,.p] [6,13] [(20,b_<|z.zk==3)]<|aL rfl (λe5=>?_) (λe5=>?_)
 ·have p5:=e5;try simp only[cR] at p5
  refine aC<|gK [.p,.p,.ld 1] [0,3,20] [(22,vS al l cl),(24,MF z)]<|aG<|dH (some 25) [0] (λw s h=>WZ al l cl (⟨z.zi,z.zp,z.zl,z.ya,z.yb,z.yc,z.va,z.vb,z.vc,z.wa,z.wb,z.wc,z.zn,z.zq⟩:Cl) ‹_› w h) ?_
  rintro⟨A'13,xs'14,c'15,e16⟩ hz6
  refine gl [.st 2] [22,24,25] [] [(2,aA b2 [vS A'13 xs'14 c'15,i_ e16] 122)]<|aF<|cP [0] [.agg #[vS A'13 xs'14 c'15,i_ e16]] (λ_ w r s=>⟨dS 2 r s,trivial⟩) (A'13,xs'14,c'15,e16) ?_ ?_<|by kernel_rfl
  ·rfl
  (refine⟨‹(_≤_)∧(_=(0:Int)→_)›.1,λh_=>?_⟩;have h2_:=‹(_≤_)∧(_=(0:Int)→_)›.2 h_;unfold vl;exact .inl ⟨.inr ‹_›,h2_⟩)
 refine aO<|aC<|gl [.p,.p,.st 2] [0,3,20] [] [(2,aA b2 [vS al l cl,i_ 1] 122)]<|aF<|cP [0] [.agg #[vS al l cl,i_ 1]] (λ_ w r s=>⟨dS 2 r s,trivial⟩) (al,l,cl,1) ?_ ?_<|by kernel_rfl
 ·rfl
 (refine⟨by omega,λh_=>absurd h_<|by decide⟩)
abbrev xm(p0):=(aA p0 [e_,i_ 0,i_ 0] 93:V.aI)
theorem Iz(t:Int)(bl:k0)(zs:List Zc)(dl:Nat)(w:World)(r0:dR w bl (V.aP gv zs))(hs:HI w []):
  CV 33 #[e_,i_ t,vS bl zs dl] w [] (λ((A',xs',c',i,e):(k0)×(List Cl)×Nat×Int×Int)=>(.agg #[vS A' xs' c',i_ i,i_ e])) (λ(A',xs',c',i,e)=>xs'.length≤32∧(e=0→lj zs zs.length xs')) λ(A',xs',c',i,e)=>[dy A' xs' c']:=by
 refine aU Tryz.func33 rfl hs (aC<|dM [.al] [] (λb1=>[(6,p_ b1)]) (λ_=>[]) (λb1=>xm b1) ?_)
 intro b1
 refine bS<|bB [.o,.cl] [(16,b_<|(decide (t<1))||(decide (t>65536)))]<|aL (E:=(decide (t<1))||(decide (t>65536))) rfl (λe1=>?_) (λe1=>?_)
 ·refine aC<|bL [.st 0] [] [(0,aA b1 [e_,i_ 0,i_ 1] 93)]<|aF<|gW 62 14 [aA b1 [e_,i_ 0,i_ 1] 93,dy none ([]:List Cl) 0] rfl (cP [1] [.agg #[e_,i_ 0,i_ 1]] (λ_ w r s=>⟨dS 0 r s,trivial⟩) (none,([]:List Cl),0,0,1) ?_ ?_<|by kernel_rfl)
  ·rfl
  refine⟨by(simp;done),λh_=>?_⟩;exact absurd h_<|by decide
 refine az<|aE [(20,b_<|decide ((zs.length:Int)>32))]<|aL (E:=decide ((zs.length:Int)>32)) rfl (λe2=>?_) (λe2=>?_)
 ·have p2:=Zg e2
  refine aC<|bL [.st 0] [] [(0,aA b1 [e_,i_ 0,i_ 2] 93)]<|aF<|gW 62 14 [aA b1 [e_,i_ 0,i_ 2] 93,dy none ([]:List Cl) 0] rfl (cP [1] [.agg #[e_,i_ 0,i_ 2]] (λ_ w r s=>⟨dS 0 r s,trivial⟩) (none,([]:List Cl),0,0,2) ?_ ?_<|by kernel_rfl)
  ·rfl
  refine⟨by(simp;done),λh_=>?_⟩;exact absurd h_<|by decide
 have p2:=Zh e2
 refine aO<|aE [(7,e_)]<|aD<|aE [(23,vS bl zs dl),(24,c_ zs.length),(25,i_ 0)]<|aR<|gW 62 14 [xm b1,dy none ([]:List Cl) 0] rfl (fY (λ((k,ao,m,co):Nat×(k0)×(List Cl)×Nat)=>[(1,i_ t),(6,p_ b1),(23,vS bl zs dl),(24,c_ zs.length),(25,c_ k),(7,vS ao m co)]) (λ((k,ao,m,co):Nat×(k0)×(List Cl)×Nat)=>[dy ao m co,xm b1]) (λ((k,ao,m,co):Nat×(k0)×(List Cl)×Nat)=>(k≤zs.length)∧(m.length≤k)∧(lj zs k m)) (λ((k,ao,m,co):Nat×(k0)×(List Cl)×Nat)=>zs.length-k) (0,none,([]:List Cl),0) ⟨(by omega),(by(simp;done)),.nil⟩ ?_ ?_)
 ·exact bw [1,0] ⟨rfl,rfl,rfl,rfl,rfl,rfl,trivial⟩<|by kernel_rfl
 rintro⟨k,ao,m,co⟩ ⟨hk,hx,hf⟩
 refine dW [(1,i_ t),(6,p_ b1),(23,vS bl zs dl),(24,c_ zs.length),(25,c_ k),(7,vS ao m co)] [dy ao m co,xm b1] ⟨rfl,rfl,rfl,rfl,rfl,rfl,trivial⟩ rfl (aC<|da [] [(1,i_ t),(6,p_ b1),(23,vS bl zs dl),(24,c_ zs.length),(25,c_ k),(7,vS ao m co),(26,b_<|decide ((k:Int)<(zs.length:Int)))]<|aD<|aL (E:=decide ((k:Int)<(zs.length:Int))) rfl (λe3=>?_) (λe3=>?_))
 ·have p3:=Zg e3
  refine az<|aR<|aC<|eI 2 [.ix] [(27,c_ k),(28,.pointer<|some<|(au bl).add (k*15))] (o1<|io (k:Int)<|dh tN (by decide) (cL r0<|by simp[aN])<|by omega) ?_
  obtain⟨x5,hx5⟩: ∃x,(zs)[k]? =some x:=⟨_,Ze<|by omega⟩
  refine iI [.rd<|gv x5,.al,.p,.st 2] [1,6,23,24,25,7,9,8] (λb6=>[(1,i_ t),(6,p_ b1),(23,vS bl zs dl),(24,c_ zs.length),(25,c_ k),(7,vS ao m co),(9,p_ b6),(8,c_ k)]) (λb6=>[dy ao m co,xm b1,aA b6 (gv x5) 84]) (λb6=>[b6]) (λ_=>(λκ=>κ.rd ((au bl).add (k*15)) (gv x5)∧True)) (λ_=>by kernel_rfl) (λb6=>⟨dr (vs:=(gv x5)) tN (cL r0<|by simp[aN]) hx5 (Nat.le_of_ble_eq_true rfl) rfl,trivial⟩) ?_
  intro b6
  refine aC<|an 2 [.ld 2] [(8,c_ k),(30,vS ao m co),(31,.agg (gv x5).toArray)]<|aG<|b0 (some 32) [0] (W0 ao m co x5<|by omega) ?_
  rintro⟨A'7,xs'8,c'9,e10⟩ hz4
  dsimp only at hz4
  refine dM [.al,.st 3] [] (λb12=>[(10,p_ b12)]) (λ_=>[]) (λb12=>aA b12 [vS A'7 xs'8 c'9,i_ e10] 122) ?_
  intro b12
  refine bS<|bB [.ld 3] [(35,b_<|e10 !=0)]<|aL (E:=e10 !=0) rfl (λe5=>?_) (λe5=>?_)
  ·have p5:=e5;try simp only[cR] at p5
   refine aC<|bL [.ld 3,.st 1] [] [(1,aA b1 [e_,c_ k,i_ e10] 93)]<|aF<|gW 62 14 [dy A'7 xs'8 c'9,aA b1 [e_,c_ k,i_ e10] 93,aA b6 (gv x5) 84,aA b12 [vS A'7 xs'8 c'9,i_ e10] 122,dy none ([]:List Cl) 0] rfl (cP [4] [.agg #[e_,c_ k,i_ e10]] (λ_ w r s=>⟨dS 1 r s,trivial⟩) (none,([]:List Cl),0,(k:Int),e10) ?_ ?_<|by kernel_rfl)
   ·rfl
   refine⟨by(simp;done),λh_=>?_⟩;exact absurd h_ ‹_›
  refine aO<|aM<|bB [.ld 3] [(7,vS A'7 xs'8 c'9)]<|aM<|jK [.w<|(k:Int)+1] [(1,i_ t),(6,p_ b1),(23,vS bl zs dl),(24,c_ zs.length),(25,i_<|(k:Int)+1),(7,vS A'7 xs'8 c'9)] (o1<|wj ((k:Int)+1)<|by omega)<|bN (k+1,A'7,xs'8,c'9) ⟨(by omega),(by omega),(.snoc hf ‹_› (‹(_≤_)∧(_=(0:Int)→_)›.2 (by simp_all)))⟩ (by(simp;omega)) ?_
  exact bw [0,0] ⟨rfl,rfl,rfl,rfl,rfl,rfl,trivial⟩<|by kernel_rfl
 have p3:=Zh e3
 refine bg<|aC<|an 3 [] [(43,vS ao m co),(44,i_ t),(45,vS ao m co)]<|aG<|dH (some 46) [] (λw s h=>WW ao m co (by omega) w ((bW (i:=0) rfl) w s) h) ?_
 rintro⟨A'14,xs'15,c'16⟩ hz6
 dsimp only at hz6
 refine aG<|dH (some 47) [] (λw s h=>WT A'14 xs'15 c'16 t (by omega) w ((bW (i:=0) rfl) w s) h) ?_
 rintro v18-
 refine bL [.st 2] [] [(2,aA b1 [vS ao m co,i_ 0,i_ v18] 93)]<|aF<|cP [1] [.agg #[vS ao m co,i_ 0,i_ v18]] (λ_ w r s=>⟨dS 2 r s,trivial⟩) (ao,m,co,0,v18) ?_ ?_<|by kernel_rfl
 ·rfl
 refine⟨by omega,λh_=>?_⟩;((have h2_:k=zs.length:=by omega);exact h2_▸hf)
def aY(evs:List Ev)(m:Int):Nat:=(evs.filter λe=>decide (e.vq1<m)).length
theorem V.qt_indexN{P:Program}{env:aT}{S:E6}{o:Oper}{α:Type}{enc:α→Za}{xs:List α}{x y:Operand}{t el:TypeId}{A:k0}{cap sz:Nat}{k:IntKind}{m:Nat}(ho:o.op= .indexAddr t x y)(hx:ev env x=some (.slice A xs.length cap))(hy:ev env y=some (.int k (m:Int)))
  (ht:P.underlying t=some (.slice el))(hs:(P.info? el).map (·.size)=some sz)(he: ∀x,(enc x).length=sz)(hr:V.Rd w0 S H A (V.aP enc xs))(hz:0<sz)(hi:m<xs.length):V.Qt P n env w0 S H o (.pointer<|some<|(au A).add (m*sz)):=
 V.gr λa w r s=>by
  have hi2:0≤(m:Int)∧(m:Int)<(xs.length:Int):=by omega
  have h1:=(V.dh (P:=P) (w0:=w0) (S:=S) (H:=H) he hz hr hi).2 w s
  obtain⟨b,rfl⟩:=Option.isSome_iff_exists.1 h1
  simp only[Option.map_eq_some_iff] at hs
  obtain⟨i,hinf,rfl⟩:=hs
  simp[execOp,ho,r.ev hx,r.ev hy,Instr.indexAt,asIntOf,run_underlying ht,sizeOf,typeInfo,hinf,hi2,au];exact λh=>absurd h<|by omega
abbrev vX(p0):=(aA p0 [e_,i_ 0,i_ 0] 93:V.aI)
theorem TX(t lm:Int)(al:k0)(ops:List ew)(cl:Nat)(hol:ops.length≤9223372036854775807)(w:World)(r0:dR w al (V.aP nn ops))(r1:qm w ops)(hs:HI w []):
  CV 13 #[.agg #[i_ t,i_ lm,vS al ops cl]] w [] (λ((A',xs',c',b):(k0)×(List Cl)×Nat×Bool)=>(.tuple #[vS A' xs' c',b_ b])) (λ(A',xs',c',b)=>xs'.length≤32∧(b=true→ ∃o,ops[0]? =some o∧o.kd=1∧(∀j y,0<j→ops[j]? =some y→y.kd≠1)∧lj o.zl o.zl.length xs')) λ(A',xs',c',b)=>[dy A' xs' c']:=by
 refine aU Tryz.func13 rfl hs (aC<|dM [.al] [] (λb1=>[(1,p_ b1)]) (λ_=>[]) (λb1=>aA b1 [i_ t,i_ lm,vS al ops cl] 26) ?_)
 intro b1
 refine aD<|aD ?_
 by_cases ne:ops=[]
 ·refine aM<|an 5 [.ld 0] [(11,b_<|(ops.length:Int)==0)]<|i5 ((ops.length:Int)==0) (λe1=>?_)<|λe1=>?_
  ·refine ei [(1,p_ b1),(11,b_ true)] ⟨rfl,congrArg (λz=>some<|Value.bool z) e1,trivial⟩<|bB [.sk,.sk,.sk,.sk,.sk,.sk] [(18,b_ true)]<|iw rfl (aE [(2,e_),(3,b_ false)]<|aF<|gW 62 14 [aA b1 [i_ t,i_ lm,vS al ops cl] 26,dy none ([]:List Cl) 0] rfl (cP [1] [e_,b_ false] (λ_ w r s=>⟨cw r rfl,cw r rfl,trivial⟩) (none,([]:List Cl),0,false) ?_ ?_<|by kernel_rfl))
   ·rfl
   refine⟨by(simp;done),λh_=>?_⟩;exact absurd h_<|by decide
  exact absurd e1<|by(intro h_;simp[ne] at h_)
 obtain⟨o,ho⟩: ∃o,ops[0]? =some o:=by cases ops with|nil=>exact absurd rfl ne|cons o l=>exact⟨o,rfl⟩
 refine aM<|an 5 [.ld 0] [(11,b_<|(ops.length:Int)==0)]<|i5 ((ops.length:Int)==0) (λe2=>?_)<|λe2=>?_
 ·exact absurd e2<|by(intro h_;simp at h_;exact ne h_)
 have p2:=e2;try simp only[cR] at p2
 refine ei [(1,p_ b1),(11,b_ false)] ⟨rfl,congrArg (λz=>some<|Value.bool z) e2,trivial⟩<|aj [.ld 0,.ix,.rd [i_ o.kd]] [(18,b_<|o.kd !=1)] (oc (io (0:Int)<|dh oY (by decide) (cL r0<|by simp[aN])<|List.length_pos_iff.2 ne)<|o1<|ro (((au al).add (0*10)).add 0)<|j8 (f:=0) (vs:=[i_ o.kd]) oY (cL r0<|by simp[aN]) ho (by simp) rfl)<|aL (E:=o.kd !=1) rfl (λe3=>?_) (λe3=>?_)
 ·have p3:=e3;try simp only[cR] at p3
  refine aE [(2,e_),(3,b_ false)]<|aF<|gW 62 14 [aA b1 [i_ t,i_ lm,vS al ops cl] 26,dy none ([]:List Cl) 0] rfl (cP [1] [e_,b_ false] (λ_ w r s=>⟨cw r rfl,cw r rfl,trivial⟩) (none,([]:List Cl),0,false) ?_ ?_<|by kernel_rfl)
  ·rfl
  refine⟨by(simp;done),λh_=>?_⟩;exact absurd h_<|by decide
 have p3:=e3;try simp only[cR] at p3
 refine aO<|bS<|bB [.ld 0] [(20,vS al ops cl),(21,c_ ops.length),(22,i_ 0)]<|aR<|fY (λ(zz:Nat)=>match zz with|k=>[(1,p_ b1),(20,vS al ops cl),(21,c_ ops.length),(22,c_ k)]) (λ(zz:Nat)=>match zz with|k=>[aA b1 [i_ t,i_ lm,vS al ops cl] 26]) (λ(zz:Nat)=>match zz with|k=>(k≤ops.length)∧(∀j y,j<k→0<j→ops[j]? =some y→y.kd≠1)) (λ(zz:Nat)=>match zz with|k=>ops.length-k) (0:Nat) ⟨(by omega),(by(intro j y h_;omega))⟩ ?_ ?_
 ·exact bw [0] ⟨rfl,rfl,rfl,rfl,trivial⟩<|by kernel_rfl
 rintro k ⟨hk,hn⟩
 refine dW [(1,p_ b1),(20,vS al ops cl),(21,c_ ops.length),(22,c_ k)] [aA b1 [i_ t,i_ lm,vS al ops cl] 26] ⟨rfl,rfl,rfl,rfl,trivial⟩ rfl (aE [(22,c_ k),(23,b_<|decide ((k:Int)<(ops.length:Int)))]<|aD<|aL (E:=decide ((k:Int)<(ops.length:Int))) rfl (λe4=>?_) (λe4=>?_))
 ·have p4:=Zg e4
  refine az<|aR<|aC<|eI 2 [.ix] [(1,p_ b1),(20,vS al ops cl),(21,c_ ops.length),(22,c_ k),(24,c_ k),(25,.pointer<|some<|(au al).add (k*10))] (o1<|io (k:Int)<|dh oY (by decide) (cL r0<|by simp[aN])<|by omega) ?_
  obtain⟨x4,hx4⟩: ∃x,(ops)[k]? =some x:=⟨_,Ze<|by omega⟩
  refine iI [.rd [i_ x4.kd,vS x4.za x4.zl x4.zc,vS x4.ra x4.rl x4.rc,u_ x4.op.qi,i_ x4.op.qn,w_ x4.op.qa,w_ x4.op.qb,w_ x4.op.qc,w_ x4.op.qd,u_ x4.tk],.al,.p,.st 1] [1,20,21,22,5,4] (λb5=>[(1,p_ b1),(20,vS al ops cl),(21,c_ ops.length),(22,c_ k),(5,p_ b5),(4,c_ k)]) (λb5=>[aA b1 [i_ t,i_ lm,vS al ops cl] 26,aA b5 [i_ x4.kd,vS x4.za x4.zl x4.zc,vS x4.ra x4.rl x4.rc,u_ x4.op.qi,i_ x4.op.qn,w_ x4.op.qa,w_ x4.op.qb,w_ x4.op.qc,w_ x4.op.qd,u_ x4.tk] 47]) (λb5=>[b5]) (λ_=>(λκ=>κ.rd ((au al).add (k*10)) [i_ x4.kd,vS x4.za x4.zl x4.zc,vS x4.ra x4.rl x4.rc,u_ x4.op.qi,i_ x4.op.qn,w_ x4.op.qa,w_ x4.op.qb,w_ x4.op.qc,w_ x4.op.qd,u_ x4.tk]∧True)) (λ_=>by kernel_rfl) (λb5=>⟨dr (vs:=[i_ x4.kd,vS x4.za x4.zl x4.zc,vS x4.ra x4.rl x4.rc,u_ x4.op.qi,i_ x4.op.qn,w_ x4.op.qa,w_ x4.op.qb,w_ x4.op.qc,w_ x4.op.qd,u_ x4.tk]) oY (cL r0<|by simp[aN]) hx4 (Nat.le_of_ble_eq_true rfl) rfl,trivial⟩) ?_
  intro b5
  refine aC<|an 3 [] [(5,p_ b5),(29,b_<|decide ((k:Int)>0))]<|i5 (decide ((k:Int)>0)) (λe5=>?_)<|λe5=>?_
  ·have p5:=Zg e5
   refine ei [(1,p_ b1),(20,vS al ops cl),(21,c_ ops.length),(22,c_ k),(5,p_ b5),(29,b_ true)] ⟨rfl,rfl,rfl,rfl,rfl,congrArg (λz=>some<|Value.bool z) e5,trivial⟩<|bB [.ld 1] [(30,p_ b5),(31,i_ x4.kd),(32,b_<|x4.kd==1),(33,b_<|x4.kd==1)]<|aL (E:=x4.kd==1) rfl (λe6=>?_) (λe6=>?_)
   ·have p6:=e6;try simp only[cR] at p6
    refine aE [(2,e_),(3,b_ false)]<|aF<|gW 62 14 [aA b1 [i_ t,i_ lm,vS al ops cl] 26,aA b5 [i_ x4.kd,vS x4.za x4.zl x4.zc,vS x4.ra x4.rl x4.rc,u_ x4.op.qi,i_ x4.op.qn,w_ x4.op.qa,w_ x4.op.qb,w_ x4.op.qc,w_ x4.op.qd,u_ x4.tk] 47,dy none ([]:List Cl) 0] rfl (cP [2] [e_,b_ false] (λ_ w r s=>⟨cw r rfl,cw r rfl,trivial⟩) (none,([]:List Cl),0,false) ?_ ?_<|by kernel_rfl)
    ·rfl
    refine⟨by(simp;done),λh_=>?_⟩;exact absurd h_<|by decide
   have p6:=e6
   refine aO<|aM<|aj [.w<|(k:Int)+1] [(22,i_<|(k:Int)+1)] (o1<|wj ((k:Int)+1)<|by omega)<|bN (k+1) ⟨(by omega),(by(intro j y h1_ h2_ h3_;rcases Nat.lt_or_ge j k with h4_|h4_;exact hn j y h4_ h2_ h3_;(have h5_:j=k:=by omega);subst h5_;grind))⟩ (by(simp;omega)) ?_
   exact bw [0] ⟨rfl,rfl,rfl,rfl,trivial⟩<|by kernel_rfl
  have p5:=Zh e5
  refine ei [(1,p_ b1),(20,vS al ops cl),(21,c_ ops.length),(22,c_ k),(5,p_ b5),(29,b_ false)] ⟨rfl,rfl,rfl,rfl,rfl,congrArg (λz=>some<|Value.bool z) e5,trivial⟩<|bB [.sk,.sk,.sk] [(33,b_ false)]<|oW rfl (aO<|aM<|aj [.w<|(k:Int)+1] [(22,i_<|(k:Int)+1)] (o1<|wj ((k:Int)+1)<|by omega)<|bN (k+1) ⟨(by omega),(by(intro j y h1_ h2_ h3_;rcases Nat.lt_or_ge j k with h4_|h4_;exact hn j y h4_ h2_ h3_;(have h5_:j=k:=by omega);subst h5_;grind))⟩ (by(simp;omega)) ?_)
  exact bw [0] ⟨rfl,rfl,rfl,rfl,trivial⟩<|by kernel_rfl
 have p4:=Zh e4
 refine bg<|aD<|OA [aA b1 [i_ t,i_ lm,vS al ops cl] 26] (by kernel_rfl)<|mm 0 (some 35) (p_ b1) rfl (by kernel_rfl) (by kernel_rfl) (.refl _) (jM (by kernel_rfl) λ_=>by kernel_rfl) (mm 1 (some 36) (p_ b1) rfl (by kernel_rfl) (by kernel_rfl) (.refl _) (jM (by kernel_rfl) λ_=>by kernel_rfl) (mm 2 (some 37) (i_ t) rfl (by kernel_rfl) (by kernel_rfl) (.refl _) (nA rfl rfl (by kernel_rfl) (jL (i:=0) rfl rfl)) (mm 3 (some 38) (q_ b1 2) rfl (by kernel_rfl) (by kernel_rfl) (.refl _) (jM (by kernel_rfl) λ_=>by kernel_rfl) (mm 4 (some 39) (vS al ops cl) rfl (by kernel_rfl) (by kernel_rfl) (.refl _) (nA rfl rfl (by kernel_rfl) (jL (i:=0) rfl rfl)) (mm 5 (some 40) (.pointer<|some<|(au al).add (0*10)) rfl (by kernel_rfl) (by kernel_rfl) (.refl _) (qt_indexN (el:=47) (enc:=nn) (xs:=ops) (m:=0) rfl rfl rfl (by kernel_rfl) (by kernel_rfl) oY (cL r0<|by simp[aN]) (by decide) (by omega)) (mm 6 (some 41) (.pointer<|some<|((au al).add (0*10)).add 1) rfl (by kernel_rfl) (by kernel_rfl) (.refl _) (jM (by kernel_rfl) λ_=>by kernel_rfl) (mm 7 (some 42) (vS o.za o.zl o.zc) rfl (by kernel_rfl) (by kernel_rfl) (.refl _) (nA rfl rfl (by kernel_rfl) (j8 (f:=1) (vs:=[vS o.za o.zl o.zc]) oY (cL r0<|by simp[aN]) ho (by simp) rfl)) (j0 (λ((A'7,xs'8,c'9,i10,e11,b13):k0×List Cl×Nat×Int×Int×Nat)=>[(6,p_ b13)]) (λ((A'7,xs'8,c'9,i10,e11,b13):k0×List Cl×Nat×Int×Int×Nat)=>[dy A'7 xs'8 c'9,aA b1 [i_ t,i_ lm,vS al ops cl] 26,aA b13 [vS A'7 xs'8 c'9,i_ i10,i_ e11] 93]) (λ((A'7,xs'8,c'9,i10,e11,b13):k0×List Cl×Nat×Int×Int×Nat)=>(xs'8.length≤32∧(e11=0→lj o.zl o.zl.length xs'8))∧True) 0 #[true,true,true,true,true,true,true,true,true,true,true] ?_ (λhN0=>?_)))))))))
 ·rintro⟨A'7,xs'8,c'9,i10,e11,b13⟩ ⟨hpf8,-⟩
  refine dW [(6,p_ b13)] [dy A'7 xs'8 c'9,aA b1 [i_ t,i_ lm,vS al ops cl] 26,aA b13 [vS A'7 xs'8 c'9,i_ i10,i_ e11] 93] ⟨rfl,trivial⟩ rfl (OD (by kernel_rfl)<|aD<|kN [.ld 2,.ld 2] [0,1,2,3,4,5,6] [(2,vS A'7 xs'8 c'9),(3,b_<|e11==0)]<|aF<|cP [0] [vS A'7 xs'8 c'9,b_<|e11==0] (λ_ w r s=>⟨cw r rfl,cw r rfl,trivial⟩) (A'7,xs'8,c'9,e11==0) ?_ ?_<|by kernel_rfl)
  ·rfl
  refine⟨by omega,λh_=>?_⟩;exact⟨o,ho,by simp_all,λj y h1_ h2_=>hn j y (by have:=(Zf.1 h2_).1;omega) h1_ h2_,‹(_≤32)∧(_=(0:Int)→_)›.2 (by simpa using h_)⟩
 refine j0 (λ((A'7,xs'8,c'9,i10,e11,b13):k0×List Cl×Nat×Int×Int×Nat)=>[(6,p_ b13),(43,.agg #[vS A'7 xs'8 c'9,i_ i10,i_ e11])]) (λ((A'7,xs'8,c'9,i10,e11,b13):k0×List Cl×Nat×Int×Int×Nat)=>[dy A'7 xs'8 c'9,aA b1 [i_ t,i_ lm,vS al ops cl] 26,vX b13]) (λ((A'7,xs'8,c'9,i10,e11,b13):k0×List Cl×Nat×Int×Int×Nat)=>(xs'8.length≤32∧(e11=0→lj o.zl o.zl.length xs'8))∧True) 1 #[true,true,true,true,true,true,true,true,true,true,false] ?_ (λhN1=>?_)
 ·rintro⟨A'7,xs'8,c'9,i10,e11,b13⟩ ⟨hpf8,-⟩
  refine dW [(6,p_ b13),(43,.agg #[vS A'7 xs'8 c'9,i_ i10,i_ e11])] [dy A'7 xs'8 c'9,aA b1 [i_ t,i_ lm,vS al ops cl] 26,vX b13] ⟨rfl,rfl,trivial⟩ rfl (j7 [10] (by kernel_rfl) ⟨⟨_,rfl,?_⟩,trivial⟩)
  ·refine dQ 2 [vS A'7 xs'8 c'9,i_ i10,i_ e11] rfl (ej (sd [2,0]) ?_)
   exact fe hN0 (A'7,xs'8,c'9,i10,e11,b13) ⟨hpf8,trivial⟩ [0,0,0] (by kernel_rfl) ⟨rfl,trivial⟩ rfl
 refine j0 (λ((A'7,xs'8,c'9,i10,e11):k0×List Cl×Nat×Int×Int)=>[(43,.agg #[vS A'7 xs'8 c'9,i_ i10,i_ e11])]) (λ((A'7,xs'8,c'9,i10,e11):k0×List Cl×Nat×Int×Int)=>[dy A'7 xs'8 c'9,aA b1 [i_ t,i_ lm,vS al ops cl] 26]) (λ((A'7,xs'8,c'9,i10,e11):k0×List Cl×Nat×Int×Int)=>(xs'8.length≤32∧(e11=0→lj o.zl o.zl.length xs'8))∧True) 2 #[true,true,true,true,true,true,true,true,true,false,false] ?_ (λhN2=>?_)
 ·rintro⟨A'7,xs'8,c'9,i10,e11⟩ ⟨hpf8,-⟩
  refine dW [(43,.agg #[vS A'7 xs'8 c'9,i_ i10,i_ e11])] [dy A'7 xs'8 c'9,aA b1 [i_ t,i_ lm,vS al ops cl] 26] ⟨rfl,trivial⟩ rfl (j7 [9] (by kernel_rfl) ⟨⟨_,rfl,?_⟩,trivial⟩)
  ·refine nV 6 [e_,i_ 0,i_ 0] (by kernel_rfl) rfl (by kernel_rfl) (λb21=>[dy A'7 xs'8 c'9,aA b1 [i_ t,i_ lm,vS al ops cl] 26,vX b21]) (λ_=>rfl) ?_
   intro b21
   refine ej (sd [2,0]) ?_
   exact fe hN1 (A'7,xs'8,c'9,i10,e11,b21) ⟨hpf8,trivial⟩ [0,0,0] (by kernel_rfl) ⟨rfl,rfl,trivial⟩ rfl
 refine j0 (λ(b13:Nat)=>[(6,p_ b13),(37,i_ t),(42,vS o.za o.zl o.zc)]) (λ(b13:Nat)=>[aA b1 [i_ t,i_ lm,vS al ops cl] 26,vX b13]) (λ(b13:Nat)=>True) 2 #[true,true,true,true,true,true,true,true,false,true,false] ?_ (λhN3=>?_)
 ·rintro b13-
  refine dW [(6,p_ b13),(37,i_ t),(42,vS o.za o.zl o.zc)] [aA b1 [i_ t,i_ lm,vS al ops cl] 26,vX b13] ⟨rfl,rfl,rfl,trivial⟩ rfl (j7 [8] (by kernel_rfl) ⟨⟨_,rfl,?_⟩,trivial⟩)
  ·refine dH (some 43) [] (λw s h=>Iz t o.za o.zl o.zc w ((AE r1 s) o<|Zd ho).1 h) ?_
   rintro⟨A'22,xs'23,c'24,i25,e26⟩ hz9
   dsimp only at hz9
   refine ej (sd [2,0]) ?_
   exact fe hN1 (A'22,xs'23,c'24,i25,e26,b13) ⟨hz9,trivial⟩ [0,0,0] (by kernel_rfl) ⟨rfl,rfl,trivial⟩ rfl
 refine j7 [8,9] (by kernel_rfl) ⟨⟨_,rfl,?_⟩,⟨_,rfl,?_⟩,trivial⟩
 ·refine dH (some 43) [] (λw s h=>Iz t o.za o.zl o.zc w ((AE r1 s) o<|Zd ho).1 h) ?_
  rintro⟨A'28,xs'29,c'30,i31,e32⟩ hz10
  dsimp only at hz10
  refine ej (sd [0]) ?_
  exact fe hN2 (A'28,xs'29,c'30,i31,e32) ⟨hz10,trivial⟩ [0,0] (by kernel_rfl) ⟨rfl,trivial⟩ rfl
 refine nV 6 [e_,i_ 0,i_ 0] (by kernel_rfl) rfl (by kernel_rfl) (λb34=>[aA b1 [i_ t,i_ lm,vS al ops cl] 26,vX b34]) (λ_=>rfl) ?_
 intro b34
 refine ej (sd [1]) ?_
 exact fe hN3 b34 trivial [0,0] (by kernel_rfl) ⟨rfl,rfl,rfl,trivial⟩ rfl
def nv(x:Nm):Int:=x.nq1*18446744073709551616+x.nq2
def lV(x:Nm):Prop:=(0≤x.nq1∧x.nq1<18446744073709551616)∧0≤x.nq2∧x.nq2<18446744073709551616
theorem Y1(v:Int):nv ⟨nH v,nL v⟩=v:=by unfold nv nH nL;dsimp only;omega
theorem W1{b:Int}(ha:0≤a∧a<18446744073709551616)(hb:0≤b∧b<18446744073709551616):aH a b=⟨nH<|a*b,nL<|a*b⟩:=by
 have e0:=FB a b ha hb
 have p1:=nC (x:=a%4294967296) (y:=b%4294967296) (by omega) (by omega);have p2:=nC (x:=a/4294967296) (y:=b%4294967296) (by omega) (by omega);have p3:=nC (x:=a%4294967296) (y:=b/4294967296) (by omega) (by omega);have p4:=nC (x:=a/4294967296) (y:=b/4294967296) (by omega)<|by omega
 have l:lz a b=a%4294967296*(b%4294967296):=by unfold lz;rw[nf ha,nf hb,wrap_u64<|by omega]
 have d:kV a b=a/4294967296*(b%4294967296)+lz a b/4294967296:=by unfold kV;rw[nf hb,wrap_u64 (e:=a/4294967296*(b%4294967296))<|by omega,wrap_u64<|by omega]
 have r:om a b=a%4294967296*(b/4294967296)+kV a b%4294967296:=by unfold om;rw[nf ha,nf (x:=kV a b)<|by omega,wrap_u64 (e:=a%4294967296*(b/4294967296))<|by omega,wrap_u64<|by omega]
 unfold aH;rw[nf (x:=lz a b)<|by omega,Kz (by omega)<|by omega,wrap_u64 (e:=a/4294967296*(b/4294967296))<|by omega,wrap_u64 (e:=_+kV a b/4294967296)<|by omega,wrap_u64<|by omega,e0]
 unfold nH nL;rw[Nm.mk.injEq];omega
theorem vY{b:Int}(ha:0≤a∧a<18446744073709551616)(hb:0≤b∧b<18446744073709551616):lV (aH a b)∧nv (aH a b)=a*b:=by
 have h1:0≤a*b:=Int.mul_nonneg ha.1 hb.1
 have h2:a*b≤18446744073709551615*18446744073709551615:=Int.le_trans (Int.mul_le_mul_of_nonneg_right (by omega:a≤18446744073709551615) hb.1)<|Int.mul_le_mul_of_nonneg_left (by omega)<|by decide
 rw[W1 ha hb]
 exact⟨⟨Kx ⟨h1,by unfold bX;omega⟩,Ky _⟩,Y1 _⟩
theorem W2{a b:Nm}(ha:lV a)(hb:lV b)(h:nv a+nv b<bX):lV (fR a b)∧nv (fR a b)=nv a+nv b:=by
 obtain⟨a1,a2⟩:=ha;obtain⟨b1,b2⟩:=hb
 have c0:=LA (a:=a.nq2) (b:=b.nq2) (c:=0) ⟨a2.1,a2.2⟩ ⟨b2.1,b2.2⟩<|by omega
 unfold lV nv at*;unfold fR;dsimp only;rw[c0,xd,xd];unfold bX at h;omega
theorem MG{a b:Nm}(ha:lV a)(hb:lV b):ly a b=oC (nv a) (nv b):=by
 obtain⟨a1,a2⟩:=ha;obtain⟨b1,b2⟩:=hb
 unfold ly oC nv;(repeat' split)<;>omega
theorem E2(x y:Nat):(x^^^y)/9223372036854775808=(x/9223372036854775808)^^^(y/9223372036854775808):=by
 have:=Nat.shiftRight_xor_distrib (a:=x) (b:=y) (i:=63)
 simpa[Nat.shiftRight_eq_div_pow] using this
theorem PK(a b s c:Nat)(ha:a<18446744073709551616)(hb:b<18446744073709551616)(hc:c≤1)(hs:s=(a+36893488147419103232-b-c)%18446744073709551616):
  (((18446744073709551615^^^a)&&&b)|||((18446744073709551615^^^(a^^^b))&&&s))/9223372036854775808=if a<b+c then 1 else 0:=by
 have hs2:s<18446744073709551616:=by rw[hs];omega
 rw[FA,zr,zr,E2,E2,E2]
 have hA:a/9223372036854775808=0∨a/9223372036854775808=1:=by omega
 have hB:b/9223372036854775808=0∨b/9223372036854775808=1:=by omega
 have hS:s/9223372036854775808=0∨s/9223372036854775808=1:=by omega
 have hM:18446744073709551615/9223372036854775808=1:=by decide
 rcases hA with hA|hA<;>rcases hB with hB|hB<;>rcases hS with hS|hS<;>rw[hA,hB,hS,hM]<;>simp<;>omega
variable{c:Int}
theorem PL{b s:Int}(ha:0≤a∧a<18446744073709551616)(hb:0≤b∧b<18446744073709551616)(hc:0≤c∧c≤1)(hs:s=(a-b-c)%18446744073709551616):
  ag .or .u64 (ag .and .u64 (ag .xor .u64 18446744073709551615 a) b) (ag .and .u64 (ag .xor .u64 18446744073709551615<|ag .xor .u64 a b) s)/9223372036854775808=if a<b+c then 1 else 0:=by
 obtain⟨A,rfl⟩:=Int.eq_ofNat_of_zero_le ha.1
 obtain⟨B,rfl⟩:=Int.eq_ofNat_of_zero_le hb.1
 obtain⟨C,rfl⟩:=Int.eq_ofNat_of_zero_le hc.1
 obtain⟨T,rfl⟩:=Int.eq_ofNat_of_zero_le (show 0≤s by omega)
 have h1:ag .xor .u64 18446744073709551615 (A:Int)=((18446744073709551615^^^A:Nat):Int):=u64_xor_nat 18446744073709551615 A (by omega)<|by omega
 have hl1:18446744073709551615^^^A<2^64:=Nat.xor_lt_two_pow (by omega)<|by omega
 have h2:ag .and .u64 ((18446744073709551615^^^A:Nat):Int) (B:Int)=(((18446744073709551615^^^A)&&&B:Nat):Int):=u64_and_nat _ B (by omega)<|by omega
 have hl2:(18446744073709551615^^^A)&&&B<2^64:=Nat.and_lt_two_pow _<|by omega
 have h3:ag .xor .u64 (A:Int) (B:Int)=((A^^^B:Nat):Int):=u64_xor_nat A B (by omega)<|by omega
 have hl3:A^^^B<2^64:=Nat.xor_lt_two_pow (by omega)<|by omega
 have h4:ag .xor .u64 18446744073709551615 ((A^^^B:Nat):Int)=((18446744073709551615^^^(A^^^B):Nat):Int):=u64_xor_nat 18446744073709551615 _ (by omega)<|by omega
 have hl4:18446744073709551615^^^(A^^^B)<2^64:=Nat.xor_lt_two_pow (by omega)<|by omega
 have h5:ag .and .u64 ((18446744073709551615^^^(A^^^B):Nat):Int) (T:Int)=(((18446744073709551615^^^(A^^^B))&&&T:Nat):Int):=u64_and_nat _ T (by omega)<|by omega
 have hl5:(18446744073709551615^^^(A^^^B))&&&T<2^64:=Nat.and_lt_two_pow _<|by omega
 have h6:ag .or .u64 (((18446744073709551615^^^A)&&&B:Nat):Int) (((18446744073709551615^^^(A^^^B))&&&T:Nat):Int)=((((18446744073709551615^^^A)&&&B)|||((18446744073709551615^^^(A^^^B))&&&T):Nat):Int):=u64_or_nat _ _ (by omega)<|by omega
 rw[h1,h2,h3,h4,h5,h6]
 have:=PK A B T C (by omega) (by omega) (by omega)<|by omega
 split at this<;>split<;>omega
theorem W3{b:Int}(ha:0≤a∧a<18446744073709551616)(hb:0≤b∧b<18446744073709551616):jq a b 0=if a<b then 1 else 0:=by
 have:=PL (s:=lu a b 0) ha hb (c:=0) (by omega) (by unfold lu;rw[IntKind.wrap_u64,IntKind.wrap_u64];omega)
 rw[Int.add_zero] at this;exact this
theorem W4{a b:Nm}(ha:lV a)(hb:lV b)(h:nv b≤nv a):lV (kU a b)∧nv (kU a b)=nv a-nv b:=by
 obtain⟨a1,a2⟩:=ha;obtain⟨b1,b2⟩:=hb
 have c0:=W3 (a:=a.nq2) (b:=b.nq2) ⟨a2.1,a2.2⟩ ⟨b2.1,b2.2⟩
 unfold lV nv at*;unfold kU lu;dsimp only;rw[c0,IntKind.wrap_u64,IntKind.wrap_u64,IntKind.wrap_u64,IntKind.wrap_u64];split<;>omega
def eL(a b:Int):Int:=(a+b-1)/b
variable{b:Int}
theorem q8(hb:1≤b)(h:a≤b*c):eL a b≤c:=by
 unfold eL;refine Int.lt_add_one_iff.1<|Int.ediv_lt_of_lt_mul (by omega) ?_
 rw[Int.add_mul,Int.mul_comm c b];omega
theorem uH(hb:1≤b)(h:b*(c-1)<a):c≤eL a b:=by
 unfold eL;rw[Int.le_ediv_iff_mul_le<|by omega];rw[Int.mul_sub,Int.mul_one,Int.mul_comm b c] at h;omega
theorem vB(hb:1≤b):a≤b*eL a b∧b*eL a b<a+b:=by
 unfold eL
 have h1:=Int.mul_ediv_add_emod (a+b-1) b
 have h2:=Int.emod_nonneg (a+b-1) (show b≠0 by omega)
 have h3:=Int.emod_lt_of_pos (a+b-1) (show 0<b by omega)
 omega
theorem NT(hb:1≤b):eL 0 b=0:=by unfold eL;exact Int.ediv_eq_zero_of_lt (by omega)<|by omega
theorem TY(hb:1≤b):eL (a+c) b≤eL a b+eL c b:=by
 refine q8 hb ?_;rw[Int.mul_add]
 have h1:=(vB (a:=a) hb).1;have h2:=(vB (a:=c) hb).1;omega
theorem JA(hb:1≤b)(h:a≤c):eL a b≤eL c b:=q8 hb<|Int.le_trans h (vB hb).1
theorem TZ(hb:1≤b)(hc:b≤c)(ha:0≤a):eL a c≤eL a b:=by
 have h0:0≤eL a b:=uH hb<|by omega
 refine q8 (by omega)<|Int.le_trans (vB hb).1 (Int.mul_le_mul_of_nonneg_right hc h0)
theorem sG(hb:1≤b)(ha:0≤a):0≤eL a b:=uH hb<|by omega
theorem Dh(hb:1≤b)(ha:0≤a):eL a b≤a:=q8 hb (by
 have:=Int.mul_le_mul_of_nonneg_right hb ha;rw[Int.one_mul] at this;exact this)
variable{x:Int}
theorem Fe{y:Int}(hx:0≤x∧x<18446744073709551616)(hy:0≤y∧y<18446744073709551616):ag .or .u64 (IntKind.u64.wrap<|x*2) (y/9223372036854775808)=(x*2)%18446744073709551616+y/9223372036854775808:=by
 rw[IntKind.wrap_u64]
 exact EK 1 (by decide) (by omega) (by omega)<|by omega
theorem W5(hx:0≤x∧x<18446744073709551616):ag .or .u64 (IntKind.u64.wrap<|x*2) 1=(x*2)%18446744073709551616+1:=by
 rw[IntKind.wrap_u64]
 exact EK 1 (by decide) (by omega) (by omega)<|by omega
structure Gh(A b X:Int)(s:Dv):Prop where
 a1:lV s.av
 a2:nv s.av=X%bX
 q1:s.qv.nq1=0
 q2:0≤s.qv.nq2
 r1:0≤s.rv∧s.rv<b
 e:s.qv.nq2*b+s.rv=X/bX
variable{X:Int}
theorem T8{A:Int}{s:Dv}(hA:0≤A∧A<9223372036854775808)(hb:1≤b∧b<4294967296)(h:Gh A b X s)(hX:0≤X)(hX2:X*2/bX≤A):Gh A b (X*2) (sZ b s):=by
 obtain⟨⟨⟨a1,a2⟩,a3,a4⟩,a5,q1,q2,⟨r1,r2⟩,e⟩:=h
 have hq:s.qv.nq2≤s.qv.nq2*b:=by have:=Int.mul_le_mul_of_nonneg_left hb.1 q2;rw[Int.mul_one] at this;exact this
 have hx:X*2/bX=2*(X/bX)+s.av.nq1/9223372036854775808:=by unfold nv at a5;unfold bX at*;omega
 have t1:ag .or .u64 (IntKind.u64.wrap<|s.av.nq1*2) (s.av.nq2/9223372036854775808)=(s.av.nq1*2)%18446744073709551616+s.av.nq2/9223372036854775808:=Fe ⟨a1,a2⟩ ⟨a3,a4⟩
 have t2:ag .or .u64 (IntKind.u64.wrap<|s.rv*2) (s.av.nq1/9223372036854775808)=s.rv*2+s.av.nq1/9223372036854775808:=by rw[Fe (by omega) ⟨a1,a2⟩];omega
 have t3:ag .or .u64 (IntKind.u64.wrap<|s.qv.nq1*2) (s.qv.nq2/9223372036854775808)=0:=by rw[Fe (by omega)<|by omega,q1];omega
 have t4:ag .or .u64 (IntKind.u64.wrap<|s.qv.nq2*2) 1=s.qv.nq2*2+1:=by rw[W5<|by omega];omega
 have t5:IntKind.u64.wrap (s.qv.nq2*2)=s.qv.nq2*2:=by rw[IntKind.wrap_u64];omega
 have t6:sY b s=decide (b≤s.rv*2+s.av.nq1/9223372036854775808):=by unfold sY;rw[t2,show s.rv/9223372036854775808=0 by omega];simp
 have t7:IntKind.u64.wrap (s.av.nq2*2)=(s.av.nq2*2)%18446744073709551616:=IntKind.wrap_u64 _
 unfold sZ;rw[t1,t2,t3,t4,t5,t6,t7]
 have e2:(s.qv.nq2*2)*b=2*(s.qv.nq2*b):=by rw[Int.mul_assoc,Int.mul_left_comm]
 have e3:(s.qv.nq2*2+1)*b=2*(s.qv.nq2*b)+b:=by rw[Int.add_mul,e2,Int.one_mul]
 by_cases hk:b≤s.rv*2+s.av.nq1/9223372036854775808
 ·rw[decide_eq_true hk];simp only[if_true]
  have t8:IntKind.u64.wrap (s.rv*2+s.av.nq1/9223372036854775808-b)=s.rv*2+s.av.nq1/9223372036854775808-b:=by rw[IntKind.wrap_u64];omega
  rw[t8]
  exact⟨⟨⟨by dsimp only;omega,by dsimp only;omega⟩,by dsimp only;omega,by dsimp only;omega⟩,by unfold nv bX at*;dsimp only;omega,rfl,by dsimp only;omega,⟨by dsimp only;omega,by dsimp only;omega⟩,by dsimp only;rw[e3,hx];omega⟩
 ·rw[decide_eq_false hk];simp only[Bool.false_eq_true,if_false]
  exact⟨⟨⟨by dsimp only;omega,by dsimp only;omega⟩,by dsimp only;omega,by dsimp only;omega⟩,by unfold nv bX at*;dsimp only;omega,rfl,by dsimp only;omega,⟨by dsimp only;omega,by dsimp only;omega⟩,by dsimp only;rw[e2,hx];omega⟩
theorem MH{a:Nm}(ha:lV a)(hA:nv a<9223372036854775808)(hb:1≤b∧b<4294967296): ∀k:Nat,k≤128→Gh (nv a) b (nv a*2^k) (bj a b k)
 |0,_=>by
  obtain⟨⟨a1,a2⟩,a3,a4⟩:=ha
  have h0:0≤nv a:=by unfold nv;omega
  refine⟨⟨⟨a1,a2⟩,a3,a4⟩,?_,rfl,Int.le_refl _,⟨Int.le_refl _,show(0:Int)<b by omega⟩,?_⟩
  ·show nv a=_;rw[Int.pow_zero,Int.mul_one];unfold bX;omega
  ·show 0*b+0=_;rw[Int.pow_zero,Int.mul_one];unfold bX;omega
 |k+1,hk=>by
  have h0:0≤nv a:=by obtain⟨⟨a1,a2⟩,a3,a4⟩:=ha;unfold nv;omega
  have e:nv a*2^(k+1)=nv a*2^k*2:=by rw[Int.pow_succ,Int.mul_assoc]
  have hp:(2:Int)^(k+1)≤2^128:=by
   have:(2:Nat)^(k+1)≤2^128:=Nat.pow_le_pow_right (by decide) hk
   exact_mod_cast this
  rw[wt,e]
  refine T8 ⟨h0,hA⟩ hb (MH ha hA hb k<|by omega) (Int.mul_nonneg h0<|Int.pow_nonneg<|by decide) ?_
  rw[←e]
  have:=Int.mul_le_mul_of_nonneg_left hp h0
  have e2:(2:Int)^128=bX:=by decide
  rw[e2] at this
  exact Int.le_trans (Int.ediv_le_ediv (by decide) this) (by rw[Int.mul_ediv_cancel _<|by decide];exact Int.le_refl _)
theorem W6{a:Nm}(ha:lV a)(hA:nv a<9223372036854775808)(hb:1≤b∧b<4294967296):kS a b=0∧jd a b=eL (nv a) b:=by
 obtain⟨a1,a2,q1,q2,⟨r1,r2⟩,e⟩:=MH ha hA hb 128<|Nat.le_refl _
 have h0:0≤nv a:=by obtain⟨⟨a1,a2⟩,a3,a4⟩:=ha;unfold nv;omega
 have e2:(2:Int)^128=bX:=by decide
 rw[e2,Int.mul_ediv_cancel _<|by decide] at e
 have hq:(bj a b 128).qv.nq2≤(bj a b 128).qv.nq2*b:=by have:=Int.mul_le_mul_of_nonneg_left hb.1 q2;rw[Int.mul_one] at this;exact this
 have hbz:b≠0:=by omega
 have key:(oa a b).nq1=0∧(oa a b).nq2=eL (nv a) b:=by
  unfold oa px fM;rw[if_neg hbz,if_neg hbz]
  split
  ·rename_i hr;rw[hr] at e
   refine⟨q1,Int.le_antisymm (uH hb.1 ?_)<|q8 hb.1 ?_⟩
   ·rw[Int.mul_sub,Int.mul_one,Int.mul_comm];omega
   ·rw[Int.mul_comm];omega
  ·rename_i hr
   have c0:=LA (a:=(bj a b 128).qv.nq2) (b:=1) (c:=0) (by omega) (by omega)<|by omega
   have h1:(fR (bj a b 128).qv ⟨0,1⟩).nq1=0:=by unfold fR;dsimp only;rw[c0,xd,q1];omega
   have h2:(fR (bj a b 128).qv ⟨0,1⟩).nq2=(bj a b 128).qv.nq2+1:=by unfold fR;dsimp only;rw[xd];omega
   refine⟨h1,h2.trans<|Int.le_antisymm (uH hb.1 ?_)<|q8 hb.1 ?_⟩
   ·rw[show(bj a b 128).qv.nq2+1-1=(bj a b 128).qv.nq2 by omega,Int.mul_comm];omega
   ·rw[Int.mul_add,Int.mul_one,Int.mul_comm b];omega
 unfold kS jd;rw[if_neg hbz,if_neg hbz,if_pos key.1,if_pos key.1]
 exact⟨rfl,key.2⟩
def kG(m X T:Int):Rn:=nJ nP (jW X (aH T 65536) m) false
theorem Xu(h:1≤m∧m≤4294967295):0≤m∧m<18446744073709551616:=by omega
theorem uI{d:Int}(ha:0≤a∧a≤c)(hb:0≤b∧b≤d):0≤a*b∧a*b≤c*d:=
 ⟨Int.mul_nonneg ha.1 hb.1,Int.le_trans (Int.mul_le_mul_of_nonneg_right ha.2 hb.1)<|Int.mul_le_mul_of_nonneg_left hb.2<|by omega⟩
variable{T:Int}
theorem xH(hm:1≤m∧m≤4294967295)(hX:0≤X∧X≤1099511627776)(hT:0≤T∧T≤t)(ht:t≤16777216):jN (kG m X T) t=X+eL (65536*(t-T)) m:=by
 have hu:(0:Int)≤65536∧(65536:Int)<18446744073709551616:=by decide
 obtain⟨o1,v1⟩:=vY (a:=t) (b:=65536) (by omega) hu
 obtain⟨o2,v2⟩:=vY (a:=T) (b:=65536) (by omega) hu
 have hy:yL (jW X (aH T 65536) m)=aH T 65536:=rfl
 have hr:iT (jW X (aH T 65536) m) (aH t 65536)=if t≤T then 0 else X+eL (65536*(t-T)) m:=by
  unfold iT;rw[hy,MG o1 o2,v1,v2]
  by_cases e:t≤T
  ·rw[if_pos e,if_pos (by unfold oC;(repeat' split)<;>omega)]
  ·rw[if_neg e,if_neg (by unfold oC;(repeat' split)<;>omega)]
   obtain⟨o3,v3⟩:=W4 o1 o2 (by rw[v1,v2];omega)
   have hv3:nv (kU (aH t 65536)<|aH T 65536)=65536*(t-T):=by rw[v3,v1,v2];omega
   obtain⟨c1,c2⟩:=W6 (b:=m) o3 (by rw[hv3];omega)<|by omega
   rw[hv3] at c2
   have h1:=sG (a:=65536*(t-T)) hm.1<|by omega
   have h2:=Dh (a:=65536*(t-T)) hm.1<|by omega
   show(if(kS _ m≠0∨X≥9223372036854775808)∨jd _ m≥IntKind.u64.wrap (9223372036854775808-X) then _ else IntKind.u64.wrap<|X+jd _ m)=_
   rw[c1,c2,if_neg (by rw[IntKind.wrap_u64];omega),IntKind.wrap_u64];omega
 unfold jN kG i8
 show bV (bV 0<|bV (bV 0<|iT (jW X (aH T 65536) m)<|aH t 65536)<|iT (jW X (aH T 65536) m)<|aH t 65536) X=_
 rw[hr]
 have h1:=sG (a:=65536*(t-T)) hm.1<|by omega
 unfold bV;split
 ·rw[show 65536*(t-T)=0 by omega,NT hm.1];(repeat' split)<;>omega
 ·(repeat' split)<;>omega
theorem MI(hm:1≤m∧m≤4294967295)(hX:0≤X)(hx:X≤x∧x≤1099511627776)(hT:0≤T∧T≤16777216):lV (lC (jW X (aH T 65536) m) x)∧nv (lC (jW X (aH T 65536) m) x)=65536*T+m*(x-X):=by
 obtain⟨o1,v1⟩:=vY (a:=T) (b:=65536) (by omega)<|by decide
 show lV (if x≤X then aH T 65536 else fR (aH T 65536)<|aH m<|IntKind.u64.wrap<|x-X)∧nv (if x≤X then aH T 65536 else fR (aH T 65536)<|aH m<|IntKind.u64.wrap<|x-X)=_
 split
 ·refine⟨o1,?_⟩;rw[v1,show x-X=0 by omega,Int.mul_zero];omega
 ·rw[show IntKind.u64.wrap (x-X)=x-X by rw[IntKind.wrap_u64];omega]
  obtain⟨o2,v2⟩:=vY (Xu hm) (b:=x-X)<|by omega
  have hb:=uI (a:=m) (b:=x-X) (c:=4294967295) (d:=1099511627776) (by omega)<|by omega
  obtain⟨o3,v3⟩:=W2 o1 o2 (by rw[v1,v2];unfold bX;omega)
  exact⟨o3,by rw[v3,v1,v2];omega⟩
theorem RH{low:Int}{s:Sh}{c:Cv}(hm:1≤m∧m≤4294967295)(hc:kC c=2)(hcm:c.kc=m)(hl:0≤low∧low≤1099511627776)(ht:0≤t∧t≤16777216)
  (hs:s.sq1=true→eS s=kG m X T∧(0≤X∧X≤1099511627776)∧0≤T∧T≤t):
  ∃X' T',jO s c low t=yG true (kG m X' T') (X'+eL (65536*(t-T')) m)∧0≤X'∧X'≤1099511627776∧0≤T'∧T'≤t∧X'+eL (65536*(t-T')) m=(if s.sq1=true then bV low (X+eL (65536*(t-T)) m) else low):=by
 have hst:aS c low (aH t 65536)=kG m low t:=by
  unfold aS bI;rw[hc,if_neg<|by decide,if_pos<|.inl rfl,hcm];rfl
 have z:eL (65536*(t-t)) m=0:=by rw[Int.sub_self,Int.mul_zero,NT hm.1]
 unfold jO;rw[hst]
 by_cases h:s.sq1=true
 ·obtain⟨e,hX,hT,hTt⟩:=hs h
  rw[h,e,if_pos rfl]
  have hn:=sG (a:=65536*(t-T)) hm.1<|by omega
  have hmt:cH (kG m X T) (kG m low t)=nJ nP (dP (jW X (aH T 65536) m)<|jW low (aH t 65536) m) false:=rfl
  have hlo:dP (jW X (aH T 65536) m) (jW low (aH t 65536) m)=if 65536*t+m*(bV X low-low)<65536*T+m*(bV X low-X) then jW low (aH t 65536) m else jW X (aH T 65536) m:=by
   have hx:X≤bV X low∧low≤bV X low∧bV X low≤1099511627776:=by unfold bV;split<;>omega
   obtain⟨o1,v1⟩:=MI hm hX.1 (x:=bV X low) ⟨hx.1,hx.2.2⟩ (T:=T)<|by omega
   obtain⟨o2,v2⟩:=MI hm hl.1 (x:=bV X low) ⟨hx.2.1,hx.2.2⟩ (T:=t) ht
   unfold dP
   show(if ly (lC _<|bV X low) (lC _<|bV X low)<0 then _ else _)=_
   rw[MG o2 o1,v1,v2];unfold oC;(repeat' split)<;>first|rfl|omega
  show∃X' T',yG true (cH (kG m X T)<|kG m low t) (jN (cH (kG m X T)<|kG m low t) t)=_∧_
  rw[hmt,hlo]
  by_cases hlt:low≤X
  ·have hi:bV X low=X:=by unfold bV;split<;>omega
   have hmn:0≤m*(X-low):=Int.mul_nonneg (by omega)<|by omega
   rw[hi,if_neg (by rw[Int.sub_self,Int.mul_zero];omega)]
   refine⟨X,T,?_,hX.1,hX.2,hT,hTt,by unfold bV;split<;>omega⟩
   exact congrArg _<|xH hm hX ⟨hT,hTt⟩ ht.2
  ·have hi:bV X low=low:=by unfold bV;split<;>omega
   rw[hi,Int.sub_self,Int.mul_zero]
   by_cases hq:65536*t+0<65536*T+m*(low-X)
   ·rw[if_pos hq]
    refine⟨low,t,?_,hl.1,hl.2,ht.1,Int.le_refl _,?_⟩
    ·have:=xH hm hl ⟨ht.1,Int.le_refl t⟩ ht.2
     exact congrArg _ this
    ·have:eL (65536*(t-T)) m≤low-X:=q8 hm.1<|by omega
     rw[z];unfold bV;split<;>omega
   ·rw[if_neg hq]
    refine⟨X,T,?_,hX.1,hX.2,hT,hTt,?_⟩
    ·exact congrArg _<|xH hm hX ⟨hT,hTt⟩ ht.2
    ·have:low-X≤eL (65536*(t-T)) m:=by
      refine uH hm.1 ?_
      have:m*(low-X-1)=m*(low-X)-m:=by rw[Int.mul_sub,Int.mul_one]
      omega
     unfold bV;split<;>omega
 ·rw[Bool.not_eq_true] at h
  rw[h,if_neg<|by decide]
  refine⟨low,t,?_,hl.1,hl.2,ht.1,Int.le_refl _,by rw[z];omega⟩
  have:=xH hm hl ⟨ht.1,Int.le_refl t⟩ ht.2
  exact congrArg _ this
def pv(kk:List (Int×Vt))(p i:Int):Option Int:=(aB kk p).bind λv=>(aB v.kv i).map (·.ka)
variable{p:Int}{v:Vt}
theorem pt(h:aB kk p=some v)(i:Int):pv kk p i=(aB v.kv i).map (·.ka):=by unfold pv;rw[h];rfl
variable{q:Int}
theorem Ff:pv (aJ kk q v) p i=if q=p then(aB v.kv i).map (·.ka) else pv kk p i:=by
 unfold pv;rw[ed];split<;>rfl
variable{A E:Int→Prop}
theorem BL(h:KT kc A kk E)(hp:kZ kc p)(i:Int):pv kk p i≠none↔A i∧(aK kc i).hp=p:=by
 obtain⟨v,h1,h2⟩:=h p hp
 rw[pt h1,←h2.key];cases aB v.kv i<;>simp
theorem Fg(hL:cB kc): ∀(n:Nat)(i:Int),dep kc i≤n→(bE kc i).Nodup
 |n,i,hn=>by
  cases e:aB kc i with
  |none=>rw[lL e];exact List.nodup_nil
  |some c=>
   have hd:=iM hL e
   cases n with
   |zero=>omega
   |succ n=>
    rw[i6 hL e]
    exact List.nodup_cons.2 ⟨λh=>by have:=rW hL _ c.hp i (Nat.le_refl _) h;omega,Fg hL n c.hp<|by omega⟩
theorem E3(hL:cB kc): ∀(n:Nat)(i x y:Int),dep kc i≤n→x∈bE kc i→y∈bE kc i→dep kc x=dep kc y→x=y
 |n,i,x,y,hn,hx,hy,hd=>by
  cases e:aB kc i with
  |none=>rw[lL e] at hx;cases hx
  |some c=>
   have h1:=iM hL e
   cases n with
   |zero=>omega
   |succ n=>
    rw[i6 hL e] at hx hy
    rcases List.mem_cons.1 hx with ex|hx2<;>rcases List.mem_cons.1 hy with ey|hy2
    ·rw[ex,ey]
    ·have:=rW hL _ c.hp y (Nat.le_refl _) hy2;rw[ex] at hd;omega
    ·have:=rW hL _ c.hp x (Nat.le_refl _) hx2;rw[ey] at hd;omega
    ·exact E3 hL n c.hp x y (by omega) hx2 hy2 hd
theorem vZ(hL:cB kc){z:Int}(h:z∈bE kc i): ∃c,aB kc z=some c:=EP hL _ i z (Nat.le_refl _) h
theorem E4(hL:cB kc)(h:aB kc i≠none):dep kc i=dep kc (aK kc i).hp+1:=by
 cases e:aB kc i with
 |none=>exact absurd e h
 |some c=>rw[iM hL e,fL e]
theorem E5(hL:cB kc){y:Int}(hx:x∈bE kc i)(hy:y∈bE kc i)(h:(aK kc x).hp=(aK kc y).hp):x=y:=by
 obtain⟨c,h1⟩:=vZ hL hx;obtain⟨d,h2⟩:=vZ hL hy
 refine E3 hL _ i x y (Nat.le_refl _) hx hy ?_
 rw[E4 hL (i:=x) (by rw[h1];simp),E4 hL (i:=y) (by rw[h2];simp),h]
theorem Di{n:Int}: ∀{L:Wx}{kb:hV En}(j:Int),L.Nodup→aB (ky n L kb) j=if j∈L then(aB kb j).map (vu n) else aB kb j
 |[],kb,j,_=>by simp[ky]
 |i::L,kb,j,hn=>by
  obtain⟨h1,h2⟩:=List.nodup_cons.1 hn
  unfold ky;rw[Di j h2]
  by_cases e:j=i
  ·subst e;rw[if_neg h1,if_pos<|List.mem_cons_self ..]
   cases hm:aB kb j with
   |none=>rw[hm];rfl
   |some m=>rw[ie];rfl
  ·cases aB kb i with
   |none=>simp only[List.mem_cons,e,false_or]
   |some m=>dsimp only;rw[ed,if_neg (c:=i=j) λh=>e h.symm];simp only[List.mem_cons,e,false_or]
theorem KF: ∀{L:Wx}{kb:hV En}(j:Int),L.Nodup→aB (kL kk now L kb) j=if j∈L then(aB kb j).map (ou kk now) else aB kb j
 |[],kb,j,_=>by simp[kL]
 |i::L,kb,j,hn=>by
  obtain⟨h1,h2⟩:=List.nodup_cons.1 hn
  unfold kL;rw[KF j h2]
  by_cases e:j=i
  ·subst e;rw[if_neg h1,if_pos<|List.mem_cons_self ..]
   cases hm:aB kb j with
   |none=>rw[hm];rfl
   |some m=>rw[ie];rfl
  ·cases aB kb i with
   |none=>simp only[List.mem_cons,e,false_or]
   |some m=>dsimp only;rw[ed,if_neg (c:=i=j) λh=>e h.symm];simp only[List.mem_cons,e,false_or]
def zE(m:En):En:={m with sh:=lF}
theorem AG: ∀{L:Wx}{kb:hV En}(j:Int),aB (oQ L kb) j=if j∈L then(aB kb j).map zE else aB kb j
 |[],kb,j=>by simp[oQ]
 |i::L,kb,j=>by
  unfold oQ;rw[AG j]
  by_cases e:j=i
  ·subst e;rw[if_pos (c:=j∈j::L)<|List.mem_cons_self ..]
   cases hm:aB kb j with
   |none=>rw[hm];split<;>rfl
   |some m=>rw[ie];split<;>rfl
  ·cases aB kb i with
   |none=>simp only[List.mem_cons,e,false_or]
   |some m=>dsimp only;rw[ed,if_neg (c:=i=j) λh=>e h.symm];simp only[List.mem_cons,e,false_or]
variable{on:hV Int}{ka:hV MB}
theorem AH: ∀{L:Wx}{kk kk':hV Vt},ku on ka kb L kk kk'→ ∀q,pv kk' p q=if q∈L∧fA on ka q=true∧(aB kb q).map (λm:En=>m.ec.hp)=some p then(aB kb q).map (λm:En=>m.sh.sq11) else pv kk p q
 |[],kk,kk',h,q=>by cases h;simp
 |i::L,kk,kk',h,q=>by
  rcases h with⟨h1,h⟩|⟨h1,x,v,t,hx,hv,-,h⟩
  ·rw[AH h q]
   by_cases e:q=i
   ·subst e;simp[h1]
   ·simp[e]
  ·rw[AH h q]
   by_cases hL:q∈L∧fA on ka q=true∧(aB kb q).map (λm:En=>m.ec.hp)=some p
   ·rw[if_pos hL,if_pos ⟨List.mem_cons_of_mem _ hL.1,hL.2⟩]
   ·rw[if_neg hL,Ff]
    by_cases e:q=i
    ·subst e;rw[hx]
     split
     ·rename_i hp;rw[if_pos ⟨List.mem_cons_self ..,h1,by rw[←hp];rfl⟩]
      show(aB (aJ v.kv q _) q).map _=_
      rw[ie];rfl
     ·rename_i hp;rw[if_neg λh=>hp<|by simpa using h.2.2]
    ·rw[if_neg (c:=q∈i::L∧_) λh=>hL ⟨(List.mem_cons.1 h.1).resolve_left e,h.2⟩]
     split
     ·rename_i hp;subst hp
      show(aB (aJ v.kv i _) q).map _=_
      rw[ed,if_neg λh=>e h.symm,pt hv]
     ·rfl
theorem W7{β:Type}: ∀{l:List (Int×β)},(∀i,aB l i=none)→l=[]
 |[],_=>rfl
 |p::l,h=>by have:=h p.1;simp[aB] at this
def uV(kk:List (Int×Vt))(p:Int):Prop:= ∀v,aB kk p=some v→(v.kv.map (·.1)).Nodup
theorem W8(h:uV kk p)(hv:(v.kv.map (·.1)).Nodup):uV (aJ kk q v) p:=λw hw=>by
 rw[ed] at hw;split at hw
 ·cases hw;exact hv
 ·exact h w hw
theorem Xv(h:uV kk p)(hq:q≠p):uV (aJ kk q v) p:=λw hw=>by rw[ed,if_neg hq] at hw;exact h w hw
theorem KG: ∀{l:Wx}{kk kk':hV Vt},uV kk p→og kc l kk kk'→ ∀q,pv kk' p q=if q∈l∧(aK kc q).hp=p then none else pv kk p q
 |[],kk,kk',hn,h,q=>by cases h;simp
 |i::l,kk,kk',hn,⟨c,v,t,hc,hv,he,h⟩,q=>by
  have hg:=fL hc
  have e2:pv (aJ kk c.hp {v with t:=t,kv:=aW v.kv i}) p q=if q=i∧c.hp=p then none else pv kk p q:=by
   rw[Ff];by_cases hp:c.hp=p
   ·rw[if_pos hp];subst hp
    show(aB (aW v.kv i) q).map _=_
    rw[gP<|hn v hv,pt hv]
    by_cases e:i=q
    ·subst e;simp
    ·simp[e,show¬q=i from λh=>e h.symm]
   ·rw[if_neg hp,if_neg λh=>hp h.2]
  rw[KG (W8 hn he.nd) h q,e2]
  by_cases e:q=i
  ·subst e;rw[hg];by_cases hp:c.hp=p<;>simp[hp]
  ·simp[e]
theorem GV(hnd:(kc.map (·.1)).Nodup): ∀{l:Wx}{kb kb':hV En}{kk:hV Vt},qj kc l kb kk kb'→(∀z∈l,(aK kc z).hp≠p)→ ∀j,(aK kc j).hp=p→aB kb' j=aB kb j
 |[],kb,kb',kk,h,_,j,_=>by cases h;rfl
 |i::l,kb,kb',kk,⟨c,v,t,hc,hv,h⟩,hz,j,hj=>by
  rw[GV hnd h (λz hz2=>hz z<|List.mem_cons_of_mem _ hz2) j hj]
  split
  ·rw[AG,if_neg λhm=>?_]
   obtain⟨d,h1,h2⟩:=zO hnd hm
   rw[fL h1] at hj
   exact hz i (List.mem_cons_self ..) (by rw[fL hc,←hj];exact(by simpa using h2:d.hp=c.hp).symm)
  ·rfl
open Classical in
theorem NU(hnd:(kc.map (·.1)).Nodup)(hx:(aK kc x).hp=p): ∀{l:Wx}{kb kb':hV En}{kk:hV Vt},uV kk p→qj kc l kb kk kb'→l.Nodup→x∈l→(∀z∈l,(aK kc z).hp=p→z=x)→
  ∀j c,aB kc j=some c→c.hp=p→aB kb' j=if∀q,q≠x→pv kk p q=none then(aB kb j).map zE else aB kb j
 |[],kb,kb',kk,hn,h,_,hxl,_,j,cj,hcj,hj=>by cases hxl
 |i::l,kb,kb',kk,hn,⟨c,v,t,hc,hv,h⟩,hd,hxl,hz,j,cj,hcj,hj=>by
  obtain⟨d1,d2⟩:=List.nodup_cons.1 hd
  have hg:=fL hc
  by_cases e:i=x
  ·subst e
   rw[hg] at hx;subst hx
   rw[GV (p:=c.hp) hnd h (λz hz2 hp=>d1<|hz z (List.mem_cons_of_mem _ hz2) hp▸hz2) j (by rw[fL hcj];exact hj)]
   have key:(aW v.kv i).length=0↔ ∀q,q≠i→pv kk c.hp q=none:=by
    constructor
    ·intro h0 q hq
     have:=List.eq_nil_of_length_eq_zero h0
     have h1:=gP (hn v hv) i q;rw[this,if_neg λh=>hq h.symm] at h1
     rw[pt hv,←h1];rfl
    ·intro h0
     rw[W7 (l:=aW v.kv i) λq=>?_];rfl
     rw[gP<|hn v hv];split
     ·rfl
     ·rename_i hq;have:=h0 q λh=>hq h.symm
      rw[pt hv] at this;simpa using this
   by_cases h0:(aW v.kv i).length=0
   ·rw[if_pos h0,if_pos<|key.1 h0,AG,if_pos<|tM hcj<|by simpa using hj]
   ·rw[if_neg h0,if_neg λh=>h0<|key.2 h]
  ·have hp:c.hp≠p:=λhp=>e<|hz i (List.mem_cons_self ..)<|hg▸hp
   have e2: ∀q,pv (aJ kk c.hp {v with t:=t,kv:=aW v.kv i}) p q=pv kk p q:=λq=>by rw[Ff,if_neg hp]
   rw[NU hnd hx (Xv hn hp) h d2 ((List.mem_cons.1 hxl).resolve_left λh=>e h.symm) (λz hz2=>hz z<|List.mem_cons_of_mem _ hz2) j cj hcj hj]
   simp only[e2]
   have:aB (if(aW v.kv i).length=0 then oQ (aV kc λv_=>v_.hp==c.hp) kb else kb) j=aB kb j:=by
    split
    ·rw[AG,if_neg λhm=>?_]
     obtain⟨d,h1,h2⟩:=zO hnd hm
     rw[hcj] at h1;cases h1
     exact hp (by rw[←hj];exact(by simpa using h2:cj.hp=c.hp).symm)
    ·rfl
   rw[this]
theorem MJ(h:KT kc A kk E)(hp:kZ kc p):
  (∀q t,pv kk p q=some t→iq kk p≤t)∧((∃q,pv kk p q≠none)→ ∃q,pv kk p q=some (iq kk p))∧((∀q,pv kk p q=none)→iq kk p=0):=by
 obtain⟨v,h1,h2⟩:=h p hp
 have hl:iq kk p=(v.t.toL.head?.getD default).ka:=by unfold iq;rw[h1];rfl
 cases e:v.t.toL with
 |nil=>
  have hz: ∀q,pv kk p q=none:=λq=>by
   rw[pt h1];cases e2:aB v.kv q with
   |none=>rfl
   |some y=>
    have h3:=(h2.er.own q y e2).1
    have:=(h2.er.mem y).2 (by rw[h3];exact e2)
    rw[e] at this;cases this
  exact⟨λq t ht=>(by rw[hz q] at ht;cases ht),λ⟨q,hq⟩=>absurd (hz q) hq,λ_=>(by rw[hl,e];rfl)⟩
 |cons y L=>
  have hy:=(h2.er.mem y).1 (by rw[e];exact List.mem_cons_self ..)
  have hky:pv kk p y.ki=some (iq kk p):=by rw[pt h1,hy,hl,e];rfl
  refine⟨λq t ht=>?_,λ_=>⟨_,hky⟩,λhz=>(by rw[hz] at hky;cases hky)⟩
  rw[pt h1] at ht
  cases e2:aB v.kv q with
  |none=>rw[e2] at ht;cases ht
  |some z=>
   rw[e2] at ht;cases ht
   have h3:=(h2.er.own q z e2).1
   have h4:=(h2.er.mem z).2 (by rw[h3];exact e2)
   have hs:=h2.er.wf.srt
   rw[e] at h4 hs;rw[hl,e]
   rcases List.mem_cons.1 h4 with rfl|h4
   ·exact Int.le_refl _
   ·have:=(List.pairwise_cons.1 hs).1 z h4
    show y.ka≤z.ka
    unfold kl eV at this;omega
theorem KH(hL:cB kc)(hB:eW kc kb)(hA: ∀i,A i→eA kc i=true)(h:KT kc A kk E)(now:Int): ∀(f:Nat)(i j:Int),kZ kc i→jQ kb kk now f i=some j→
  (i=0∨i∈bE kc j)∧ ∀x∈bE kc j,dep kc i<dep kc x→ ∃y,mU kk now (aK kc x).hp=some y∧y.ki=x
 |0,i,j,hi,hd=>by simp[jQ] at hd
 |f+1,i,j,hi,hd=>by
  unfold jQ at hd
  split at hd
  ·cases hd
  ·rename_i y hy
   obtain⟨v',-,-,h3,h4,-⟩:=zy h hi hy
   obtain⟨c,h5,h6⟩:=kR<|hA _ h3
   obtain⟨m,h7,h8,-⟩:=oe hB h5
   have hlf:qh kb y.ki=c.hl:=by unfold qh;rw[h7];simp[h8]
   have hdy:=iM hL h5
   have hcp:c.hp=i:=by rw[←h6];exact h4
   rw[hcp] at hdy
   have hup:i=0∨i∈bE kc i:=by
    rcases hi with hi|⟨d,hi,-⟩
    ·exact .inl hi
    ·right;rw[i6 hL hi];exact List.mem_cons_self ..
   split at hd
   ·rename_i hl;cases hd
    rw[i6 hL h5,hcp]
    refine⟨hup.imp id<|List.mem_cons_of_mem _,λx hx hdx=>?_⟩
    rcases List.mem_cons.1 hx with rfl|hx
    ·exact⟨y,by rw[h4];exact hy,rfl⟩
    ·have:=rW hL _ i x (Nat.le_refl _) hx;omega
   ·rename_i hl
    obtain⟨g1,g2⟩:=KH hL hB hA h now f _ j (.inr ⟨c,h5,by rw[←hlf];simpa using hl⟩) hd
    have hyj:=g1.resolve_left<|o8 hL (by rw[h5];simp)
    refine⟨?_,λx hx hdx=>?_⟩
    ·rcases hup with h0|h0
     ·exact .inl h0
     ·right
      have:=Az hL _ j y.ki (Nat.le_refl _) hyj
      rw[h4] at this
      rcases this with h9|h9
      ·exact h9
      ·exact absurd (by rw[h9,lL<|lO hL] at h0;cases h0) id
    ·by_cases hq:dep kc y.ki<dep kc x
     ·exact g2 x hx hq
     ·have:x=y.ki:=E3 hL _ j x y.ki (Nat.le_refl _) hx hyj<|by omega
      subst this;exact⟨y,by rw[h4];exact hy,rfl⟩
structure Bz(c:Ss)(d:Sd):Prop where
 iv:Iv c d
 z:gf d.kb∧ZK d.kc d.kk
 eg: ∀i x,aB d.kc i=some x→x.hl=true→eA d.kc i=true
def jS(kc:List (Int×Cl))(P i:Int):Prop:=eA kc i=true∧(aK kc i).hp=P
def G7(g:Int)(m:En):Prop:=m.sh.sq1=true→ ∃X T,eS m.sh=kG m.ec.lc X T∧0≤X∧0≤T∧T≤m.tot∧m.sh.sq11=X+eL (65536*(m.tot-T)) m.ec.lc∧m.sh.sq11≤65536*g
structure Fz(c:Ss)(P lst g:Int)(d:Sd):Prop where
 bz:Bz c d
 hP:kZ d.kc P
 nr: ∀i x,aB d.kc i=some x→ib x=false
 ls: ∀i x,aB d.kc i=some x→eA d.kc i=true→x.hp=P→kC (kK x)=2∧lst≤x.lc∧x.lc≤4294967295
 l1:1≤lst
 g0:0≤g
 pl: ∀i,∀p∈qk d.kb i,p.qn≤c.lm
 tot: ∀i m,aB d.kb i=some m→0≤m.tot∧m.tot≤g
 sh: ∀i m,aB d.kb i=some m→jS d.kc P i→G7 g m
 ka: ∀i t,pv d.kk P i=some t→ ∃m,aB d.kb i=some m∧m.sh.sq1=true∧m.sh.sq11=t
 em:(∀i,pv d.kk P i=none)→ ∀i m,aB d.kb i=some m→jS d.kc P i→m.sh.sq1=false
 fr: ∀i t j m,pv d.kk P i=some t→aB d.kb j=some m→jS d.kc P j→m.sh.sq1=true→m.sh.sq11≤t+eL (65536*c.lm) lst
def nN(P:Int)(d d':Sd):Prop:= ∀i m m',aB d.kb i=some m→aB d'.kb i=some m'→jS d.kc P i→pv d.kk P i≠none→pv d'.kk P i≠none→eS m'.sh=eS m.sh
variable{c:Ss}{P lst g:Int}{m:En}
theorem AI(h:Fz c P lst g d)(hm:aB d.kb i=some m)(hc:jS d.kc P i):kC (kK m.ec)=2∧lst≤m.ec.lc∧1≤m.ec.lc∧m.ec.lc≤4294967295:=by
 have hk:=jP h.bz.iv.by_ hm
 obtain⟨h1,h2,h3⟩:=h.ls i _ hk hc.1 (by rw[←fL hk];exact hc.2)
 exact⟨h1,h2,by have:=h.l1;omega,h3⟩
theorem GW(hL:cB kc){B:Int→Prop}(h:AO kc on ka A)(g:AO kc on ka B)(q:Int):A q↔B q:=by rw[pS hL h.ast,pS hL g.ast]
def Ns(n:Int)(L:List Int)(kb kb':List (Int×En)):Prop:= ∀j m',aB kb' j=some m'→ ∃m,aB kb j=some m∧m'.ec=m.ec∧m'.tot=m.tot+(if j∈L then n else 0)
theorem RI{n:Int}{L:Wx}(hn:L.Nodup){q:Qu}(hm:aB kb i=some m)(ht: ∀j x,aB kb j=some x→0≤x.tot∧x.tot≤16777216)(hr:1≤n∧n≤16384)(j:Int)(x:En)(hx:aB kb j=some x):
  ∃x2,aB (ky n L<|aJ kb i {m with q:=q}) j=some x2∧x2.ec=x.ec∧x2.tot=x.tot+(if j∈L then n else 0)∧x2.sh=if j∈L then jo x.sh (x.tot+n) else x.sh:=by
 have hw:IntKind.u64.wrap (x.tot+IntKind.u64.wrap n)=x.tot+n:=by have:=ht j x hx;rw[IntKind.wrap_u64,IntKind.wrap_u64];omega
 obtain⟨y,h1,h2,h3,h4⟩: ∃y,aB (aJ kb i {m with q:=q}) j=some y∧y.ec=x.ec∧y.tot=x.tot∧y.sh=x.sh:=by
  rw[ed];split
  ·rename_i e;subst e;rw[hm] at hx;cases hx;exact⟨_,rfl,rfl,rfl,rfl⟩
  ·exact⟨x,hx,rfl,rfl,rfl⟩
 rw[Di j hn,h1]
 split
 ·exact⟨_,rfl,h2,by show IntKind.u64.wrap (y.tot+IntKind.u64.wrap n)=_;rw[h3,hw],by show jo y.sh (IntKind.u64.wrap<|y.tot+IntKind.u64.wrap n)=_;rw[h3,h4,hw]⟩
 ·exact⟨y,rfl,h2,by rw[h3];omega,h4⟩
theorem T9(h:qt kb kb'){j:Int}{m':En}(hm:aB kb' j=some m'): ∃m,aB kb j=some m∧m'.ec=m.ec∧m'.tot=m.tot:=by
 have h1:=h.1 j;rw[hm] at h1
 cases e:aB kb j with
 |none=>rw[e] at h1;cases h1
 |some n=>
  rw[e] at h1;simp only[Option.map_some,Option.some.injEq,En.mk.injEq] at h1
  exact⟨n,rfl,h1.2.2.2.1,h1.2.2.2.2.1⟩
variable{z:Pd}
open Classical in
theorem RJ(h:Fz c P lst g d)(hg:g≤16777216)(hn0:0≤now)(ht:oh d now z ok d')(hok:ok=true):
  Ns z.gq3 (bE d.kc z.gq1) d.kb d'.kb∧(∀q∈bE d.kc z.gq1,aB d.kc q≠none)∧
  (((∀x∈bE d.kc z.gq1,(aK d.kc x).hp≠P)∧(∀q,pv d'.kk P q=pv d.kk P q)∧ ∀j m,aB d.kb j=some m→jS d.kc P j→ ∃m',aB d'.kb j=some m'∧m'.ec=m.ec∧m'.tot=m.tot∧m'.sh=m.sh)∨
  ∃x∈bE d.kc z.gq1,jS d.kc P x∧ ∃off:Prop,pv d.kk P x=some (iq d.kk P)∧
   (∀q,q≠x→pv d'.kk P q=pv d.kk P q)∧(off→pv d'.kk P x=none)∧(¬off→ ∃m',aB d'.kb x=some m'∧pv d'.kk P x=some m'.sh.sq11)∧
   ∀j m,aB d.kb j=some m→jS d.kc P j→ ∃m',aB d'.kb j=some m'∧m'.ec=m.ec∧m'.tot=m.tot+(if j=x then z.gq3 else 0)∧
    m'.sh=if off∧ ∀q,q≠x→pv d.kk P q=none then lF else if j=x then jo m.sh (m.tot+z.gq3) else m.sh):=by
 have hpk:=AA (Ax h.bz.iv) ht hok
 have hiv:=h.bz.iv
 obtain⟨hI',-,hq0',-⟩:=vA hiv ht
 have hq0:=hq0' hok
 obtain⟨A',hA',hK'⟩:=hI'.ac
 obtain⟨A,hA,hK⟩:=hiv.ac
 have hL:=hiv.laid
 have ht0:=ht
 obtain⟨⟨hbt,hmc,hkc,ha,hnd⟩,hck,hac,hR⟩:=ht
 obtain⟨bt',mc',kc',kb',a',on',ka',et',ek',kk',ck',ac'⟩:=d'
 dsimp only at hbt hmc hkc ha hck hac hR hA' hK'⊢
 subst hbt hmc hkc ha hck hac
 rcases hR with⟨hc,he,-⟩|⟨hc,-,hz1,hz8,m,q,hm,hP,m2,kb2,kb3,kk2,hkb2,hm2,hqb,hq,hec,hD,hS,hSet⟩
 ·rw[hok] at he;cases he
 rw[←hz1] at hm hkb2 hm2 hD hS hSet
 have hch:jQ d.kb d.kk ck' 17 0=some z.gq1:=by
  have hel:d.et.toL=[]:=by
   cases e:d.et.toL with
   |nil=>rfl
   |cons y l=>
    have h1:=(hiv.el.mem y).1 (by rw[e];exact List.mem_cons_self ..)
    obtain⟨h2,h3⟩:=hiv.ekk y.ki (by rw[h1];simp)
    obtain⟨x,-,h5,-,h6⟩:=nu hiv.by_ h2
    rw[h6,h.nr _ _ h5] at h3;cases h3
  have hb:eC (cF ck' 9223372036854775807) d.et.toL=none:=by rw[hel];rfl
  unfold dm at hc hz1;rw[hb] at hc hz1
  cases e:jQ d.kb d.kk ck' 17 0 with
  |none=>rw[e] at hc;cases hc
  |some j=>rw[e] at hz1;rw[hz1];rfl
 obtain⟨-,hup⟩:=KH hL hiv.by_ hA.ast.sh hK ck' 17 0 z.gq1 (.inl rfl) hch
 obtain⟨haj,hlj⟩:=F3 hL hiv.by_ hA.ast.sh hK ck' 17 0 z.gq1 (.inl rfl) hch
 have hLA: ∀x∈bE d.kc z.gq1,A x:=ui hL hA.ast _ _ (Nat.le_refl _) haj
 have hLc: ∀x∈bE d.kc z.gq1,aB d.kc x≠none:=λx hx=>by obtain⟨y,hy⟩:=vZ hL hx;rw[hy];simp
 have hLn:=Fg hL _ z.gq1<|Nat.le_refl _
 generalize hi:z.gq1=i at*
 generalize hLL:bE d.kc i=L at*
 have hrl:ib m2.ec=false:=by rw[hec];exact h.nr _ _<|jP hiv.by_ hm
 obtain⟨hkb3,-⟩:kb3=kb2∧et'=d.et:=by
  rcases hD with⟨h1,-⟩|⟨-,h1,h2,-⟩
  ·rw[hrl] at h1;cases h1
  ·exact⟨h1,h2⟩
 subst hkb3
 have hk2:=λj x hx=>RI (q:=q) hLn hm (λj x hx=>by have:=h.tot j x hx;omega) hpk j x hx
 rw[←hkb2] at hk2
 have hk2': ∀j,aB d.kb j=none→aB kb3 j=none:=λj hj=>by
  rw[hkb2,Di j hLn,ed]
  have: ¬i=j:=λe=>by rw[e,hj] at hm;cases hm
  rw[if_neg this,hj];split<;>rfl
 have hEn: ∀j m',aB kb3 j=some m'→ ∃m,aB d.kb j=some m∧m'.ec=m.ec∧m'.tot=m.tot+(if j∈L then z.gq3 else 0):=λj m' hm'=>by
  cases e:aB d.kb j with
  |none=>rw[hk2' j e] at hm';cases hm'
  |some x=>obtain⟨x2,h1,h2,h3,-⟩:=hk2 j x e;rw[h1] at hm';cases hm';exact⟨x,rfl,h2,h3⟩
 have hB':=hI'.by_
 have hsl: ∃l:Wx,l.Nodup∧(∀q,q∈l↔q∈L∧ ¬A' q)∧(∀q,pv kk2 P q=if q∈l∧(aK d.kc q).hp=P then none else pv d.kk P q)∧(∀j m',aB kb' j=some m'→ ∃m,aB kb3 j=some m∧m'.ec=m.ec∧m'.tot=m.tot)∧
   ((∀q∈l,(aK d.kc q).hp≠P)→ ∀j,(aK d.kc j).hp=P→aB kb' j=aB kb3 j)∧(∀x∈l,(aK d.kc x).hp=P→ ∀j cj,aB d.kc j=some cj→cj.hp=P→aB kb' j=if∀q,q≠x→pv d.kk P q=none then(aB kb3 j).map zE else aB kb3 j):=by
  have hTb:uV d.kk P:=λv hv=>by obtain⟨w,h1,h2⟩:=hK P h.hP;rw[hv] at h1;cases h1;exact h2.er.nd
  rcases hS with⟨-,hkb,hon,hka,hkk⟩|⟨-,l,er,hO,hEq,-,hDr,hDs⟩
  ·subst hkb hon hka hkk
   have hAA:=GW hL hA hA'
   exact⟨[],List.nodup_nil,λq=>⟨λh=>(by cases h),λ⟨h1,h2⟩=>absurd ((hAA q).1 (hLA q h1)) h2⟩,λq=>by simp,λj m' hm'=>⟨m',hm',rfl,rfl⟩,λ_ _ _=>rfl,λx hx=>by cases hx⟩
  ·rw[hiv.ym] at hO
   obtain⟨A2,hA2,hl,hAA,hon⟩:=L9 hL hA hO<|vT hL hA.ast haj hlj
   have h2:=GW hL hA2 hA'
   rw[hLL] at hl
   have hln:l.Nodup:=by rw[hl];exact hLn.filter _
   have hm1: ∀q,q∈l↔q∈L∧ ¬A' q:=λq=>by rw[hl,List.mem_filter];simp[h2]
   refine⟨l,hln,hm1,KG hTb hDr,λj m' hm'=>T9 hEq hm',λhno=>GV hL.nd hDs hno,λx hx hxp=>NU hL.nd hxp hTb hDs hln hx λy hy hyp=>?_⟩
   rw[hm1] at hx hy
   exact E5 hL (hLL▸hy.1) (hLL▸hx.1)<|hyp.trans hxp.symm
 obtain⟨l,hln,hlm,hpv2,hen2,hno,hat⟩:=hsl
 refine⟨λj m' hm'=>?_,hLc,?_⟩
 ·obtain⟨x,h1,h2,h3⟩:=hen2 j m' hm'
  obtain⟨y,h4,h5,h6⟩:=hEn j x h1
  exact⟨y,h4,h2.trans h5,h3.trans h6⟩
 have hset:=λq=>AH (p:=P) hSet q
 have hisA: ∀q,aB d.kc q≠none→(fA on' ka' q=true↔A' q):=λq hq=>uC hA'<|o8 hL hq
 have hhp: ∀q m,aB kb' q=some m→m.ec.hp=(aK d.kc q).hp:=λq m hm=>by rw[fL<|jP hB' hm]
 by_cases hx: ∃x∈L,(aK d.kc x).hp=P
 ·right
  obtain⟨x,hxL,hxp⟩:=hx
  have hxs:=hA.ast.sh x<|hLA x hxL
  have hone: ∀y∈L,(aK d.kc y).hp=P→y=x:=λy hy hyp=>E5 hL (hLL▸hy) (hLL▸hxL)<|hyp.trans hxp.symm
  refine⟨x,hxL,⟨hxs,hxp⟩,¬A' x,?_,λq hq=>?_,λhoff=>?_,λhoff=>?_,λj mj hmj hcj=>?_⟩
  ·obtain⟨y,hy1,hy2⟩:=hup x hxL (by have:=E4 hL<|hLc x hxL;have:=lL<|lO hL;unfold bE at this;have h0:dep d.kc 0=0:=xC<|lO hL;omega)
   rw[hxp] at hy1
   obtain⟨v,h1,h2⟩:=hK P h.hP
   unfold mU at hy1;rw[h1] at hy1;simp only[Option.map_some,Option.getD_some] at hy1
   have hl:iq d.kk P=(v.t.toL.head?.getD default).ka:=by unfold iq;rw[h1];rfl
   cases e:v.t.toL with
   |nil=>rw[e] at hy1;cases hy1
   |cons y0 l0=>
    have hm0:=(h2.er.mem y0).1 (by rw[e];exact List.mem_cons_self ..)
    have hz0:=h.bz.z.2 P v h.hP h1 _ _ hm0
    rw[e] at hy1;unfold dc at hy1
    rw[List.find?_cons_of_pos (by rw[hz0];simp;unfold cF;split<;>omega)] at hy1
    cases hy1
    rw[pt h1,←hy2,hm0,hl,e];rfl
  ·rw[hset,if_neg,hpv2,if_neg]
   ·exact λh=>hq<|hone q ((hlm q).1 h.1).1 h.2
   ·rintro⟨h1,-,h3⟩
    cases e:aB kb' q with
    |none=>rw[e] at h3;cases h3
    |some mq=>rw[e] at h3;simp only[Option.map_some,Option.some.injEq] at h3;rw[hhp q mq e] at h3;exact hq<|hone q h1 h3
  ·rw[hset,if_neg,hpv2,if_pos ⟨(hlm x).2 ⟨hxL,hoff⟩,hxp⟩]
   rintro⟨-,h2,-⟩;exact hoff<|(hisA x<|hLc x hxL).1 h2
  ·have hoff:=Classical.not_not.1 hoff
   obtain⟨cx,hcx⟩:=vZ hL<|hLL▸hxL
   obtain⟨mx,hmx,hex,-⟩:=oe hB' hcx
   refine⟨mx,hmx,?_⟩
   rw[hset,if_pos ⟨hxL,(hisA x<|hLc x hxL).2 hoff,by rw[hmx];simp only[Option.map_some,Option.some.injEq];rw[hhp x mx hmx];exact hxp⟩,hmx];rfl
  ·obtain⟨x2,g1,g2,g3,g4⟩:=hk2 j mj hmj
   have hjx:j∈L↔j=x:=⟨λhj=>hone j hj hcj.2,λe=>e▸hxL⟩
   simp only[hjx] at g3 g4
   have hcj':=jP hiv.by_ hmj
   by_cases hoff:A' x
   ·rw[hno (λq hq hqp=>((hlm q).1 hq).2 (hone q ((hlm q).1 hq).1 hqp▸hoff)) j hcj.2]
    exact⟨x2,g1,g2,g3,by rw[g4,if_neg (c:= ¬A' x∧_) λh=>h.1 hoff]⟩
   ·rw[hat x ((hlm x).2 ⟨hxL,hoff⟩) hxp j _ hcj' (by rw[←fL hcj'];exact hcj.2),g1]
    split
    ·rename_i hall;exact⟨_,rfl,g2,g3,by rw[if_pos ⟨hoff,hall⟩];rfl⟩
    ·rename_i hall;exact⟨x2,rfl,g2,g3,by rw[if_neg λh=>hall h.2];exact g4⟩
 ·left
  have hx: ∀x∈L,(aK d.kc x).hp≠P:=λx hxL hxp=>hx ⟨x,hxL,hxp⟩
  refine⟨hx,λq=>?_,λj mj hmj hcj=>?_⟩
  ·rw[hset,if_neg,hpv2,if_neg]
   ·exact λh=>hx q ((hlm q).1 h.1).1 h.2
   ·rintro⟨h1,-,h3⟩
    cases e:aB kb' q with
    |none=>rw[e] at h3;cases h3
    |some mq=>rw[e] at h3;simp only[Option.map_some,Option.some.injEq] at h3;rw[hhp q mq e] at h3;exact hx q h1 h3
  ·obtain⟨x2,g1,g2,g3,g4⟩:=hk2 j mj hmj
   have hjL:j∉L:=λhj=>hx j hj hcj.2
   rw[if_neg hjL] at g3 g4
   rw[hno (λq hq=>hx q ((hlm q).1 hq).1) j hcj.2]
   exact⟨x2,g1,g2,by omega,g4⟩
theorem KI(h:Bz c d)(ht:oh d now z ok d'):Bz c d':=by
 obtain⟨h1,h2,h3,h4⟩:=vA h.iv ht
 have hkc:d'.kc=d.kc:=ht.1.2.2.1
 exact⟨h1,h4 h.z,by rw[hkc];exact h.eg⟩
variable{p:Pk}
theorem Fh(h:Bz c d)(ht:oH c d now ci p er d'):Bz c d':=by
 obtain⟨h1,h2,h3,h4⟩:=vU h.iv ht
 have hkc:d'.kc=d.kc:=ht.1.2.2.1
 exact⟨h1,h4 h.z,by rw[hkc];exact h.eg⟩
theorem uN(h:Fz c P lst g d)(hi:pv d.kk P i≠none):jS d.kc P i:=by
 obtain⟨A,hA,hK⟩:=h.bz.iv.ac
 obtain⟨h1,h2⟩:=(BL hK h.hP i).1 hi
 exact⟨hA.ast.sh i h1,h2⟩
theorem AK{g':Int}{m':En}(h:G7 g m)(hg:g≤g')(h1:m'.ec=m.ec)(h2:m'.tot=m.tot)(h3:m'.sh=m.sh):G7 g' m':=λhs=>by
 rw[h3] at hs⊢;rw[h1,h2]
 obtain⟨X,T,a1,a2,a3,a4,a5,a6⟩:=h hs
 exact⟨X,T,a1,a2,a3,a4,a5,by omega⟩
open Classical in
theorem Ta(h:Fz c P lst g d)(hg:g+16384≤16777216)(hn0:0≤now)(ht:oh d now z ok d')(hok:ok=true):
  Fz c P lst (g+z.gq3) d'∧nN P d d'∧(∀i,pv d'.kk P i≠none→pv d.kk P i≠none)∧Ns z.gq3 (bE d.kc z.gq1) d.kb d'.kb∧1≤z.gq3∧z.gq3≤16384:=by
 have hn:=AA (Ax h.bz.iv) ht hok
 obtain⟨hE,hLc,hloc⟩:=RJ h (by omega) hn0 ht hok
 have hkc:d'.kc=d.kc:=ht.1.2.2.1
 have hz:=KI h.bz ht
 obtain⟨-,hqk,-⟩:=vA h.bz.iv ht
 have hnl:z.gq3≤c.lm:=h.pl z.gq1 (nQ z) (by rw[hqk];simp[hok])
 have hpl: ∀i,∀p∈qk d'.kb i,p.qn≤c.lm:=λi p hp=>h.pl i p (by rw[hqk];exact List.mem_append_right _ hp)
 have htot: ∀i m,aB d'.kb i=some m→0≤m.tot∧m.tot≤g+z.gq3:=λi m hm=>by
  obtain⟨m0,h1,-,h2⟩:=hE i m hm
  have:=h.tot i m0 h1;split at h2<;>omega
 have hg0:0≤g+z.gq3:=by have:=h.g0;omega
 have hent: ∀j m',aB d'.kb j=some m'→ ∃m,aB d.kb j=some m:=λj m' hm=>by obtain⟨m,h1,-⟩:=hE j m' hm;exact⟨m,h1⟩
 rcases hloc with⟨hx,hpv,hsh⟩|⟨x,hxL,hxc,off,hlow,hpv,hoff,hnof,hsh⟩
 ·have hs: ∀j m',aB d'.kb j=some m'→jS d.kc P j→ ∃m,aB d.kb j=some m∧m'.ec=m.ec∧m'.tot=m.tot∧m'.sh=m.sh:=λj m' hm' hc=>by
   obtain⟨m,h1⟩:=hent j m' hm'
   obtain⟨m2,h2,h3⟩:=hsh j m h1 hc
   rw[hm'] at h2;cases h2;exact⟨m,h1,h3⟩
  refine⟨⟨hz,by rw[hkc];exact h.hP,by rw[hkc];exact h.nr,by rw[hkc];exact h.ls,h.l1,hg0,hpl,htot,λj m' hm' hc=>?_,λi t hi=>?_,λhall j m' hm' hc=>?_,λi t j m' hi hm' hc hs1=>?_⟩,λi m m' hm hm' hc hi hi'=>?_,λi=>by rw[hpv];exact id,hE,hn⟩
  ·rw[hkc] at hc;obtain⟨m,h1,h2,h3,h4⟩:=hs j m' hm' hc
   exact AK (h.sh j m h1 hc) (by omega) h2 h3 h4
  ·rw[hpv] at hi
   obtain⟨m,h1,h2,h3⟩:=h.ka i t hi
   obtain⟨m',h4,-,-,h5⟩:=hsh i m h1<|uN h (by rw[hi];simp)
   exact⟨m',h4,by rw[h5];exact h2,by rw[h5];exact h3⟩
  ·rw[hkc] at hc;obtain⟨m,h1,-,-,h4⟩:=hs j m' hm' hc
   rw[h4];exact h.em (λi=>by rw[←hpv];exact hall i) j m h1 hc
  ·rw[hkc] at hc;obtain⟨m,h1,-,-,h4⟩:=hs j m' hm' hc
   rw[h4] at hs1⊢;rw[hpv] at hi;exact h.fr i t j m hi h1 hc hs1
  ·obtain⟨m2,h1,-,-,h4⟩:=hs i m' hm' hc
   rw[hm] at h1;cases h1;rw[h4]
 ·obtain⟨mx,hmx,hsx,htx⟩:=h.ka x _ hlow
  obtain⟨X,T,e1,e2,e3,e4,e5,e6⟩:=h.sh x mx hmx hxc hsx
  obtain⟨l1,l2,l3,l4⟩:=AI h hmx hxc
  have hxt:=h.tot x mx hmx
  have hcn:=sG (a:=65536*(mx.tot-T)) l3<|by omega
  have htm:jN (eS mx.sh) (mx.tot+z.gq3)=X+eL (65536*(mx.tot+z.gq3-T)) mx.ec.lc:=by rw[e1];exact xH ⟨l3,l4⟩ ⟨e2,by omega⟩ ⟨e3,by omega⟩<|by omega
  have htk:jo mx.sh (mx.tot+z.gq3)={mx.sh with sq11:=X+eL (65536*(mx.tot+z.gq3-T)) mx.ec.lc}:=by unfold jo;rw[if_pos hsx,htm]
  generalize hT:X+eL (65536*(mx.tot+z.gq3-T)) mx.ec.lc=t' at*
  have hle:iq d.kk P≤t':=by
   have:=JA (a:=65536*(mx.tot-T)) (c:=65536*(mx.tot+z.gq3-T)) l3 (by omega);omega
  have hadd:=TY (a:=65536*(mx.tot-T)) (c:=65536*z.gq3) l3
  rw[show 65536*(mx.tot-T)+65536*z.gq3=65536*(mx.tot+z.gq3-T) by omega] at hadd
  have hup:t'≤iq d.kk P+eL (65536*c.lm) lst:=by
   have h1:=JA (a:=65536*z.gq3) (c:=65536*c.lm) l3<|by omega
   have h2:=TZ (a:=65536*c.lm) h.l1 l2<|by omega
   omega
  have hgt:t'≤65536*(g+z.gq3):=by
   have:=Dh (a:=65536*z.gq3) l3 (by omega);omega
  obtain⟨A,hA,hK⟩:=h.bz.iv.ac
  have hmin:=(MJ hK h.hP).1
  have hs: ∀j m',aB d'.kb j=some m'→jS d.kc P j→ ∃m,aB d.kb j=some m∧m'.ec=m.ec∧m'.tot=m.tot+(if j=x then z.gq3 else 0)∧m'.sh=if off∧ ∀q,q≠x→pv d.kk P q=none then lF else if j=x then jo m.sh (m.tot+z.gq3) else m.sh:=λj m' hm' hc=>by
   obtain⟨m,h1⟩:=hent j m' hm'
   obtain⟨m2,h2,h3⟩:=hsh j m h1 hc
   rw[hm'] at h2;cases h2;exact⟨m,h1,h3⟩
  by_cases hr:off∧ ∀q,q≠x→pv d.kk P q=none
  ·simp only[if_pos hr] at hs
   have hnone: ∀i,pv d'.kk P i=none:=λi=>by
    by_cases e:i=x
    ·rw[e];exact hoff hr.1
    ·rw[hpv i e];exact hr.2 i e
   refine⟨⟨hz,by rw[hkc];exact h.hP,by rw[hkc];exact h.nr,by rw[hkc];exact h.ls,h.l1,hg0,hpl,htot,λj m' hm' hc hs1=>?_,λi t hi=>by rw[hnone] at hi;(cases hi),λ_ j m' hm' hc=>?_,λi t j m' hi=>by rw[hnone] at hi;(cases hi)⟩,λi m m' _ _ _ _ hi'=>absurd (hnone i) hi',λi hi=>absurd (hnone i) hi,hE,hn⟩
   ·rw[hkc] at hc;obtain⟨m,-,-,-,h4⟩:=hs j m' hm' hc
    rw[h4] at hs1;cases hs1
   ·rw[hkc] at hc;obtain⟨m,-,-,-,h4⟩:=hs j m' hm' hc
    rw[h4];rfl
  ·simp only[if_neg hr] at hs
   have hs': ∀j m',aB d'.kb j=some m'→jS d.kc P j→(j=x∧m'.ec=mx.ec∧m'.tot=mx.tot+z.gq3∧m'.sh={mx.sh with sq11:=t'})∨(j≠x∧ ∃m,aB d.kb j=some m∧m'.ec=m.ec∧m'.tot=m.tot∧m'.sh=m.sh):=λj m' hm' hc=>by
    obtain⟨m,h1,h2,h3,h4⟩:=hs j m' hm' hc
    by_cases e:j=x
    ·subst e;rw[hmx] at h1;cases h1
     rw[if_pos rfl] at h3 h4;exact .inl ⟨rfl,h2,h3,h4.trans htk⟩
    ·rw[if_neg e] at h3 h4;exact .inr ⟨e,m,h1,h2,by omega,h4⟩
   refine⟨⟨hz,by rw[hkc];exact h.hP,by rw[hkc];exact h.nr,by rw[hkc];exact h.ls,h.l1,hg0,hpl,htot,λj m' hm' hc=>?_,λi t hi=>?_,λhall j m' hm' hc=>?_,λi t j m' hi hm' hc hs1=>?_⟩,λi m m' hm hm' hc hi hi'=>?_,λi hi=>?_,hE,hn⟩
   ·rw[hkc] at hc
    rcases hs' j m' hm' hc with⟨-,h2,h3,h4⟩|⟨-,m,h1,h2,h3,h4⟩
    ·intro _;rw[h2,h3,h4]
     exact⟨X,T,e1,e2,e3,by omega,hT.symm,hgt⟩
    ·exact AK (h.sh j m h1 hc) (by omega) h2 h3 h4
   ·by_cases e:i=x
    ·subst e
     have hno: ¬off:=λho=>by rw[hoff ho] at hi;cases hi
     obtain⟨m',h1,h2⟩:=hnof hno
     rw[hi] at h2;cases h2
     rcases hs' i m' h1 hxc with⟨-,-,-,h4⟩|⟨h5,-⟩
     ·exact⟨m',h1,by rw[h4];exact hsx,rfl⟩
     ·exact absurd rfl h5
    ·rw[hpv i e] at hi
     obtain⟨m,h1,h2,h3⟩:=h.ka i t hi
     have hc:=uN h (i:=i) (by rw[hi];simp)
     obtain⟨m',h4,-⟩:=hsh i m h1 hc
     rcases hs' i m' h4 hc with⟨h5,-⟩|⟨-,m2,h5,-,-,h6⟩
     ·exact absurd h5 e
     ·rw[h1] at h5;cases h5;exact⟨m',h4,by rw[h6];exact h2,by rw[h6];exact h3⟩
   ·refine absurd ⟨?_,λq hq=>by rw[←hpv q hq];exact hall q⟩ hr
    refine Classical.byContradiction λhno=>?_
    obtain⟨m',-,h2⟩:=hnof hno
    rw[hall x] at h2;cases h2
   ·rw[hkc] at hc
    have hti:iq d.kk P≤t:=by
     by_cases e:i=x
     ·subst e
      have hno: ¬off:=λho=>by rw[hoff ho] at hi;cases hi
      obtain⟨m2,h1,h2⟩:=hnof hno
      rw[hi] at h2;cases h2
      rcases hs' i m2 h1 hxc with⟨-,-,-,h4⟩|⟨h5,-⟩
      ·rw[h4];exact hle
      ·exact absurd rfl h5
     ·rw[hpv i e] at hi;exact hmin i t hi
    rcases hs' j m' hm' hc with⟨-,h2,h3,h4⟩|⟨-,m,h1,h2,h3,h4⟩
    ·rw[h4];show t'≤_;omega
    ·rw[h4] at hs1⊢;have:=h.fr x _ j m hlow h1 hc hs1;omega
   ·rcases hs' i m' hm' hc with⟨e,h2,h3,h4⟩|⟨-,m2,h1,h2,h3,h4⟩
    ·subst e;rw[hmx] at hm;cases hm;rw[h4];rfl
    ·rw[hm] at h1;cases h1;rw[h4]
   ·by_cases e:i=x
    ·rw[e,hlow];simp
    ·rw[←hpv i e];exact hi
theorem Tc(h:Fz c P lst g d)(ht:oH c d now ci p er d'):
  (∀j m',aB d'.kb j=some m'→ ∃m,aB d.kb j=some m∧m'.ec=m.ec∧m'.tot=m.tot)∧(er=0→p.qn≤c.lm)∧
  (((∀q,pv d'.kk P q=pv d.kk P q)∧ ∀j m,aB d.kb j=some m→jS d.kc P j→ ∃m',aB d'.kb j=some m'∧m'.ec=m.ec∧m'.tot=m.tot∧m'.sh=m.sh)∨
  ∃x m m',jS d.kc P x∧pv d.kk P x=none∧(∀q,q≠x→pv d'.kk P q=pv d.kk P q)∧aB d.kb x=some m∧aB d'.kb x=some m'∧pv d'.kk P x=some m'.sh.sq11∧m'.sh=jO m.sh (kK m.ec) (iq d.kk P) m.tot∧m'.ec=m.ec∧m'.tot=m.tot∧
   ∀j m,j≠x→aB d.kb j=some m→jS d.kc P j→ ∃m',aB d'.kb j=some m'∧m'.ec=m.ec∧m'.tot=m.tot∧m'.sh=m.sh):=by
 have hiv:=h.bz.iv
 obtain⟨hI',-,-,-⟩:=vU hiv ht
 obtain⟨A',hA',hK'⟩:=hI'.ac
 obtain⟨A,hA,hK⟩:=hiv.ac
 have hL:=hiv.laid
 have hB':=hI'.by_
 obtain⟨⟨hbt,hmc,hkc,ha,hnd⟩,hck,hR⟩:=ht
 obtain⟨bt',mc',kc',kb',a',on',ka',et',ek',kk',ck',ac'⟩:=d'
 dsimp only at hbt hmc hkc ha hck hR hA' hK' hB'⊢
 subst hbt hmc hkc ha hck
 have hput: ∀{m q},aB d.kb ci=some m→ ∀j,(∀m',aB (aJ d.kb ci {m with q:=q}) j=some m'→ ∃m,aB d.kb j=some m∧m'.ec=m.ec∧m'.tot=m.tot∧m'.sh=m.sh)∧ ∀x,aB d.kb j=some x→ ∃m',aB (aJ d.kb ci {m with q:=q}) j=some m'∧m'.ec=x.ec∧m'.tot=x.tot∧m'.sh=x.sh:=λ{m q}hm j=>by
  rw[ed];split
  ·rename_i e;subst e
   exact⟨λm' hm'=>by cases hm';exact⟨m,hm,rfl,rfl,rfl⟩,λx hx=>by rw[hm] at hx;cases hx;exact⟨_,rfl,rfl,rfl,rfl⟩⟩
  ·exact⟨λm' hm'=>⟨m',hm',rfl,rfl,rfl⟩,λx hx=>⟨x,hx,rfl,rfl,rfl⟩⟩
 rcases hR with⟨he,-,-,hkb,rfl,rfl,rfl,rfl,rfl,-⟩|⟨rfl,-,m,q,hO,hP,hR⟩
 ·rcases hkb with rfl|⟨m,q,e,hm,-,-,rfl⟩
  ·exact⟨λj m' hm'=>⟨m',hm',rfl,rfl⟩,λe=>absurd e he,.inl ⟨λ_=>rfl,λj m hm _=>⟨m,hm,rfl,rfl,rfl⟩⟩⟩
  ·exact⟨λj m' hm'=>by obtain⟨x,h1,h2,h3,-⟩:=(hput hm j).1 m' hm';exact⟨x,h1,h2,h3⟩,λe=>absurd e he,.inl ⟨λ_=>rfl,λj x hx _=>(hput hm j).2 x hx⟩⟩
 ·obtain⟨hm,hl,hp1,hp2,-,-⟩:=hO
  have hci:=jP hiv.by_ hm
  have hg:=fL hci
  have hid:m.ec.hi=ci:=BY hL hiv.by_ hm
  rcases hR with⟨h1,hW⟩|⟨h1,rfl,rfl,rfl,rfl,rfl,rfl⟩
  rotate_left
  ·exact⟨λj m' hm'=>by obtain⟨x,h1,h2,h3,-⟩:=(hput hm j).1 m' hm';exact⟨x,h1,h2,h3⟩,λ_=>hp2,.inl ⟨λ_=>rfl,λj x hx _=>(hput hm j).2 x hx⟩⟩
  have hq0:qk d.kb ci=[]:=by
   obtain⟨-,-,-,⟨-,-,hqq,-⟩|⟨-,h0,-⟩⟩:=hP
   ·rw[kj hm];rw[hqq] at h1;simpa using h1
   ·exact absurd h0<|by decide
  have hs:eA d.kc ci=true:=h.bz.eg ci _ hci hl
  have hn: ¬A ci:=λha=>((hiv.onk ci).1 (vT hL hA.ast ha (by rw[hg];exact hl))).2.2 hq0
  obtain⟨kb1,hD,hW⟩:=hW
  rcases hD with⟨h2,-⟩|⟨-,rfl,-,-⟩
  ·exact absurd h2 (by show¬ib m.ec=true;rw[h.nr ci _ hci];decide)
  rcases hW with⟨-,l,er,hO,hkb,hSet⟩|⟨h2,-⟩
  rotate_left
  ·change qJ m.ec=false at h2;rw[NN hg,hs] at h2;cases h2
  change rF d.a.ym d.on d.ka m.ec.hi on' ka' l er at hO
  change ku on' ka' kb' (bE d.kc m.ec.hi) d.kk kk' at hSet
  rw[hid] at hO hSet
  rw[hiv.ym] at hO
  obtain⟨A2,hA2,hAA,hon,hll⟩:=GP hL hA hO hs (by rw[hg];exact hl) hn
  have h2:=GW hL hA2 hA'
  have hLn:=Fg hL _ ci<|Nat.le_refl _
  have hln:l.Nodup:=by rw[hll];exact hLn.filter _
  have hlm: ∀q,q∈l↔q∈bE d.kc ci∧ ¬A q:=λq=>by rw[hll,List.mem_filter];simp
  have hget: ∀j,aB kb' j=if j∈l then(aB (aJ d.kb ci {m with q:=q}) j).map (ou d.kk ck') else aB (aJ d.kb ci {m with q:=q}) j:=λj=>by rw[hkb,KF j hln]
  have hhp: ∀q m,aB kb' q=some m→m.ec.hp=(aK d.kc q).hp:=λq m hm=>by rw[fL<|jP hB' hm]
  have hset:=λq=>AH (p:=P) hSet q
  have hcond: ∀q,q∈bE d.kc ci→(aK d.kc q).hp=P→ ∃mq,aB kb' q=some mq∧pv kk' P q=some mq.sh.sq11:=λq hq hqp=>by
   obtain⟨cx,hcx⟩:=vZ hL hq
   obtain⟨mx,hmx,-,-⟩:=oe hB' hcx
   refine⟨mx,hmx,?_⟩
   rw[hset,if_pos ⟨hq,(uC hA'<|o8 hL (by rw[hcx];simp)).2 ((h2 q).1 ((hAA q).2 (.inr hq))),by rw[hmx];simp only[Option.map_some,Option.some.injEq];rw[hhp q mx hmx];exact hqp⟩,hmx];rfl
  have hncond: ∀q,¬(q∈bE d.kc ci∧(aK d.kc q).hp=P)→pv kk' P q=pv d.kk P q:=λq hq=>by
   rw[hset,if_neg]
   rintro⟨g1,-,g3⟩
   cases e:aB kb' q with
   |none=>rw[e] at g3;cases g3
   |some mq=>rw[e] at g3;simp only[Option.map_some,Option.some.injEq] at g3;rw[hhp q mq e] at g3;exact hq ⟨g1,g3⟩
  have hsame: ∀j,j∉l→ ∀x,aB d.kb j=some x→ ∃m',aB kb' j=some m'∧m'.ec=x.ec∧m'.tot=x.tot∧m'.sh=x.sh:=λj hj x hx=>by
   rw[hget,if_neg hj];exact(hput hm j).2 x hx
  refine⟨λj m' hm'=>?_,λ_=>hp2,?_⟩
  ·rw[hget] at hm';split at hm'
   ·cases e:aB (aJ d.kb ci {m with q:=q}) j with
    |none=>rw[e] at hm';cases hm'
    |some y=>
     rw[e] at hm';cases hm'
     obtain⟨x,h1,h2,h3,-⟩:=(hput hm j).1 y e;exact⟨x,h1,h2,h3⟩
   ·obtain⟨x,h1,h2,h3,-⟩:=(hput hm j).1 m' hm';exact⟨x,h1,h2,h3⟩
  by_cases hx: ∃x∈l,(aK d.kc x).hp=P
  ·right
   obtain⟨x,hxl,hxp⟩:=hx
   obtain⟨hxL,hxA⟩:=(hlm x).1 hxl
   have hone: ∀y∈bE d.kc ci,(aK d.kc y).hp=P→y=x:=λy hy hyp=>E5 hL hy hxL<|hyp.trans hxp.symm
   have hxs:=hA2.ast.sh x<|(hAA x).2 (.inr hxL)
   obtain⟨cx,hcx⟩:=vZ hL hxL
   obtain⟨mx,hmx,hex,-⟩:=oe hiv.by_ hcx
   obtain⟨y,g1,g2,g3,g4⟩:=(hput (q:=q) hm x).2 mx hmx
   have hk:aB kb' x=some (ou d.kk ck' y):=by rw[hget,if_pos hxl,g1];rfl
   obtain⟨mq,k1,k2⟩:=hcond x hxL hxp
   rw[hk] at k1;cases k1
   have hyp:y.ec.hp=P:=by rw[g2,hex];rw[fL hcx] at hxp;exact hxp
   refine⟨x,mx,_,⟨hxs,hxp⟩,?_,λq hq=>hncond q λg=>hq<|hone q g.1 g.2,hmx,hk,k2,?_,g2,g3,λj x2 hj hx2 hcj=>hsame j (λg=>hj<|hone j ((hlm j).1 g).1 hcj.2) x2 hx2⟩
   ·exact Classical.byContradiction λg=>hxA ((BL hK h.hP x).1 g).1
   ·show jO y.sh (kK y.ec) (iq d.kk y.ec.hp) y.tot=_
    rw[g2,g3,g4,←g2,hyp,g2]
  ·left
   have hx: ∀x∈l,(aK d.kc x).hp≠P:=λx hxl hxp=>hx ⟨x,hxl,hxp⟩
   refine⟨λq=>?_,λj x2 hx2 hcj=>hsame j (λg=>hx j g hcj.2) x2 hx2⟩
   by_cases g:q∈bE d.kc ci∧(aK d.kc q).hp=P
   ·have hqA:A q:=Classical.byContradiction λe=>hx q ((hlm q).2 ⟨g.1,e⟩) g.2
    have hne:=(BL hK h.hP q).2 ⟨hqA,g.2⟩
    cases e:pv d.kk P q with
    |none=>exact absurd e hne
    |some t=>
     obtain⟨m0,h5,h6,h7⟩:=h.ka q t e
     obtain⟨m',h8,-,-,h9⟩:=hsame q (λe=>hx q e g.2) m0 h5
     obtain⟨mq,k1,k2⟩:=hcond q g.1 g.2
     rw[h8] at k1;cases k1
     rw[k2,h9,h7]
   ·exact hncond q g
theorem W9(h:Fz c P lst g d)(hg:g≤16777216)(ht:oH c d now ci p er d'):
  Fz c P lst g d'∧nN P d d'∧(∀j m',aB d'.kb j=some m'→ ∃m,aB d.kb j=some m∧m'.ec=m.ec∧m'.tot=m.tot):=by
 obtain⟨hE,hpn,hloc⟩:=Tc h ht
 have hkc:d'.kc=d.kc:=ht.1.2.2.1
 have hz:=Fh h.bz ht
 obtain⟨-,hqk,-⟩:=vU h.bz.iv ht
 have hpl: ∀i,∀p∈qk d'.kb i,p.qn≤c.lm:=λi p2 hp=>by
  rw[hqk,List.mem_append] at hp
  rcases hp with hp|hp
  ·exact h.pl i p2 hp
  ·split at hp
   ·rename_i e;rw[List.mem_singleton] at hp;subst hp;exact hpn e.1
   ·cases hp
 have htot: ∀i m,aB d'.kb i=some m→0≤m.tot∧m.tot≤g:=λi m hm=>by
  obtain⟨m0,h1,-,h2⟩:=hE i m hm
  rw[h2];exact h.tot i m0 h1
 have hent: ∀j m',aB d'.kb j=some m'→ ∃m,aB d.kb j=some m:=λj m' hm=>by obtain⟨m,h1,-⟩:=hE j m' hm;exact⟨m,h1⟩
 rcases hloc with⟨hpv,hsh⟩|⟨x,mx,mx',hxc,hxn,hpv,hmx,hmx',hpx,hsx,hex,htx,hsh⟩
 ·have hs: ∀j m',aB d'.kb j=some m'→jS d.kc P j→ ∃m,aB d.kb j=some m∧m'.ec=m.ec∧m'.tot=m.tot∧m'.sh=m.sh:=λj m' hm' hc=>by
   obtain⟨m,h1⟩:=hent j m' hm'
   obtain⟨m2,h2,h3⟩:=hsh j m h1 hc
   rw[hm'] at h2;cases h2;exact⟨m,h1,h3⟩
  refine⟨⟨hz,by rw[hkc];exact h.hP,by rw[hkc];exact h.nr,by rw[hkc];exact h.ls,h.l1,h.g0,hpl,htot,λj m' hm' hc=>?_,λi t hi=>?_,λhall j m' hm' hc=>?_,λi t j m' hi hm' hc hs1=>?_⟩,λi m m' hm hm' hc hi hi'=>?_,hE⟩
  ·rw[hkc] at hc;obtain⟨m,h1,h2,h3,h4⟩:=hs j m' hm' hc
   exact AK (h.sh j m h1 hc) (Int.le_refl _) h2 h3 h4
  ·rw[hpv] at hi
   obtain⟨m,h1,h2,h3⟩:=h.ka i t hi
   obtain⟨m',h4,-,-,h5⟩:=hsh i m h1<|uN h (by rw[hi];simp)
   exact⟨m',h4,by rw[h5];exact h2,by rw[h5];exact h3⟩
  ·rw[hkc] at hc;obtain⟨m,h1,-,-,h4⟩:=hs j m' hm' hc
   rw[h4];exact h.em (λi=>by rw[←hpv];exact hall i) j m h1 hc
  ·rw[hkc] at hc;obtain⟨m,h1,-,-,h4⟩:=hs j m' hm' hc
   rw[h4] at hs1⊢;rw[hpv] at hi;exact h.fr i t j m hi h1 hc hs1
  ·obtain⟨m2,h1,-,-,h4⟩:=hs i m' hm' hc
   rw[hm] at h1;cases h1;rw[h4]
 ·obtain⟨A,hA,hK⟩:=h.bz.iv.ac
  obtain⟨lo1,lo2,lo3⟩:=MJ hK h.hP
  obtain⟨l1,l2,l3,l4⟩:=AI h hmx hxc
  have hxt:=h.tot x mx hmx
  have hg0:=h.g0
  have hlm:=h.bz.iv.lm1
  have hB0:=sG (a:=65536*c.lm) h.l1<|by omega
  have hown:=h.sh x mx hmx hxc
  have hlow:0≤iq d.kk P∧iq d.kk P≤65536*g:=by
   by_cases e: ∃q,pv d.kk P q≠none
   ·obtain⟨q,hq⟩:=lo2 e
    obtain⟨m,h1,h2,h3⟩:=h.ka q _ hq
    have hc:=uN h (i:=q) (by rw[hq];simp)
    obtain⟨X,T,e1,e2,e3,e4,e5,e6⟩:=h.sh q m h1 hc h2
    obtain⟨-,-,l3,-⟩:=AI h h1 hc
    have:=sG (a:=65536*(m.tot-T)) l3<|by omega
    omega
   ·rw[lo3 λq=>Classical.byContradiction λhq=>e ⟨q,hq⟩];omega
  obtain⟨X0,T0,hX0⟩: ∃X T,mx.sh.sq1=true→eS mx.sh=kG mx.ec.lc X T∧0≤X∧0≤T∧T≤mx.tot∧mx.sh.sq11=X+eL (65536*(mx.tot-T)) mx.ec.lc∧mx.sh.sq11≤65536*g:=by
   by_cases e:mx.sh.sq1=true
   ·obtain⟨X,T,e1⟩:=hown e;exact⟨X,T,λ_=>e1⟩
   ·exact⟨0,0,λe2=>absurd e2 e⟩
  obtain⟨X,T,w1,w2,w3,w4,w5,w6⟩:=RH (X:=X0) (T:=T0) (s:=mx.sh) (low:=iq d.kk P) ⟨l3,l4⟩ l1 rfl ⟨hlow.1,by omega⟩ ⟨hxt.1,by omega⟩ (λe=>by
   obtain⟨e1,e2,e3,e4,e5,e6⟩:=hX0 e
   have:=sG (a:=65536*(mx.tot-T0)) l3<|by omega
   exact⟨e1,⟨e2,by omega⟩,e3,e4⟩)
  rw[w1] at hsx
  have hs1:mx'.sh.sq1=true:=by rw[hsx];rfl
  have hs11:mx'.sh.sq11=X+eL (65536*(mx.tot-T)) mx.ec.lc:=by rw[hsx];rfl
  have hsr:eS mx'.sh=kG mx.ec.lc X T:=by rw[hsx];rfl
  have hge:iq d.kk P≤mx'.sh.sq11:=by rw[hs11,w6];split<;>first|omega|(unfold bV;split<;>omega)
  have hle:mx'.sh.sq11≤65536*g:=by
   rw[hs11,w6];split
   ·rename_i e;obtain⟨-,-,-,-,e5,e6⟩:=hX0 e;unfold bV;split<;>omega
   ·exact hlow.2
  have hs': ∀j m',aB d'.kb j=some m'→jS d.kc P j→(j=x∧m'=mx')∨(j≠x∧ ∃m,aB d.kb j=some m∧m'.ec=m.ec∧m'.tot=m.tot∧m'.sh=m.sh):=λj m' hm' hc=>by
   by_cases e:j=x
   ·subst e;rw[hmx'] at hm';cases hm';exact .inl ⟨rfl,rfl⟩
   ·obtain⟨m,h1⟩:=hent j m' hm'
    obtain⟨m2,h2,h3⟩:=hsh j m e h1 hc
    rw[hm'] at h2;cases h2;exact .inr ⟨e,m,h1,h3⟩
  refine⟨⟨hz,by rw[hkc];exact h.hP,by rw[hkc];exact h.nr,by rw[hkc];exact h.ls,h.l1,h.g0,hpl,htot,λj m' hm' hc=>?_,λi t hi=>?_,λhall=>?_,λi t j m' hi hm' hc hs2=>?_⟩,λi m m' hm hm' hc hi hi'=>?_,hE⟩
  ·rw[hkc] at hc
   rcases hs' j m' hm' hc with⟨rfl,rfl⟩|⟨-,m,h1,h2,h3,h4⟩
   ·intro _;rw[hex,htx];exact⟨X,T,hsr,w2,w4,w5,hs11,hle⟩
   ·exact AK (h.sh j m h1 hc) (Int.le_refl _) h2 h3 h4
  ·by_cases e:i=x
   ·subst e;rw[hpx] at hi;cases hi;exact⟨mx',hmx',hs1,rfl⟩
   ·rw[hpv i e] at hi
    obtain⟨m,h1,h2,h3⟩:=h.ka i t hi
    obtain⟨m',h4,-,-,h5⟩:=hsh i m e h1<|uN h (by rw[hi];simp)
    exact⟨m',h4,by rw[h5];exact h2,by rw[h5];exact h3⟩
  ·rw[hall x] at hpx;cases hpx
  ·rw[hkc] at hc
   have hti:iq d.kk P≤t:=by
    by_cases e:i=x
    ·subst e;rw[hpx] at hi;cases hi;exact hge
    ·rw[hpv i e] at hi;exact lo1 i t hi
   by_cases e: ∃q,pv d.kk P q≠none
   ·obtain⟨q,hq⟩:=lo2 e
    rcases hs' j m' hm' hc with⟨rfl,rfl⟩|⟨-,m,h1,h2,h3,h4⟩
    ·rw[hs11,w6];split
     ·rename_i e2
      have:=h.fr q _ j mx hq hmx hxc e2
      obtain⟨-,-,-,-,e5,e6⟩:=hX0 e2
      unfold bV;split<;>omega
     ·omega
    ·rw[h4] at hs2⊢;have:=h.fr q _ j m hq h1 hc hs2;omega
   ·have hno: ∀q,pv d.kk P q=none:=λq=>Classical.byContradiction λhq=>e ⟨q,hq⟩
    rcases hs' j m' hm' hc with⟨rfl,rfl⟩|⟨-,m,h1,h2,h3,h4⟩
    ·have hi2:i=j:=Classical.byContradiction λe2=>by rw[hpv i e2,hno] at hi;cases hi
     subst hi2;rw[hpx] at hi;cases hi;omega
    ·rw[h4,h.em hno j m h1 hc] at hs2;cases hs2
  ·have e:i≠x:=λe=>hi (by rw[e];exact hxn)
   rcases hs' i m' hm' hc with⟨e2,-⟩|⟨-,m2,h1,-,-,h4⟩
   ·exact absurd e2 e
   ·rw[hm] at h1;cases h1;rw[h4]
end Go.Proofs.YtobgjpigngoggaaGreat
