/- The functions of the scheduler, layer by layer, proved operation by operation for all arguments, under the conditions that each theorem states: part 4. -/
import Derived.Test.YtobgjpigngoggaaGreatProg
import Derived.Lib.SliceRun
import Derived.Test.YtobgjpigngoggaaGreatJ3
set_option linter.unusedVariables false
set_option linter.unusedSimpArgs false
set_option maxHeartbeats 4000000
set_option maxRecDepth 100000
namespace Go.Proofs.YtobgjpigngoggaaGreat
open Go V
structure Vt where
 be:Nat
 bt:Nat
 mb:Nat
 t:T
 kv:List (Int×It)
def eO(ty:TypeId)(v:Vt):List V.aI:=[aA v.be [p_ v.bt,.map<|some v.mb] ty,aA v.bt [.pointer<|T.ptr v.t] 251,bA 361 v.t,bH (λk:Int=>i_ k) (λy:It=>(.agg #[u_ y.ka,i_ y.ki,u_ y.va,i_ y.vi])) v.mb v.kv]
abbrev Nl(b:Nat)(kk:hV Vt):V.aI:=bH (λk:Int=>i_ k) (λv:Vt=>p_ v.be) b kk
def eH(b:Nat)(kk:List (Int×Vt)):V.aI:=co [Nl b kk,df (eO 192) kk]
def fH(v:Vt)(t:T)(kv:List (Int×It)):V.aI:=co<|eO 190 {v with t:=t,kv:=kv}
variable{b:Nat}{kk:hV Vt}{w:World}
theorem qX(h:(eH b kk).holds w):(Nl b kk).holds w:=h _<|by simp
variable{i:Int}{v:Vt}
theorem BW(h:(eH b kk).holds w)(hm:aB kk i=some v): ∀it∈eO 192 v,it.holds w:=xY (h (df (eO 192) kk)<|by simp) hm
theorem NB(b:Nat)(kk:hV Vt)(i:Int)(v:Vt)(hm:aB kk i=some v)(ho:dX v.t v.kv)(w:World)(r:(eH b kk).holds w):Calls Tryz.prog 164 #[p_ v.be] w λe w'=>e= .returned (u_<|im v.t.toL)∧Fr [] w w':=
 have h:=BW r hm
 VR v.be v.bt v.mb v.t v.kv ho w (h _<|by simp[eO]) (h _<|by simp[eO]) (h _<|by simp[eO]) (h _<|by simp[eO])
theorem NC(b:Nat)(kk:hV Vt)(i:Int)(v:Vt)(hm:aB kk i=some v)(ho:dX v.t v.kv)(w:World)(r:(eH b kk).holds w):Calls Tryz.prog 148 #[p_ v.be] w λe w'=>e= .returned (.tuple #[u_<|(v.t.toL.head?.getD default).ka,b_<|v.t.toL.head?.isSome])∧Fr [] w w':=
 have h:=BW r hm
 VS v.be v.bt v.mb v.t v.kv ho w (h _<|by simp[eO]) (h _<|by simp[eO]) (h _<|by simp[eO]) (h _<|by simp[eO])
theorem XY(b:Nat)(kk:hV Vt)(i:Int)(v:Vt)(hm:aB kk i=some v)(w:World)(r:(eH b kk).holds w):Calls Tryz.prog 218 #[p_ v.be] w λe w'=>e= .returned (i_ (v.kv.length:Int))∧Fr [] w w':=
 have h:=BW r hm
 Kw v.be v.bt v.mb v.t v.kv w (h _<|by simp[eO]) (h _<|by simp[eO]) (h _<|by simp[eO]) (h _<|by simp[eO])
theorem V6(b:Nat)(kk:hV Vt)(i:Int)(v:Vt)(n:Int)(hm:aB kk i=some v)(ho:dX v.t v.kv)(w:World)(r:(eH b kk).holds w):Calls Tryz.prog 210 #[p_ v.be,u_ n] w λe w'=>e= .returned (.tuple #[i_<|((dc (cF n 9223372036854775807) v.t.toL).getD default).ki,b_<|(dc (cF n 9223372036854775807) v.t.toL).isSome])∧Fr [] w w':=
 have h:=BW r hm
 SY v.be v.bt v.mb v.t v.kv n ho w (h _<|by simp[eO]) (h _<|by simp[eO]) (h _<|by simp[eO]) (h _<|by simp[eO])
variable{β:Type}
theorem ID{f:β→List V.aI}{ek:Int→Value}{ev:β→Value}{kv:List (Int×β)}{m:β}(hm:aB kv i=some m)(hs:HS w (aN [co [bH ek ev b kv,df f kv]]) [co [bH ek ev b kv,df f kv]] w):HS w (aN<|f m) (f m) w:=by
 have h:=(HS.coS hs).all (df f kv) (by simp)
 refine HS.start w _ (xY h hm) ?_
 have hn:=(HS.coS hs).nodup
 rw[show[bH ek ev b kv,df f kv]=[bH ek ev b kv]++[df f kv] from rfl,lW] at hn
 have hn:=(List.nodup_append.1 hn).2.1
 rw[show aN [df f kv]=lq f kv by simp[aN,df]] at hn
 have:=((sJ hm).flatMap_right (λp:Int×β=>aN<|f p.2)).nodup_iff.1 hn
 simp only[List.flatMap_cons] at this
 exact(List.nodup_append.1 this).1
variable{w':World}
theorem EN{v':Vt}(hm:aB kk i=some v)(hb:v'.be=v.be)(hs:HS w (aN [eH b kk]) [eH b kk] w)(h:Turn (eO 192 v) (eO 192 v') w w'):Turn [eH b kk] [eH b<|aJ kk i v'] w w':=
 Turn.bag (f:=eO 192) (R:=[]) hs hm (by simp) (by simp) (by rw[hb]) λ_=>h
theorem X1(b:Nat)(kk:hV Vt)(i:Int)(v:Vt)(c x y:Int)(hm:aB kk i=some v)(ho:dX v.t v.kv)(hl:v.kv.length≤700)(w:World)(hs:HS w (aN [eH b kk]) [eH b kk] w):Calls Tryz.prog 207 #[p_ v.be,i_ c,u_ x,u_ y] w λe w'=> ∃zz:T,e= .returned (i_ 0)∧dX zz (aJ v.kv c ⟨x,c,y,c⟩)∧Turn [eH b kk] [eH b<|aJ kk i {v with t:=zz,kv:=aJ v.kv c ⟨x,c,y,c⟩}] w w':=by
 refine(VQ v.be v.bt v.mb v.t v.kv c x y ho hl w<|ID (f:=eO 192) (m:=v) hm hs).mono ?_
 rintro e w' ⟨zt,h1,h2,h3⟩
 exact⟨zt,h1,h2,EN hm rfl hs h3⟩
theorem V7(b:Nat)(kk:hV Vt)(i:Int)(v:Vt)(c:Int)(hm:aB kk i=some v)(ho:dX v.t v.kv)(hl:v.kv.length≤700)(w:World)(hs:HS w (aN [eH b kk]) [eH b kk] w):Calls Tryz.prog 217 #[p_ v.be,i_ c] w λe w'=> ∃zz:Int×T,e= .returned (i_ zz.1)∧dX zz.2 (aW v.kv c)∧Turn [eH b kk] [eH b<|aJ kk i {v with t:=zz.2,kv:=aW v.kv c}] w w':=by
 have hf:=ID (f:=eO 192) (m:=v) hm hs
 by_cases hd:aB v.kv c=none
 ·refine(O4 v.be v.bt v.mb v.t v.kv c hd w (hf.all _<|by simp[eO]) (hf.all _<|by simp[eO]) (hf.all _<|by simp[eO])<|hf.all _<|by simp[eO]).mono ?_
  rintro e w' ⟨rfl,h2⟩
  refine⟨(6,v.t),rfl,by rw[vh hd];exact ho,EN (v':={v with t:=v.t,kv:=aW v.kv c}) hm rfl hs ?_⟩
  have:({v with t:=v.t,kv:=aW v.kv c}:Vt)=v:=by rw[vh hd]
  rw[this];exact Turn.of (hf.kept h2)<|.refl _
 ·refine(Ox v.be v.bt v.mb v.t v.kv c ho hd hl w hf).mono ?_
  rintro e w' ⟨zt,h1,h2,h3⟩
  exact⟨(0,zt),h1,h2,EN hm rfl hs h3⟩
def rE(v:Vt):V.aI:=co<|eO 192 v
theorem xt(w:World)(hs:HS w (aN []) [] w):Calls Tryz.prog 61 #[] w λe w'=> ∃zz:Vt,e= .returned (p_ zz.be)∧(zz.kv=[]∧zz.t=T.nil)∧Turn [] [rE zz] w w':=by
 refine(VN w hs).mono ?_
 rintro e w' ⟨⟨be,bt,mb⟩,h1,-,h3⟩
 exact⟨⟨be,bt,mb,T.nil,[]⟩,h1,⟨rfl,rfl⟩,Turn.coR (Y:=[]) (by rw[List.append_nil];exact h3)⟩
theorem BX(w:World)(hs:HS w (aN []) [] w):Calls Tryz.prog 60 #[] w λe w'=> ∃zz:Vt,e= .returned (p_ zz.be)∧True∧Turn [] [fH zz T.nil []] w w':=by
 refine(VM w hs).mono ?_
 rintro e w' ⟨⟨be,bt,mb⟩,h1,-,h3⟩
 exact⟨⟨be,bt,mb,T.nil,[]⟩,h1,trivial,Turn.coR (Y:=[]) (by rw[List.append_nil];exact h3)⟩
theorem GL(v:Vt)(t:T)(kv:hV It)(c x y:Int)(ho:dX t kv)(hl:kv.length≤700)(w:World)(hs:HS w (aN [fH v t kv]) [fH v t kv] w):Calls Tryz.prog 147 #[p_ v.be,i_ c,u_ x,u_ y] w λe w'=> ∃zz:T,e= .returned (i_ 0)∧dX zz (aJ (aW kv c) c ⟨x,c,y,c⟩)∧Turn [fH v t kv] [fH v zz<|aJ (aW kv c) c ⟨x,c,y,c⟩] w w':=by
 refine(VP v.be v.bt v.mb t kv c x y ho hl w<|HS.coS hs).mono ?_
 rintro e w' ⟨zt,h1,h2,h3⟩
 exact⟨zt,h1,h2,Turn.coS h3⟩
theorem LM(v:Vt)(t:T)(kv:hV It)(c:Int)(ho:dX t kv)(hl:kv.length≤700)(w:World)(hs:HS w (aN [fH v t kv]) [fH v t kv] w):Calls Tryz.prog 202 #[p_ v.be,i_ c] w λe w'=> ∃zz:Int×T,e= .returned (i_ zz.1)∧dX zz.2 (aW kv c)∧Turn [fH v t kv] [fH v zz.2<|aW kv c] w w':=by
 have hf:=HS.coS hs
 by_cases hd:aB kv c=none
 ·refine(Gz v.be v.bt v.mb t kv c hd w (hf.all _<|by simp[eO]) (hf.all _<|by simp[eO]) (hf.all _<|by simp[eO])<|hf.all _<|by simp[eO]).mono ?_
  rintro e w' ⟨rfl,h2⟩
  refine⟨(6,t),rfl,by rw[vh hd];exact ho,?_⟩
  rw[vh hd];exact Turn.of (hs.kept h2)<|.refl _
 ·refine(H6 v.be v.bt v.mb t kv c ho hd hl w hf).mono ?_
  rintro e w' ⟨zt,h1,h2,h3⟩
  exact⟨(0,zt),h1,h2,Turn.coS h3⟩
theorem V8(v:Vt)(t:T)(kv:hV It)(n:Int)(ho:dX t kv)(w:World)(r:(fH v t kv).holds w):Calls Tryz.prog 209 #[p_ v.be,u_ n] w λe w'=>e= .returned (.tuple #[i_<|((eC (cF n 9223372036854775807) t.toL).getD default).ki,b_<|(eC (cF n 9223372036854775807) t.toL).isSome])∧Fr [] w w':=
 SX v.be v.bt v.mb t kv n ho w (r _<|by simp[eO]) (r _<|by simp[eO]) (r _<|by simp[eO]) (r _<|by simp[eO])
theorem V9(v:Vt)(t:T)(kv:hV It)(ho:dX t kv)(w:World)(r:(fH v t kv).holds w):Calls Tryz.prog 163 #[p_ v.be] w λe w'=>e= .returned (u_<|od t.toL)∧Fr [] w w':=
 SZ v.be v.bt v.mb t kv ho w (r _<|by simp[eO]) (r _<|by simp[eO]) (r _<|by simp[eO]) (r _<|by simp[eO])
structure Ac where
 bs:Nat
 mb:Nat
 mo:Nat
 ml:Nat
 ym:List (Int×Pl)
 deriving Inhabited
def jG(a:Ac)(on:List (Int×Int))(kv:List (Int×MB)):List V.aI:=[aA a.bs [.map<|some a.mb,.map<|some a.mo,.map<|some a.ml] 197,iY a.mb a.ym,fq a.mo on,hJ a.ml kv,ee kv]
def eX(a:Ac)(on:List (Int×Int))(kv:List (Int×MB)):V.aI:=co<|jG a on kv
theorem N9(a:Ac)(on:hV Int)(kv:hV MB)(c:Int)(w:World)(r:(eX a on kv).holds w):Calls Tryz.prog 109 #[p_ a.bs,i_ c] w λe w'=>e= .returned (b_<|fA on kv c)∧Fr [] w w':=
 xo a.bs a.mb a.mo a.ml a.ym on kv c w (r _<|by simp[jG]) (r _<|by simp[jG]) (r _<|by simp[jG]) (r _<|by simp[jG]) (r _<|by simp[jG])
def rF(ym:List (Int×Pl))(on:List (Int×Int))(kv:List (Int×MB))(c:Int)(on':List (Int×Int))(kv':List (Int×MB))(l:List Int)(e:Int):Prop:=
 (jT ym c=true∧fA on kv c=false∧e=0∧l=(fD ym (kx kv) 40 c).1∧on'=aJ on c (bU ym c)∧kx kv'=(fD ym (kx kv) 40 c).2)∨((jT ym c=false∨fA on kv c=true)∧e≠0∧l=[]∧on'=on∧kv'=kv)
def vr(ym:List (Int×Pl))(on:List (Int×Int))(kv:List (Int×MB))(c:Int)(on':List (Int×Int))(kv':List (Int×MB))(l:List Int)(e:Int):Prop:=
 (jT ym c=true∧fA on kv c=true∧e=0∧l=(fV ym (kx kv) 40 c).1∧on'=aW on c∧kx kv'=(fV ym (kx kv) 40 c).2)∨((jT ym c=false∨fA on kv c=false)∧e≠0∧l=[]∧on'=on∧kv'=kv)
variable{on:hV Int}
theorem DL{a:Ac}{kv:hV MB}(hs:HS w (aN [eX a on kv]) [eX a on kv] w)(h:Fr [] w w'):Turn [eX a on kv] [eX a on kv,sI none [] 0] w w':=
 Turn.of ((hs.kept h).add (Fr.refl _ _) (it:=sI none [] 0) (AM 3 1 w') List.nodup_nil (by intro b hb;cases hb)) (.refl _)
theorem G4(a:Ac)(on:hV Int)(kv:hV MB)(c:Int)(hd:jR a.ym 40 c)(w:World)(hs:HS w (aN [eX a on kv]) [eX a on kv] w):Calls Tryz.prog 74 #[p_ a.bs,i_ c] w λe w'=> ∃zz:hV Int×hV MB×k0×Wx×Nat×Int,e= .returned (.tuple #[vS zz.2.2.1 zz.2.2.2.1 zz.2.2.2.2.1,i_ zz.2.2.2.2.2])∧rF a.ym on kv c zz.1 zz.2.1 zz.2.2.2.1 zz.2.2.2.2.2∧Turn [eX a on kv] [eX a zz.1 zz.2.1,sI zz.2.2.1 zz.2.2.2.1 zz.2.2.2.2.1] w w':=by
 have hf:=HS.coS hs
 have r: ∀it∈jG a on kv,it.holds w:=hf.all
 by_cases hl:jT a.ym c=true
 ·by_cases hi:fA on kv c=true
  ·refine(Sv a.bs a.mb a.mo a.ml a.ym on kv c hl hi w (r _<|by simp[jG]) (r _<|by simp[jG]) (r _<|by simp[jG]) (r _<|by simp[jG])<|r _<|by simp[jG]).mono ?_
   rintro e w' ⟨rfl,h2⟩
   exact⟨(on,kv,none,[],0,8),rfl,.inr ⟨.inr hi,by simp,rfl,rfl,rfl⟩,DL hs h2⟩
  ·have hi:fA on kv c=false:=by simpa using hi
   refine(XX a.bs a.mb a.mo a.ml a.ym on kv c hl hi hd w hf).mono ?_
   rintro e w' ⟨⟨kv',al,cl⟩,h1,h2,h3⟩
   exact⟨(_,kv',al,_,cl,0),h1,.inl ⟨hl,hi,rfl,rfl,rfl,h2⟩,Turn.coI (X:=[]) (by rw[List.append_nil];exact h3)⟩
 ·have hl:jT a.ym c=false:=by simpa using hl
  refine(Su a.bs a.mb a.mo a.ml a.ym on kv c hl w (r _<|by simp[jG]) (r _<|by simp[jG]) (r _<|by simp[jG]) (r _<|by simp[jG])<|r _<|by simp[jG]).mono ?_
  rintro e w' ⟨rfl,h2⟩
  exact⟨(on,kv,none,[],0,6),rfl,.inr ⟨.inl hl,by simp,rfl,rfl,rfl⟩,DL hs h2⟩
theorem X2(a:Ac)(on:hV Int)(kv:hV MB)(c:Int)(hd:jR a.ym 40 c)(w:World)(hs:HS w (aN [eX a on kv]) [eX a on kv] w):Calls Tryz.prog 216 #[p_ a.bs,i_ c] w λe w'=> ∃zz:hV Int×hV MB×k0×Wx×Nat×Int,e= .returned (.tuple #[vS zz.2.2.1 zz.2.2.2.1 zz.2.2.2.2.1,i_ zz.2.2.2.2.2])∧vr a.ym on kv c zz.1 zz.2.1 zz.2.2.2.1 zz.2.2.2.2.2∧Turn [eX a on kv] [eX a zz.1 zz.2.1,sI zz.2.2.1 zz.2.2.2.1 zz.2.2.2.2.1] w w':=by
 have hf:=HS.coS hs
 have r: ∀it∈jG a on kv,it.holds w:=hf.all
 by_cases hl:jT a.ym c=false∨fA on kv c=false
 ·refine(QZ a.bs a.mb a.mo a.ml a.ym on kv c hl w (r _<|by simp[jG]) (r _<|by simp[jG]) (r _<|by simp[jG]) (r _<|by simp[jG])<|r _<|by simp[jG]).mono ?_
  rintro e w' ⟨rfl,h2⟩
  exact⟨(on,kv,none,[],0,6),rfl,.inr ⟨hl,by simp,rfl,rfl,rfl⟩,DL hs h2⟩
 ·have h1:jT a.ym c=true:=by cases h:jT a.ym c<;>simp_all
  have h2:fA on kv c=true:=by cases h:fA on kv c<;>simp_all
  refine(VA a.bs a.mb a.mo a.ml a.ym on kv c h1 h2 hd w hf).mono ?_
  rintro e w' ⟨⟨kv',al,cl⟩,e1,e2,h3⟩
  exact⟨(_,kv',al,_,cl,0),e1,.inl ⟨h1,h2,rfl,rfl,rfl,e2⟩,Turn.coI (X:=[]) (by rw[List.append_nil];exact h3)⟩
theorem ND(bt mc:Nat)(kc:hV Cl)(hl:kc.length≤1000)(w:World)(r0:(aA bt [.map<|some mc] 185).holds w)(r1:(cN mc kc).holds w)(hs:HS w (aN []) [] w):Calls Tryz.prog 62 #[p_ bt] w λe w'=> ∃zz:Ac,e= .returned (p_ zz.bs)∧zz.ym=eu kc∧Turn [] [eX zz [] []] w w':=by
 refine(Sz bt mc kc hl w r0 r1 hs).mono ?_
 rintro e w' ⟨⟨bs,mb,mo,mk⟩,h1,-,h3⟩
 exact⟨⟨bs,mb,mo,mk,eu kc⟩,h1,rfl,Turn.coR (Y:=[]) (by rw[List.append_nil];exact h3)⟩
variable{kv:hV Cl}
theorem kR(h:eA kv i=true): ∃c,aB kv i=some c∧aK kv i=c:=by
 cases e:aB kv i with
 |some c=>exact⟨c,rfl,fL e⟩
 |none=>exfalso;unfold eA at h;rw[Ew e] at h;revert h;decide
theorem Jc(kv:hV Cl): ∀(l:Wx)(m:hV Pl)(i:Int),aB (l.foldl (qF kv) m) i=if i∈l∧eA kv i=true then some ⟨(aK kv i).hp,if(aK kv i).hl=true then 1 else 0⟩ else aB m i
 |[],m,i=>by simp
 |x::l,m,i=>by
  rw[List.foldl_cons,Jc kv l]
  by_cases hs:eA kv i=true
  ·by_cases hl:i∈l
   ·simp[hl,hs]
   ·rw[if_neg<|λh=>hl h.1]
    by_cases e:i=x
    ·subst e;rw[if_pos (c:=i∈i::l∧eA kv i=true) ⟨by simp,hs⟩];unfold qF;rw[if_pos hs,ed,if_pos rfl]
    ·rw[if_neg (λh=>by rcases List.mem_cons.1 h.1 with h|h;exact e h;exact hl h)]
     unfold qF;split
     ·rw[ed,if_neg<|λh=>e h.symm]
     ·rfl
  ·rw[if_neg<|λh=>hs h.2,if_neg<|λh=>hs h.2]
   unfold qF;split
   ·rename_i hx;rw[ed,if_neg<|λh=>hs (by rw[←h];exact hx)]
   ·rfl
theorem Il(i:Int):aB (eu kv) i=if eA kv i=true then some ⟨(aK kv i).hp,if(aK kv i).hl=true then 1 else 0⟩ else none:=by
 unfold eu;rw[Jc]
 by_cases hs:eA kv i=true
 ·obtain⟨c,h1,_⟩:=kR hs
  rw[if_pos hs,if_pos ⟨tM h1 rfl,hs⟩]
 ·rw[if_neg hs,if_neg<|λh=>hs h.2];rfl
theorem xB(i:Int):bU (eu kv) i=if eA kv i=true then(aK kv i).hp else 0:=by
 unfold bU;rw[Il];split<;>rfl
theorem xQ(i:Int):jT (eu kv) i=(eA kv i&&(aK kv i).hl):=by
 unfold jT;rw[Il];by_cases h:eA kv i=true
 ·rw[if_pos h,h];cases hh:(aK kv i).hl<;>simp
 ·rw[if_neg h];simp[ak,h]
theorem Jd: ∀(n:Nat)(i:Int),fC kv n i<n→jR (eu kv) n i
 |0,_,h=>by omega
 |n+1,i,h=>by
  unfold jR;rw[xB]
  by_cases hs:eA kv i=true
  ·obtain⟨c,h1,h2⟩:=kR hs
   rw[if_pos hs];right
   unfold fC at h;rw[h1] at h;simp at h
   exact Jd n _ h
  ·rw[if_neg hs];exact .inl rfl
variable{ym:hV Pl}
theorem Je: ∀(n:Nat)(i:Int),jR ym n i→jR ym (n+1) i
 |0,_,h=>h.elim
 |n+1,i,h=>by
  rcases h with h|h
  ·exact .inl h
  ·exact .inr<|Je n _ h
theorem Im: ∀(m n:Nat),jR ym n i→jR ym (n+m) i
 |0,_,h=>h
 |m+1,n,h=>Je _ _<|Im m n h
theorem we(hL:cB kv)(i:Int):jR (eu kv) 40 i:=
 Im 23 17 (Jd 17 i (by have:=hL.dep i;unfold dep at this;omega))
def bE(kv:List (Int×Cl))(i:Int):List Int:=fb kv i<|dep kv i
variable{c:Cl}
theorem iM(hL:cB kv)(h:aB kv i=some c):dep kv i=dep kv c.hp+1:=by
 have h1:dep kv i=fC kv 16 c.hp+1:=by unfold dep;rw[fC,h,fL h];rfl
 have h2:=hL.dep i
 rw[h1];congr 1;unfold dep
 exact(Ci kv 1 16 c.hp<|by omega).symm
theorem xC(h:aB kv i=none):dep kv i=0:=by unfold dep;rw[fC,h];rfl
theorem i6(hL:cB kv)(h:aB kv i=some c):bE kv i=i::bE kv c.hp:=by
 unfold bE;rw[iM hL h];unfold fb
 rw[List.range_succ_eq_map,List.map_cons,List.map_map]
 congr 1
 refine List.map_congr_left λj _=>?_
 show fS kv i (j+1)=_
 rw[uf,fL h]
theorem lL(h:aB kv i=none):bE kv i=[]:=by unfold bE;rw[xC h];rfl
theorem uB(hL:cB kv)(hs:eA kv i=true):(aK kv i).hp=0∨(eA kv (aK kv i).hp=true∧(aK kv (aK kv i).hp).hl=false):=by
 obtain⟨c,h1,h2⟩:=kR hs
 rcases hL.par i c h1 with h|⟨p,h3,h4⟩
 ·left;rw[h2];exact h
 ·by_cases h0:c.hp=0
  ·left;rw[h2];exact h0
  ·right;rw[h2]
   have h5:=hL.shr i c h1 (by unfold eA at hs;rw[h2] at hs;simpa using hs)
   refine⟨?_,by rw[fL h3];exact h4⟩
   unfold i7 at h5;unfold eA
   have:(c.hp==0)=false:=by simpa using h0
   rw[this] at h5;simpa using h5
structure qs(kv:List (Int×Cl))(ol:List Int)(A:Int→Prop):Prop where
 sh: ∀i,A i→eA kv i=true
 up: ∀i,A i→(aK kv i).hp=0∨A (aK kv i).hp
 sup: ∀i,A i→i∈ol∨ ∃r,A r∧(aK kv r).hp=i
 ons: ∀i∈ol,A i
 lf: ∀i∈ol,(aK kv i).hl=true
def rG(kv:List (Int×Cl))(A:Int→Prop)(F:Int→List (Int×Int)):Prop:= ∀p,((F p).map (·.1)).Nodup∧ ∀i,(aB (F p) i≠none↔A i∧(aK kv i).hp=p)
variable{ol:Wx}{A:Int→Prop}
theorem ui(hL:cB kv)(h:qs kv ol A): ∀(n:Nat)(i:Int),dep kv i≤n→A i→ ∀q∈bE kv i,A q
 |0,i,hn,hi,q,hq=>by
  unfold bE at hq;rw[show dep kv i=0 by omega] at hq;simp[fb] at hq
 |n+1,i,hn,hi,q,hq=>by
  obtain⟨c,h1,h2⟩:=kR<|h.sh i hi
  rw[i6 hL h1] at hq
  rcases List.mem_cons.1 hq with rfl|hq
  ·exact hi
  ·rcases h.up i hi with h0|h0
   ·rw[h2] at h0;rw[h0,lL<|lO hL] at hq;cases hq
   ·rw[h2] at h0;exact ui hL h n _ (by rw[iM hL h1] at hn;omega) h0 q hq
theorem Io(hL:cB kv)(h:qs kv ol A): ∀(n:Nat)(i:Int),17≤dep kv i+n→A i→ ∃m∈ol,i∈bE kv m
 |0,i,hn,hi=>by have:=hL.dep i;omega
 |n+1,i,hn,hi=>by
  obtain⟨c,h1,h2⟩:=kR<|h.sh i hi
  rcases h.sup i hi with h0|⟨r,h3,h4⟩
  ·exact⟨i,h0,by rw[i6 hL h1];simp⟩
  ·obtain⟨d,h5,h6⟩:=kR<|h.sh r h3
   rw[h6] at h4
   obtain⟨m,hm,hr⟩:=Io hL h n r (by rw[iM hL h5,h4];omega) h3
   refine⟨m,hm,?_⟩
   exact upc_trans hL (by rw[i6 hL h5];exact List.mem_cons_of_mem _ (by rw[h4,i6 hL h1];simp)) hr
where
 upc_trans {kv:List (Int×Cl)} (hL:cB kv) {i r m:Int} (h1:i∈bE kv r) (h2:r∈bE kv m):i∈bE kv m:=by
  have key: ∀(n:Nat)(m:Int),dep kv m≤n→r∈bE kv m→i∈bE kv m:=by
   intro n
   induction n with
   |zero=>intro m hm hr;unfold bE at hr;rw[show dep kv m=0 by omega] at hr;simp[fb] at hr
   |succ n ih=>
    intro m hm hr
    cases e:aB kv m with
    |none=>rw[lL e] at hr;cases hr
    |some c=>
     rw[i6 hL e] at hr⊢
     rcases List.mem_cons.1 hr with rfl|hr
     ·rw[i6 hL e] at h1;exact h1
     ·exact List.mem_cons_of_mem _<|ih _ (by rw[iM hL e] at hm;omega) hr
  exact key _ m (Nat.le_refl _) h2
theorem pS(hL:cB kv)(h:qs kv ol A)(i:Int):A i↔ ∃m∈ol,i∈bE kv m:=
 ⟨λhi=>Io hL h 17 i (by omega) hi,λ⟨m,hm,hi⟩=>ui hL h _ m (Nat.le_refl _) (h.ons m hm) i hi⟩
theorem rW(hL:cB kv): ∀(n:Nat)(p q:Int),dep kv p≤n→q∈bE kv p→dep kv q≤dep kv p
 |0,p,q,hn,hq=>by unfold bE at hq;rw[show dep kv p=0 by omega] at hq;simp[fb] at hq
 |n+1,p,q,hn,hq=>by
  cases e:aB kv p with
  |none=>rw[lL e] at hq;cases hq
  |some c=>
   rw[i6 hL e] at hq
   rcases List.mem_cons.1 hq with rfl|hq
   ·omega
   ·have h2:=iM hL e;have:=rW hL n c.hp q (by omega) hq;omega
theorem y9{l:hV Int}:l≠[]↔ ∃i,aB l i≠none:=by
 constructor
 ·intro h
  cases l with
  |nil=>exact absurd rfl h
  |cons p l=>exact⟨p.1,by simp[aB]⟩
 ·rintro⟨i,h⟩ rfl;exact h rfl
variable{F:Int→hV Int}
theorem TA(h:rG kv A F)(i:Int):rG kv (λq=>A q∨q=i) (mY F (aK kv i).hp i):=by
 intro p;unfold mY
 by_cases e:(aK kv i).hp=p
 ·simp only[if_pos e];subst e
  refine⟨mn (h _).1 _ _,λq=>?_⟩
  rw[ed];by_cases eq:i=q
  ·subst eq;simp
  ·rw[if_neg eq,(h _).2];constructor
   ·rintro⟨h1,h2⟩;exact⟨.inl h1,h2⟩
   ·rintro⟨h1|h1,h2⟩
    ·exact⟨h1,h2⟩
    ·exact absurd h1.symm eq
 ·simp only[if_neg e]
  refine⟨(h p).1,λq=>?_⟩
  rw[(h p).2];constructor
  ·rintro⟨h1,h2⟩;exact⟨.inl h1,h2⟩
  ·rintro⟨h1|h1,h2⟩
   ·exact⟨h1,h2⟩
   ·subst h1;exact absurd h2 e
theorem TB(h:rG kv A F)(i:Int):rG kv (λq=>A q∧q≠i) (iP F (aK kv i).hp i):=by
 intro p;unfold iP
 by_cases e:(aK kv i).hp=p
 ·simp only[if_pos e];subst e
  refine⟨lX (h _).1 _,λq=>?_⟩
  rw[gP (h _).1];by_cases eq:i=q
  ·subst eq;simp
  ·rw[if_neg eq,(h _).2];constructor
   ·rintro⟨h1,h2⟩;exact⟨⟨h1,λh=>eq h.symm⟩,h2⟩
   ·rintro⟨⟨h1,_⟩,h2⟩;exact⟨h1,h2⟩
 ·simp only[if_neg e]
  refine⟨(h p).1,λq=>?_⟩
  rw[(h p).2];constructor
  ·rintro⟨h1,h2⟩;exact⟨⟨h1,λh=>e<|h▸h2⟩,h2⟩
  ·rintro⟨⟨h1,_⟩,h2⟩;exact⟨h1,h2⟩
structure GM(kv:List (Int×Cl))(ol:List Int)(A:Int→Prop)(i:Int):Prop where
 sh: ∀q,A q→eA kv q=true
 up: ∀q,A q→(aK kv q).hp=0∨A (aK kv q).hp∨(aK kv q).hp=i
 sup: ∀q,A q→q∈ol∨ ∃r,A r∧(aK kv r).hp=q
 me:i∈ol∨ ∃r,A r∧(aK kv r).hp=i
 mysh:eA kv i=true
 no: ¬A i
 ons: ∀q∈ol,A q∨q=i
 lf: ∀q∈ol,(aK kv q).hl=true
theorem Ip(hL:cB kv)(hs:eA kv i=true):(aK kv i).hp≠i:=by
 obtain⟨c,h1,h2⟩:=kR hs
 obtain⟨h3,h4⟩:=hL.key i c h1
 have:=(ug h4).2.2
 rw[h2,←h3];exact λe=>this e.symm
open Classical in
theorem LN(hL:cB kv): ∀(n:Nat)(i:Int)(A:Int→Prop)(F:Int→hV Int),GM kv ol A i→rG kv A F→jR (eu kv) n i→
  ∃A':Int→Prop,qs kv ol A'∧rG kv A' (fD (eu kv) F n i).2∧(∀q,A q→A' q)∧(fD (eu kv) F n i).1=(bE kv i).filter (λq=>decide (¬A q))∧A' i
 |0,i,A,F,hW,hF,hd=>hd.elim
 |n+1,i,A,F,hW,hF,hd=>by
  have hp:bU (eu kv) i=(aK kv i).hp:=by rw[xB,if_pos hW.mysh]
  have hfa:=TA hF i
  obtain⟨c,h1,h2⟩:=kR hW.mysh
  have hne:=Ip hL hW.mysh
  have hiff: ∀p,p=(aK kv i).hp→p≠0→(F p≠[]↔A p):=by
   intro p hpe hp0
   rw[y9];constructor
   ·rintro⟨q,hq⟩
    obtain⟨h3,h4⟩:=((hF p).2 q).1 hq
    rcases hW.up q h3 with h|h|h
    ·exact absurd (h4.symm.trans h) hp0
    ·rw[h4] at h;exact h
    ·exact absurd ((hpe.symm.trans h4.symm).trans h) hne
   ·intro ha
    rcases hW.sup p ha with h|⟨r,h3,h4⟩
    ·have h5:=hW.lf p h
     rcases uB hL hW.mysh with h6|⟨_,h6⟩
     ·exact absurd (hpe.trans h6) hp0
     ·rw[←hpe,h5] at h6;cases h6
    ·exact⟨r,((hF p).2 r).2 ⟨h3,h4⟩⟩
  by_cases hst:F (bU (eu kv) i)≠[]∨bU (eu kv) i=0
  ·rw[pW hst]
   rw[hp] at hst⊢
   have hcl:(aK kv i).hp=0∨A (aK kv i).hp:=by
    by_cases h0:(aK kv i).hp=0
    ·exact .inl h0
    ·rcases hst with h|h
     ·exact .inr<|(hiff _ rfl h0).1 h
     ·exact absurd h h0
   have hA':qs kv ol (λq=>A q∨q=i):=by
    refine⟨?_,?_,?_,λq hq=>hW.ons q hq,hW.lf⟩
    ·rintro q (h|rfl)
     ·exact hW.sh q h
     ·exact hW.mysh
    ·rintro q (h|rfl)
     ·rcases hW.up q h with h|h|h
      ·exact .inl h
      ·exact .inr<|.inl h
      ·exact .inr<|.inr h
     ·rcases hcl with h|h
      ·exact .inl h
      ·exact .inr<|.inl h
    ·rintro q (h|rfl)
     ·rcases hW.sup q h with h|⟨r,h3,h4⟩
      ·exact .inl h
      ·exact .inr ⟨r,.inl h3,h4⟩
     ·rcases hW.me with h|⟨r,h3,h4⟩
      ·exact .inl h
      ·exact .inr ⟨r,.inl h3,h4⟩
   refine⟨_,hA',hfa,λq h=> .inl h,?_,.inr rfl⟩
   rw[i6 hL h1,List.filter_cons,if_pos<|by simpa using hW.no]
   have:(bE kv c.hp).filter (λq=>decide (¬A q))=[]:=by
    rw[List.filter_eq_nil_iff];intro q hq
    rw[h2] at hcl
    rcases hcl with h|h
    ·rw[h,lL<|lO hL] at hq;cases hq
    ·have hqA:=ui hL hA' _ c.hp (Nat.le_refl _) (.inl h) q hq
     rcases hqA with h3|h3
     ·simpa using h3
     ·exfalso
      have:=rW hL _ c.hp q (Nat.le_refl _) hq
      rw[h3,iM hL h1] at this;omega
   rw[this]
  ·rw[BS hst]
   rw[hp] at hst⊢
   have h0:(aK kv i).hp≠0:=λh=>hst<|.inr h
   have hnp: ¬A (aK kv i).hp:=λh=>hst<|.inl<|(hiff _ rfl h0).2 h
   have hsp:eA kv (aK kv i).hp=true:=by
    rcases uB hL hW.mysh with h|h
    ·exact absurd h h0
    ·exact h.1
   have hW':GM kv ol (λq=>A q∨q=i) (aK kv i).hp:=by
    refine⟨?_,?_,?_,.inr ⟨i,.inr rfl,rfl⟩,hsp,?_,λq hq=> .inl (hW.ons q hq),hW.lf⟩
    ·rintro q (h|rfl)
     ·exact hW.sh q h
     ·exact hW.mysh
    ·rintro q (h|rfl)
     ·rcases hW.up q h with h|h|h
      ·exact .inl h
      ·exact .inr<|.inl<|.inl h
      ·exact .inr<|.inl<|.inr h
     ·exact .inr<|.inr rfl
    ·rintro q (h|rfl)
     ·rcases hW.sup q h with h|⟨r,h3,h4⟩
      ·exact .inl h
      ·exact .inr ⟨r,.inl h3,h4⟩
     ·rcases hW.me with h|⟨r,h3,h4⟩
      ·exact .inl h
      ·exact .inr ⟨r,.inl h3,h4⟩
    ·rintro(h|h)
     ·exact hnp h
     ·exact hne h
   have hd':jR (eu kv) n (aK kv i).hp:=by
    rcases hd with h|h
    ·rw[hp] at h;exact absurd h h0
    ·rw[hp] at h;exact h
   obtain⟨A',a1,a2,a3,a4,a5⟩:=LN hL n _ _ _ hW' hfa hd'
   refine⟨A',a1,a2,λq h=>a3 q<|.inl h,?_,a3 i<|.inr rfl⟩
   rw[a4,i6 hL h1,List.filter_cons,if_pos<|by simpa using hW.no,h2]
   refine congrArg (i:: ·)<|List.filter_congr λq hq=>?_
   have hqi: ¬q=i:=by
    intro e
    have:=rW hL _ c.hp q (Nat.le_refl _) hq
    rw[e,iM hL h1] at this;omega
   simp[hqi]
structure FM(kv:List (Int×Cl))(ol:List Int)(A:Int→Prop)(i:Int):Prop where
 sh: ∀q,A q→eA kv q=true
 up: ∀q,A q→(aK kv q).hp=0∨A (aK kv q).hp
 sup: ∀q,A q→q≠i→q∈ol∨ ∃r,A r∧(aK kv r).hp=q
 me:A i
 lone: ∀r,A r→(aK kv r).hp≠i
 no:i∉ol
 ons: ∀q∈ol,A q
 lf: ∀q∈ol,(aK kv q).hl=true
open Classical in
theorem Jf(hL:cB kv): ∀(n:Nat)(i:Int)(A:Int→Prop)(F:Int→hV Int),FM kv ol A i→rG kv A F→jR (eu kv) n i→
  ∃A':Int→Prop,qs kv ol A'∧rG kv A' (fV (eu kv) F n i).2∧(∀q,A' q→A q∧q≠i)∧(fV (eu kv) F n i).1=(bE kv i).filter (λq=>decide (¬A' q))
 |0,i,A,F,hW,hF,hd=>hd.elim
 |n+1,i,A,F,hW,hF,hd=>by
  have mysh:=hW.sh i hW.me
  have hp:bU (eu kv) i=(aK kv i).hp:=by rw[xB,if_pos mysh]
  have hfa:=TB hF i
  obtain⟨c,h1,h2⟩:=kR mysh
  have hne:=Ip hL mysh
  have hcl:=hW.up i hW.me
  by_cases hst:iP F (bU (eu kv) i) i (bU (eu kv) i)≠[]∨bU (eu kv) i=0
  ·rw[tU hst]
   rw[hp] at hst⊢
   have hA':qs kv ol (λq=>A q∧q≠i):=by
    refine⟨λq h=>hW.sh q h.1,?_,?_,λq hq=>⟨hW.ons q hq,λe=>hW.no<|e▸hq⟩,hW.lf⟩
    ·rintro q ⟨h,hqi⟩
     rcases hW.up q h with h3|h3
     ·exact .inl h3
     ·exact .inr ⟨h3,λe=>hW.lone q h e⟩
    ·rintro q ⟨h,hqi⟩
     rcases hW.sup q h hqi with h3|⟨r,h3,h4⟩
     ·exact .inl h3
     ·by_cases hri:r=i
      ·subst hri
       rcases hst with h5|h5
       ·obtain⟨s,hs⟩:=y9.1 h5
        obtain⟨h6,h7⟩:=((hfa _).2 s).1 hs
        exact .inr ⟨s,h6,h7.trans h4⟩
       ·exfalso
        have hq0:q=0:=h4.symm.trans h5
        have:=hW.sh q h
        obtain⟨d,h6,_⟩:=kR this
        rw[hq0,lO hL] at h6;cases h6
      ·exact .inr ⟨r,⟨h3,hri⟩,h4⟩
   refine⟨_,hA',hfa,λq h=>h,?_⟩
   rw[i6 hL h1,List.filter_cons,if_pos<|by simp]
   refine congrArg (i:: ·)<|Eq.symm<|List.filter_eq_nil_iff.2 λq hq=>?_
   rw[h2] at hcl
   rcases hcl with h|h
   ·rw[h,lL<|lO hL] at hq;cases hq
   ·have hci:c.hp≠i:=by rw[←h2];exact hne
    have hqA:=ui hL hA' _ c.hp (Nat.le_refl _) ⟨h,hci⟩ q hq
    simpa using hqA
  ·rw[Ey hst]
   rw[hp] at hst⊢
   have h0:(aK kv i).hp≠0:=λh=>hst<|.inr h
   have hE: ∀r,(A r∧r≠i)→(aK kv r).hp≠(aK kv i).hp:=λr hr e=>hst<|.inl<|y9.2 ⟨r,((hfa _).2 r).2 ⟨hr,e⟩⟩
   have hpA:A (aK kv i).hp:=hcl.resolve_left h0
   have hW':FM kv ol (λq=>A q∧q≠i) (aK kv i).hp:=by
    refine⟨λq h=>hW.sh q h.1,?_,?_,⟨hpA,hne⟩,λr hr=>hE r hr,?_,λq hq=>⟨hW.ons q hq,λe=>hW.no<|e▸hq⟩,hW.lf⟩
    ·rintro q ⟨h,hqi⟩
     rcases hW.up q h with h3|h3
     ·exact .inl h3
     ·exact .inr ⟨h3,λe=>hW.lone q h e⟩
    ·rintro q ⟨h,hqi⟩ hqp
     rcases hW.sup q h hqi with h3|⟨r,h3,h4⟩
     ·exact .inl h3
     ·by_cases hri:r=i
      ·subst hri;exact absurd h4.symm hqp
      ·exact .inr ⟨r,⟨h3,hri⟩,h4⟩
    ·intro h
     have h5:=hW.lf _ h
     rcases uB hL mysh with h6|⟨_,h6⟩
     ·exact h0 h6
     ·rw[h5] at h6;cases h6
   have hd':jR (eu kv) n (aK kv i).hp:=by
    rcases hd with h|h
    ·rw[hp] at h;exact absurd h h0
    ·rw[hp] at h;exact h
   obtain⟨A',a1,a2,a3,a4⟩:=Jf hL n _ _ _ hW' hfa hd'
   refine⟨A',a1,a2,λq h=>(a3 q h).1,?_⟩
   rw[a4,i6 hL h1,List.filter_cons,if_pos (by simp;exact λh=>(a3 i h).1.2 rfl),h2]
def hY(c:Cl):Cv:=⟨c.ra,c.rb,c.rc⟩
def kK(c:Cl):Cv:=⟨c.la,c.lb,c.lc⟩
def ot(c:Cl):Cv:=⟨c.ua,c.ub,c.uc⟩
theorem LO(hL:cB kv): ∀(n:Nat)(i:Int),dep kv i≤n→ ∀j,j<dep kv i→aB kv (fS kv i j)≠none
 |0,i,hn,j,hj=>by omega
 |n+1,i,hn,j,hj=>by
  cases e:aB kv i with
  |none=>rw[xC e] at hj;omega
  |some c=>
   cases j with
   |zero=>show aB kv i≠none;rw[e];simp
   |succ j=>
    rw[uf,fL e]
    rw[iM hL e] at hj hn
    exact LO hL n _ (by omega) j<|by omega
theorem Jg(hL:cB kv): ∀(n:Nat)(i:Int),dep kv i≤n→aB kv (fS kv i<|dep kv i)=none
 |0,i,hn=>by
  cases e:aB kv i with
  |none=>rw[xC e];exact e
  |some c=>have:=iM hL e;omega
 |n+1,i,hn=>by
  cases e:aB kv i with
  |none=>rw[xC e];exact e
  |some c=>
   rw[iM hL e,uf,fL e]
   rw[iM hL e] at hn
   exact Jg hL n _<|by omega
theorem G5(bt mc:Nat)(kc:hV Cl)(ci:Int)(hL:cB kc)(w:World)(r0:(aA bt [.map<|some mc] 185).holds w)(r1:(cN mc kc).holds w)(hs:HS w (aN []) [] w):Calls Tryz.prog 101 #[p_ bt,i_ ci] w λe w'=> ∃zz:k0×Nat,e= .returned (vS zz.1 (bE kc ci) zz.2)∧True∧Turn [] [sI zz.1 (bE kc ci) zz.2] w w':=by
 refine(M1 bt mc kc ci (dep kc ci) (λj hj=>LO hL _ ci (Nat.le_refl _) j hj) (Jg hL _ ci<|Nat.le_refl _) (by have:=hL.dep ci;omega) w r0 r1 hs).mono ?_
 rintro e w' ⟨⟨al,cl⟩,h1,-,h3⟩
 exact⟨(al,cl),h1,trivial,h3⟩
variable{kc:hV Cl}
theorem EO(hL:cB kc)(i:Int):(bE kc i).length≤17:=by unfold bE;rw[EB];have:=hL.dep i;omega
def mZ(on:List (Int×Int))(ka:List (Int×MB))(kk:List (Int×Vt))(m:En):Int:=if m.ec.hl=true∨fA on ka m.ec.hi=false then m.li.uq11 else bV m.li.uq11<|im<|((aB kk m.ec.hi).map λv:Vt=>v.t.toL).getD []
def kF(kc:List (Int×Cl))(n:Nat)(kk:List (Int×Vt)):Prop:= ∀p,(p=0∨ ∃c,aB kc p=some c∧c.hl=false)→ ∃v,aB kk p=some v∧dX v.t v.kv∧v.kv.length≤n
def eW(kc:List (Int×Cl))(kb:List (Int×En)):Prop:= ∀i,(aB kb i).map (·.ec)=aB kc i∧ ∀m,aB kb i=some m→lE m
variable{kb:hV En}
theorem oe(h:eW kc kb)(hc:aB kc i=some c): ∃m,aB kb i=some m∧m.ec=c∧lE m:=by
 have h1:=(h i).1
 cases e:aB kb i with
 |none=>rw[e,hc] at h1;cases h1
 |some m=>rw[e,hc] at h1;exact⟨m,rfl,by simpa using h1,(h i).2 m e⟩
variable{m:En}
theorem jP(h:eW kc kb)(hm:aB kb i=some m):aB kc i=some m.ec:=by have h1:=(h i).1;rw[hm] at h1;exact h1.symm
theorem BY(hL:cB kc)(h:eW kc kb)(hm:aB kb i=some m):m.ec.hi=i:=(hL.key i _<|jP h hm).1
variable{n:Nat}
theorem As(hL:cB kc)(h:eW kc kb)(hk:kF kc n kk)(hm:aB kb i=some m): ∃v,aB kk m.ec.hp=some v∧dX v.t v.kv∧v.kv.length≤n:=by
 refine hk _ ?_
 rcases hL.par i _ (jP h hm) with h1|⟨p,h1,h2⟩
 ·exact .inl h1
 ·exact .inr ⟨p,h1,h2⟩
def vt(on:List (Int×Int))(ka:List (Int×MB))(kk:List (Int×Vt))(m:En)(i:Int)(v:Vt)(t:T):Vt:={v with t:=t,kv:=aJ v.kv i ⟨m.sh.sq11,i,mZ on ka kk m,i⟩}
def ku(on:List (Int×Int))(ka:List (Int×MB))(kb:List (Int×En)):List Int→List (Int×Vt)→List (Int×Vt)→Prop
 |[],kk,kk'=>kk'=kk
 |i::l,kk,kk'=>(fA on ka i=false∧ku on ka kb l kk kk')∨(fA on ka i=true∧ ∃m v t,aB kb i=some m∧aB kk m.ec.hp=some v∧dX t (vt on ka kk m i v t).kv∧ku on ka kb l (aJ kk m.ec.hp<|vt on ka kk m i v t) kk')
theorem Va(h:kF kc n kk){p:Int}(he:dX v.t v.kv)(hl:v.kv.length≤n+1):kF kc (n+1) (aJ kk p v):=λq hq=>by
 rw[ed];by_cases e:p=q
 ·rw[if_pos e];exact⟨v,rfl,he,hl⟩
 ·rw[if_neg e];obtain⟨v,h1,h2,h3⟩:=h q hq;exact⟨v,h1,h2,by omega⟩
theorem D8(k:Int)(v:β): ∀kv:List (Int×β),(aJ kv k v).length≤kv.length+1
 |[]=>by simp[aJ]
 |p::kv=>by unfold aJ;split<;>simp;exact D8 k v kv
theorem X3(sb:Nat)(lt lm:Int)(bt mc:Nat)(kc:hV Cl)(my:Nat)(kb:hV En)(a:Ac)(on:hV Int)(ka:hV MB)(eb:Nat)(mk:Nat)(kk:hV Vt)(ck ac:Int)(i:Int)(m:En)(hm:aB kb i=some m)(hL:cB kc)(hB:eW kc kb)(hK:kF kc n kk)(w:World)(r0:(aA sb [i_ lt,i_ lm,p_ bt,.map<|some my,p_ a.bs,p_ eb,.map<|some mk,u_ ck,u_ ac] 141).holds w)(r1:(aA bt [.map<|some mc] 185).holds w)(r2:(cN mc kc).holds w)(r3:(dj my kb).holds w)(r4:(eX a on ka).holds w)(r5:(eH mk kk).holds w):
  CW 208 #[p_ sb,p_ m.eb] w (u_<|mZ on ka kk m):=by
 refine aU Tryz.func208 rfl (HS.nil w) (aE []<|aD<|aD<|jw [.rd [b_ m.ec.hl],.o,.rd [p_ a.bs],.rd [i_ m.ec.hi],.cq<|b_<|fA on ka m.ec.hi,.cl] (rg 0 18) [] [(22,b_<|m.ec.hl||(!(fA on ka m.ec.hi)))] (oc (ro ⟨m.eb,3,none⟩ (vs:=[b_ m.ec.hl])<|fU (λw s=>(fk (bK s r3) hm:)) rfl)<|oc (go (true&&(m.ec.hl==false)) λh_=>(ro ⟨sb,4,none⟩ (vs:=[p_ a.bs])<|cE r0 rfl))<|oc (go (true&&(m.ec.hl==false)) λh_=>(ro ⟨m.eb,1,none⟩ (vs:=[i_ m.ec.hi])<|fU (λw s=>(fk (bK s r3) hm:)) rfl))<|o1<|go (true&&(m.ec.hl==false)) λh_=>(qo<|λw s=>N9 a on ka m.ec.hi w<|bK s r4))<|aL rfl (λe1=>?_) (λe1=>?_))
 ·have p1:=e1
  refine dF [.rd [u_ m.li.uq11]] [(4,u_ m.li.uq11)] (o1<|ro ⟨m.eb,59,none⟩ (vs:=[u_ m.li.uq11])<|fU (λw s=>(fk (bK s r3) hm:)) rfl)<|aF<|bJ [u_ m.li.uq11] ?_
  show((u_ m.li.uq11):Value)=(u_<|mZ on ka kk m)
  unfold mZ;simp_all
 refine az ?_
 obtain⟨m1,hk1,hE1,hl1⟩:=hK _<|.inr ⟨_,(BY hL hB hm).symm▸jP hB hm,by simp_all⟩
 refine bY [16] 18<|eR 4 [.rd [u_ m.li.uq11],.rd [.map<|some mk],.rd [i_ m.ec.hi]] (rg 0 14) [(32,u_ m.li.uq11),(36,.map<|some mk),(41,i_ m.ec.hi)] (oc (ro ⟨m.eb,59,none⟩ (vs:=[u_ m.li.uq11])<|fU (λw s=>(fk (bK s r3) hm:)) rfl)<|oc (ro ⟨sb,6,none⟩ (vs:=[.map<|some mk])<|cE r0 rfl)<|o1<|ro ⟨m.eb,1,none⟩ (vs:=[i_ m.ec.hi])<|fU (λw s=>(fk (bK s r3) hm:)) rfl)<|lG 14 (some 42) (p_ m1.be) rfl (by kernel_rfl) (by kernel_rfl) (kP (kt:=3) (et:=136) (k:=m.ec.hi) (λw s=>qX<|bK s r5) hk1 rfl rfl rfl (by kernel_rfl) eG rfl) (eR 2 [.cq<|u_<|im m1.t.toL] [15] [(32,u_ m.li.uq11),(43,u_<|im m1.t.toL)] (o1<|qo<|λw s=>NB mk kk m.ec.hi m1 hk1 ‹_› w (bK s r5))<|bF 16 rfl (eM (some 44) [u_ m.li.uq11,u_<|im m1.t.toL] Tryz.func251 rfl (aE []<|aE [(4,u_<|bV m.li.uq11<|im m1.t.toL)]<|aF<|d6 [u_<|bV m.li.uq11<|im m1.t.toL]<|cb<|cQ 0 [] [17] [(4,u_<|bV m.li.uq11<|im m1.t.toL)]<|eN<|aF<|bJ [u_<|bV m.li.uq11<|im m1.t.toL] ?_)))
 show((u_<|bV m.li.uq11<|im m1.t.toL):Value)=(u_<|mZ on ka kk m)
 unfold mZ;simp_all
variable{ka:hV MB}{L:Wx}{k:Nat}{kk':hV Vt}
theorem X4(hk:L[k]? =some i)(hA:fA on ka i=false)(h:ku on ka kb (L.drop<|k+1) kk kk'):ku on ka kb (L.drop k) kk kk':=by
 obtain⟨h1,h2⟩:=Zf.1 hk
 rw[List.drop_eq_getElem_cons h1,h2];exact .inl ⟨hA,h⟩
variable{t:T}
theorem X5(hk:L[k]? =some i)(hA:fA on ka i=true)(hm:aB kb i=some m)(hv:aB kk m.ec.hp=some v)(he:dX t (vt on ka kk m i v t).kv)
  (h:ku on ka kb (L.drop<|k+1) (aJ kk m.ec.hp<|vt on ka kk m i v t) kk'):ku on ka kb (L.drop k) kk kk':=by
 obtain⟨h1,h2⟩:=Zf.1 hk
 rw[List.drop_eq_getElem_cons h1,h2];exact .inr ⟨hA,m,v,t,hm,hv,he,h⟩
theorem EP(hL:cB kc): ∀(n:Nat)(i z:Int),dep kc i≤n→z∈bE kc i→ ∃c,aB kc z=some c
 |0,i,z,hn,hz=>by unfold bE at hz;rw[show dep kc i=0 by omega] at hz;simp[fb] at hz
 |n+1,i,z,hn,hz=>by
  cases e:aB kc i with
  |none=>rw[lL e] at hz;cases hz
  |some c=>
   rw[i6 hL e] at hz
   rcases List.mem_cons.1 hz with rfl|hz
   ·exact⟨c,e⟩
   ·exact EP hL n _ z (by rw[iM hL e] at hn;omega) hz
variable{z:Int}
theorem LP(hL:cB kc)(hB:eW kc kb)(hk:(bE kc i)[k]? =some z): ∃m,aB kb z=some m∧lE m:=by
 obtain⟨c,hc⟩:=EP hL _ i z (Nat.le_refl _)<|Zd hk
 obtain⟨m,h1,-,h2⟩:=oe hB hc
 exact⟨m,h1,h2⟩
abbrev FN(p0)(p1)(p2)(p3)(p4)(p5:Ac)(p6)(p7)(p8)(p9)(p10)(p11)(p12)(p13)(p14)(p15):=([aA p0 [i_ p1,i_ p2,p_ p3,.map<|some p4,p_ p5.bs,p_ p6,.map<|some p7,u_ p8,u_ p9] 141,aA p3 [.map<|some p10] 185,cN p10 p11,dj p4 p12,eX p5 p13 p14,eH p7 p15]:List V.aI)
theorem zK(sb:Nat)(lt lm:Int)(bt mc:Nat)(kc:hV Cl)(my:Nat)(kb:hV En)(a:Ac)(on:hV Int)(ka:hV MB)(eb:Nat)(mk:Nat)(kk:hV Vt)(ck ac:Int)(ci:Int)(hL:cB kc)(hB:eW kc kb)(hK:kF kc 600 kk)(w:World)(hs:HI w (FN sb lt lm bt my a eb mk ck ac mc kc kb on ka kk)):
  CV 151 #[p_ sb,i_ ci] w (FN sb lt lm bt my a eb mk ck ac mc kc kb on ka kk) (λ(kk':(hV Vt))=>(.tuple #[])) (λkk'=>ku on ka kb (bE kc ci) kk kk') λkk'=>(FN sb lt lm bt my a eb mk ck ac mc kc kb on ka kk'):=by
 have hul:=EO hL ci
 refine aU Tryz.func151 rfl hs (aC<|an 5 [.ld 0] [(10,p_ bt),(11,i_ ci)]<|aG<|dH (some 12) [] (λw s h=>G5 bt mc kc ci ‹_› w (s.mem (i:=1) rfl) (s.mem (i:=2) rfl) h) ?_)
 rintro⟨al'1,cl'2⟩-
 refine aQ [(12,vS al'1 (bE kc ci) cl'2),(13,i_ ((bE kc ci).length:Int)),(14,i_ 0)]<|aR<|iC (σ:=Nat×(hV Vt)) [] (λ(k,kkk)=>[(14,c_ k)]) [6] (λ(k,kkk)=>[eH mk kkk]) (λ(k,kkk)=>(k≤(bE kc ci).length)∧(∀kk',ku on ka kb ((bE kc ci).drop k) kkk kk'→ku on ka kb (bE kc ci) kk kk')∧(kF kc (600+k) kkk)) (λ(k,kkk)=>(bE kc ci).length-k) (0,kk) ⟨(by omega),(λ_ h=>h),hK⟩ ?_ ?_
 ·exact cX [6,0,0,0,0,0,0]
 rintro⟨k,kkk⟩ ⟨hk,hS,hKk⟩
 refine aE [(15,b_<|decide ((k:Int)<((bE kc ci).length:Int)))]<|aD<|aL rfl (λe2=>?_) (λe2=>?_)
 ·have p2:=Zg e2
  refine az<|aR<|aC<|jJ [.ix] [(16,.pointer<|some<|(au al'1).add (k*1))] (o1<|jV 1 k dG rfl (by omega)) ?_
  obtain⟨x4,hx4⟩: ∃x,((bE kc ci))[k]? =some x:=⟨_,Ze<|by omega⟩
  refine aj [.rd [i_ x4]] [(5,i_ x4)] (o1<|ro ((au al'1).add (k*1))<|dr (vs:=[i_ x4]) dG (bW (i:=1) rfl) hx4 (Nat.le_of_ble_eq_true rfl) rfl)<|aC<|an 5 [.ld 2] [(21,.map<|some my),(22,i_ x4)] ?_
  obtain⟨m5,hk5,hEO5⟩:=LP hL hB ‹_›
  refine aG<|cC (some 23) _ (kP (kt:=3) (et:=167) (k:=x4) (λw s=>nm<|s.mem (i:=5) rfl) hk5 rfl rfl rfl (by kernel_rfl) eG rfl)<|aQ [(6,p_ m5.eb)]<|dF [.ld 2,.cq<|b_<|fA on ka x4] [(29,b_<|fA on ka x4)] (o1<|qo<|λw s=>N9 a on ka x4 w<|s.mem (i:=6) rfl)<|aL rfl (λe3=>?_) (λe3=>?_)
  ·obtain⟨m6,hk6,hE6,hl6⟩:=As hL hB hKk hk5
   refine bY [19] 20<|eR 2 [.ld 2,.rd [i_ m5.ec.hp],.rd [u_ m5.sh.sq11],.cq<|u_<|mZ on ka kkk m5] [0,1,2,3,4,5,6,7,8,10,11,12,13,14,15,16,17,18] [(33,.map<|some mk),(38,i_ m5.ec.hp),(40,i_ x4),(45,u_ m5.sh.sq11),(48,u_<|mZ on ka kkk m5)] (oc (ro ⟨m5.eb,2,none⟩ (vs:=[i_ m5.ec.hp])<|fU (λw s=>(fk (s.mem (i:=5) rfl) hk5:)) rfl)<|oc (ro ⟨m5.eb,48,none⟩ (vs:=[u_ m5.sh.sq11])<|fU (λw s=>(fk (s.mem (i:=5) rfl) hk5:)) rfl)<|o1<|qo<|λw s=>X3 sb lt lm bt mc kc my kb a on ka eb mk kkk ck ac x4 m5 hk5 ‹_› ‹_› ‹_› w (s.mem (i:=2) rfl) (s.mem (i:=3) rfl) (s.mem (i:=4) rfl) (s.mem (i:=5) rfl) (s.mem (i:=6) rfl) (s.mem (i:=0) rfl))<|lG 9 (some 39) (p_ m6.be) rfl (by kernel_rfl) (by kernel_rfl) (kP (kt:=3) (et:=136) (k:=m5.ec.hp) (λw s=>qX<|s.mem (i:=0) rfl) hk6 rfl rfl rfl (by kernel_rfl) eG rfl) (bF 19 rfl (b0 (some 49) [0] (X1 mk kkk m5.ec.hp m6 x4 m5.sh.sq11 (mZ on ka kkk m5) hk6 ‹_› (by omega)) ?_))
   rintro zt7 hz4
   refine dV<|aM<|aj [.w<|(k:Int)+1] [(13,i_ ((bE kc ci).length:Int)),(14,i_<|(k:Int)+1)] (o1<|wj ((k:Int)+1)<|by omega)<|bN (k+1,aJ kkk m5.ec.hp {m6 with t:=zt7,kv:=aJ m6.kv x4 ⟨m5.sh.sq11,x4,mZ on ka kkk m5,x4⟩}) ⟨(by omega),(λ_ h=>hS _<|X5 ‹_› ‹_› ‹_› ‹_› ‹_› h),(Va hKk ‹_› (Nat.le_trans (D8 _ _ _)<|Nat.succ_le_succ ‹_›))⟩ (by(show(bE kc ci).length-(k+1)<(bE kc ci).length-k;omega)) ?_
   exact cX [0,0,0,0,0,0,0]
  have p3:=e3
  refine aO<|aM<|aj [.w<|(k:Int)+1] [(14,i_<|(k:Int)+1)] (o1<|wj ((k:Int)+1)<|by omega)<|bN (k+1,kkk) ⟨(by omega),(λ_ h=>hS _<|X4 ‹_› ‹_› h),(λp hp=>(hKk p hp).imp λv h=>⟨h.1,h.2.1,by omega⟩)⟩ (by(show(bE kc ci).length-(k+1)<(bE kc ci).length-k;omega)) ?_
  exact cX [0,0,0,0,0,0,0]
 have p2:=Zh e2
 refine bg<|mi [2,2,2,2,2,0] [] (λ_ w r s=>trivial) (kkk) ?_ ?_<|by kernel_rfl
 ·rfl
 exact hS _ (by rw[List.drop_eq_nil_of_le<|by omega];rfl)
theorem LQ(hL:cB kc): ∀(n:Nat)(i:Int)(F:Int→hV Int),eA kc i=true→ ∀z∈(fD (eu kc) F n i).1,eA kc z=true
 |0,i,F,hs,z,hz=>by simp[fD] at hz;rw[hz];exact hs
 |n+1,i,F,hs,z,hz=>by
  unfold fD at hz
  split at hz
  ·simp at hz;rw[hz];exact hs
  ·rename_i hp
   rcases List.mem_cons.1 hz with rfl|hz
   ·exact hs
   ·refine LQ hL n _ _ ?_ z hz
    rw[xB,if_pos hs] at hp⊢
    rcases uB hL hs with h0|h0
    ·exact absurd (.inr h0) hp
    ·exact h0.1
variable{on':hV Int}{ka':hV MB}{c er:Int}{l:Wx}
theorem Jh(hL:cB kc)(hy:ym=eu kc)(h:rF ym on ka c on' ka' l er): ∀z∈l,eA kc z=true:=by
 intro z hz
 rcases h with⟨h1,-,-,h2,-⟩|⟨-,-,h2,-⟩
 ·rw[hy] at h1 h2
  rw[h2] at hz
  refine LQ hL 40 c _ ?_ z hz
  rw[xQ] at h1;simp at h1;exact h1.1
 ·rw[h2] at hz;cases hz
theorem Ji(h:rF ym on ka c on' ka' l er):l.length≤41:=by
 have: ∀(n:Nat)(i:Int)(F:Int→hV Int),(fD ym F n i).1.length≤n+1:=λn=>by
  induction n with
  |zero=>intro i F;simp[fD]
  |succ n ih=>intro i F;unfold fD;split<;>simp;exact ih _ _
 rcases h with⟨-,-,-,h2,-⟩|⟨-,-,h2,-⟩
 ·rw[h2];exact this 40 _ _
 ·rw[h2];simp
theorem GN(hB:eW kc kb)(h:eA kc z=true): ∃m,aB kb z=some m∧lE m:=by
 obtain⟨c,h1,-⟩:=kR h
 obtain⟨m,h2,-,h3⟩:=oe hB h1
 exact⟨m,h2,h3⟩
def iq(kk:List (Int×Vt))(p:Int):Int:=((((aB kk p).map λv:Vt=>v.t.toL).getD []).head?.getD default).ka
def ou(kk:List (Int×Vt))(now:Int)(m:En):En:={m with sh:=jO m.sh (kK m.ec) (iq kk m.ec.hp) m.tot,li:=lg m.li (ot m.ec) now m.tot}
def kL(kk:List (Int×Vt))(now:Int):List Int→List (Int×En)→List (Int×En)
 |[],kb=>kb
 |i::l,kb=>kL kk now l (match aB kb i with|some m=>aJ kb i (ou kk now m)|none=>kb)
variable{now:Int}{m':En}
theorem Iq(hk:L[k]? =some i)(hm:aB kb i=some m)(e:ou kk now m=m'):kL kk now (L.drop<|k+1) (aJ kb i m')=kL kk now (L.drop k) kb:=by
 obtain⟨h1,h2⟩:=Zf.1 hk
 rw[List.drop_eq_getElem_cons h1,h2,kL,hm];subst e;rfl
theorem Au(h:eW kc kb)(hm:aB kb i=some m)(he:m'.ec=m.ec)(ho:lE m'):eW kc (aJ kb i m'):=λj=>by
 rw[ed];by_cases e:i=j
 ·rw[if_pos e];subst e
  refine⟨?_,λm2 h2=>by cases h2;exact ho⟩
  have:=jP h hm;rw[this];simp[he]
 ·rw[if_neg e];exact h j
theorem LR(h:lE m)(h1:m'.ec=m.ec)(h2:m'.qb=m.qb)(h3:m'.q=m.q):lE m':=⟨by rw[h1,h2];exact h.lf,by rw[h2,h3];exact h.no,by rw[h2,h3];exact h.qu⟩
theorem ux(h:eW kc kb)(hm:aB kb i=some m)(h1:m'.ec=m.ec)(h2:m'.qb=m.qb)(h3:m'.q=m.q):eW kc (aJ kb i m'):=Au h hm h1<|LR ((h i).2 m hm) h1 h2 h3
def ib(c:Cl):Bool:=decide (ai c.ra c.rb c.rc>1)
def qJ(c:Cl):Bool:=decide (ai c.la c.lb c.lc>1)
def NF(kc:List (Int×Cl))(now h i:Int)(m:En)(kb:List (Int×En))(ym:List (Int×Pl))(on:List (Int×Int))(ka:List (Int×MB))(et:T)(ek:List (Int×It))(kk:List (Int×Vt))(kb':List (Int×En))(on':List (Int×Int))(ka':List (Int×MB))(et':T)(ek':List (Int×It))(kk':List (Int×Vt)):Prop:=
 ∃kb1,((ib m.ec=true∧kb1=aJ kb i {m with du:=iV m.du (hY m.ec) now h}∧ek'=aJ (aW ek m.ec.hi) m.ec.hi ⟨(iV m.du (hY m.ec) now h).dq21,m.ec.hi,(iV m.du (hY m.ec) now h).dq22,m.ec.hi⟩∧dX et' ek')∨(ib m.ec=false∧kb1=kb∧ek'=ek∧et'=et))∧
  ((qJ m.ec=true∧ ∃l er,rF ym on ka m.ec.hi on' ka' l er∧kb'=kL kk now l kb1∧ku on' ka' kb' (bE kc m.ec.hi) kk kk')∨(qJ m.ec=false∧kb'=kb1∧on'=on∧ka'=ka∧kk'=kk))
abbrev FO(p0:En)(p1)(p2):=(u_ ((iV p0.du (hY p0.ec) p1 p2).dq22):Value)
abbrev FP(p0:En)(p1)(p2):=(u_ ((iV p0.du (hY p0.ec) p1 p2).dq21):Value)
abbrev LS(p0:En):=((b_<|decide (ai p0.ec.la p0.ec.lb p0.ec.lc>1)):Value)
abbrev vO(p0:En)(p1):=(gu<|lg p0.li (ot p0.ec) p1 p0.tot)
abbrev sA(p0)(p1):=(aA p0 [.map<|some p1] 185:V.aI)
abbrev sB(p0)(p1)(p2)(p3)(p4)(p5:Ac)(p6:Vt)(p7)(p8)(p9):=(aA p0 [i_ p1,i_ p2,p_ p3,.map<|some p4,p_ p5.bs,p_ p6.be,.map<|some p7,u_ p8,u_ p9] 141:V.aI)
theorem TC(sb:Nat)(lt lm:Int)(bt mc:Nat)(kc:hV Cl)(my:Nat)(kb:hV En)(a:Ac)(on:hV Int)(ka:hV MB)(tl:Vt)(et:T)(ek:hV It)(mk:Nat)(kk:hV Vt)(ck ac:Int)(now i:Int)(m:En)(h:Int)(hm:aB kb i=some m)(hL:cB kc)(hB:eW kc kb)(hK:kF kc 600 kk)(hy:a.ym=eu kc)(hE:dX et ek)(hl:ek.length≤600):
  CS 113 #[p_ sb,u_ now,p_ m.eb,i_ h] [sB sb lt lm bt my a tl mk ck ac,sA bt mc,cN mc kc,dj my kb,eX a on ka,fH tl et ek,eH mk kk] (λ((kb',on',ka',et',ek',kk'):(hV En)×(hV Int)×(hV MB)×T×(hV It)×(hV Vt))=>(.tuple #[])) (λ(kb',on',ka',et',ek',kk')=>NF kc now h i m kb a.ym on ka et ek kk kb' on' ka' et' ek' kk') λ(kb',on',ka',et',ek',kk')=>[sB sb lt lm bt my a tl mk ck ac,sA bt mc,cN mc kc,dj my kb',eX a on' ka',fH tl et' ek',eH mk kk']:=by
 intro w hs
 have hdp:=λi=>hy▸we hL i
 refine aU Tryz.func113 rfl hs (aD<|aM<|aj [.rd [i_ m.ec.hi]] [(8,i_ m.ec.hi)] (o1<|ro ⟨m.eb,1,none⟩ (vs:=[i_ m.ec.hi])<|fU (λw s=>(fk (s.mem (i:=3) rfl) hm:)) rfl)<|aD<|aD<|aM<|aj [.rd<|aX m.ec,.cq<|b_<|decide (ai m.ec.ra m.ec.rb m.ec.rc>1)] [(25,b_<|decide (ai m.ec.ra m.ec.rb m.ec.rc>1))] (oc (ro ⟨m.eb,1,none⟩ (vs:=(aX m.ec))<|fU (λw s=>(fk (s.mem (i:=3) rfl) hm:)) rfl)<|o1<|qw<|tL m.ec)<|aL (E:=decide (ai m.ec.ra m.ec.rb m.ec.rc>1)) rfl (λe1=>?_) (λe1=>?_))
 ·have p1:=Zg e1
  refine aD<|u2 3 rfl hm rfl (bY [15] 16<|eR 1 [.ld 1,.ld 1,.cq<|.agg (fO<|iV m.du (hY m.ec) now h).toArray] (rg 0 15) [(38,.agg (fO<|iV m.du (hY m.ec) now h).toArray),(40,q_ m.eb 16)] (o1<|qw<|U9 m.du (hY m.ec) now h)<|bF 15 rfl (dQ 1 (fO<|iV m.du (hY m.ec) now h) rfl (dV<|u3 (m':=({m with du:=(iV m.du (hY m.ec) now h)}:En)) [0,0] rfl hm ⟨rfl,rfl,rfl⟩ rfl rfl ?_)))
  have hk1:=ie kb i ({m with du:=(iV m.du (hY m.ec) now h)}:En)
  refine bY [15] 16<|eR 1 [.ld 1,.rd [FP m now h],.rd [FO m now h]] (rg 0 15) [(44,p_ tl.be),(45,i_ m.ec.hi),(50,FP m now h),(55,FO m now h)] (oc (ro ⟨m.eb,36,none⟩ (vs:=[FP m now h])<|fU (λw s=>(fk (s.mem (i:=0) rfl) hk1:)) rfl)<|o1<|ro ⟨m.eb,37,none⟩ (vs:=[FO m now h])<|fU (λw s=>(fk (s.mem (i:=0) rfl) hk1:)) rfl)<|bF 15 rfl (b0 (some 56) [5] (GL tl et ek m.ec.hi ((iV m.du (hY m.ec) now h).dq21) ((iV m.du (hY m.ec) now h).dq22) (by assumption)<|by omega) ?_)
  rintro zt2 hz2
  refine cb<|eN<|aD<|aD<|aM<|aj [.rd<|aX m.ec,.cq<|LS m] [(62,b_ (!(decide (ai m.ec.la m.ec.lb m.ec.lc>1))))] (oc (ro ⟨m.eb,1,none⟩ (vs:=(aX m.ec))<|fU (λw s=>(fk (s.mem (i:=1) rfl) hk1:)) rfl)<|o1<|qw<|pI m.ec)<|aL (E:= !(decide (ai m.ec.la m.ec.lb m.ec.lc>1))) rfl (λe3=>?_) (λe3=>?_)
  ·refine aF<|cP [2,2,2,1,1,0,0] [] (λ_ w r s=>trivial) ((aJ kb i ({m with du:=(iV m.du (hY m.ec) now h)}:En)),on,ka,zt2,aJ (aW ek m.ec.hi) m.ec.hi ⟨((iV m.du (hY m.ec) now h).dq21),m.ec.hi,(iV m.du (hY m.ec) now h).dq22,m.ec.hi⟩,kk) ?_ ?_<|by kernel_rfl
   ·rfl
   exact⟨_,.inl ⟨(by unfold ib;(simp_all;done)),rfl,rfl,by assumption⟩,.inr ⟨(by unfold qJ;(simp_all;done)),rfl,rfl,rfl,rfl⟩⟩
  refine aO<|aC<|k9 [.p,.p,.p,.ld 2,.p] [(0,p_ sb),(1,u_ now),(8,i_ m.ec.hi),(67,p_ a.bs),(68,i_ m.ec.hi)]<|aG<|b0 (some 69) [5] (G4 a on ka m.ec.hi<|hdp _) ?_
  rintro⟨on'3,ka'4,al'5,l'6,cl'7,er8⟩ hz4
  dsimp only at hz4
  refine aQ [(9,vS al'5 l'6 cl'7)]<|aD<|aD ?_
  have hmem:=Jh hL hy ‹_›
  have hlen:=Ji ‹_›
  refine bZ [(72,vS al'5 l'6 cl'7),(73,c_ l'6.length),(74,i_ 0)]<|aR<|fY (λ((k,kbk):Nat×(hV En))=>[(0,p_ sb),(1,u_ now),(8,i_ m.ec.hi),(72,vS al'5 l'6 cl'7),(73,c_ l'6.length),(74,c_ k)]) (λ((k,kbk):Nat×(hV En))=>[dj my kbk,eX a on'3 ka'4,sI al'5 l'6 cl'7,fH tl zt2<|aJ (aW ek m.ec.hi) m.ec.hi ⟨((iV m.du (hY m.ec) now h).dq21),m.ec.hi,(iV m.du (hY m.ec) now h).dq22,m.ec.hi⟩,sB sb lt lm bt my a tl mk ck ac,sA bt mc,cN mc kc,eH mk kk]) (λ((k,kbk):Nat×(hV En))=>(k≤l'6.length)∧(kL kk now (l'6.drop k) kbk=kL kk now l'6 (aJ kb i ({m with du:=(iV m.du (hY m.ec) now h)}:En)))∧(eW kc kbk)) (λ((k,kbk):Nat×(hV En))=>l'6.length-k) (0,aJ kb i ({m with du:=(iV m.du (hY m.ec) now h)}:En)) ⟨(by omega),(by rfl),(ux hB hm rfl rfl rfl)⟩ ?_ ?_
  ·exact bw [3,0,0,0,0,0,0,0] ⟨rfl,rfl,rfl,rfl,rfl,rfl,trivial⟩<|by kernel_rfl
  rintro⟨k,kbk⟩ ⟨hk,hU,hBk⟩
  refine dW [(0,p_ sb),(1,u_ now),(8,i_ m.ec.hi),(72,vS al'5 l'6 cl'7),(73,c_ l'6.length),(74,c_ k)] [dj my kbk,eX a on'3 ka'4,sI al'5 l'6 cl'7,fH tl zt2<|aJ (aW ek m.ec.hi) m.ec.hi ⟨((iV m.du (hY m.ec) now h).dq21),m.ec.hi,(iV m.du (hY m.ec) now h).dq22,m.ec.hi⟩,sB sb lt lm bt my a tl mk ck ac,sA bt mc,cN mc kc,eH mk kk] ⟨rfl,rfl,rfl,rfl,rfl,rfl,trivial⟩ rfl (aE [(74,c_ k),(75,b_<|decide ((k:Int)<(l'6.length:Int)))]<|aD<|aL (E:=decide ((k:Int)<(l'6.length:Int))) rfl (λe5=>?_) (λe5=>?_))
  ·have p5:=Zg e5
   refine az<|aR<|aC<|jJ [.ix] [(76,.pointer<|some<|(au al'5).add (k*1))] (o1<|jV 2 k dG rfl (by omega)) ?_
   obtain⟨x10,hx10⟩: ∃x,(l'6)[k]? =some x:=⟨_,Ze<|by omega⟩
   refine aj [.rd [i_ x10]] [(12,i_ x10)] (o1<|ro ((au al'5).add (k*1))<|dr (vs:=[i_ x10]) dG (bW (i:=2) rfl) hx10 (Nat.le_of_ble_eq_true rfl) rfl)<|aC<|k9 [.p,.p,.p,.ld 4,.p] [(0,p_ sb),(1,u_ now),(8,i_ m.ec.hi),(72,vS al'5 l'6 cl'7),(73,c_ l'6.length),(74,c_ k),(81,.map<|some my),(82,i_ x10)] ?_
   obtain⟨m11,hk11,hec11,hEO11⟩:=GN hBk<|hmem _<|Zd hx10
   refine aG<|cC (some 83) _ (kP (kt:=3) (et:=167) (k:=x10) (λw s=>nm<|s.mem (i:=0) rfl) hk11 rfl rfl rfl (by kernel_rfl) eG rfl)<|aQ [(13,p_ m11.eb)]<|aD ?_
   obtain⟨m12,hk12,hE12,hl12⟩:=As hL hBk hK hk11
   refine bY [] 16<|eR 7 [.ld 4,.rd [i_ m11.ec.hp]] (rg 0 9) [(88,.map<|some mk),(93,i_ m11.ec.hp)] (o1<|ro ⟨m11.eb,2,none⟩ (vs:=[i_ m11.ec.hp])<|fU (λww ss=>(fk (ss.mem (i:=0) rfl) hk11:)) rfl)<|lG 9 (some 94) (p_ m12.be) rfl (by kernel_rfl) (by kernel_rfl) (kP (kt:=3) (et:=136) (k:=m11.ec.hp) (λww ss=>qX<|ss.mem (i:=7) rfl) hk12 rfl rfl rfl (by kernel_rfl) eG rfl) (eR 0 [.cq<|.tuple #[u_<|(m12.t.toL.head?.getD default).ka,b_<|m12.t.toL.head?.isSome]] (rg 10 6) [(14,u_<|(m12.t.toL.head?.getD default).ka)] (o1<|qo<|λww ss=>NC mk kk m11.ec.hp m12 hk12 (by assumption) ww<|ss.mem (i:=7) rfl)<|eN<|aD<|u2 0 rfl hk11 rfl ?_)
   refine Bo [rD my kbk x10 m11,aA m11.eb (pq m11) 225,eX a on'3 ka'4,sI al'5 l'6 cl'7,fH tl zt2<|aJ (aW ek m.ec.hi) m.ec.hi ⟨((iV m.du (hY m.ec) now h).dq21),m.ec.hi,(iV m.du (hY m.ec) now h).dq22,m.ec.hi⟩,sB sb lt lm bt my a tl mk ck ac,sA bt mc,cN mc kc,eH mk kk] rfl (bY [18] 19<|eR 1 [.ld 1,.ld 1,.ld 1,.cq<|.agg (iE<|jO m11.sh (kK m11.ec) ((m12.t.toL.head?.getD default).ka) m11.tot).toArray] (rg 0 18) [(113,.agg (iE<|jO m11.sh (kK m11.ec) ((m12.t.toL.head?.getD default).ka) m11.tot).toArray),(115,q_ m11.eb 38)] (o1<|qw<|K5 m11.sh (kK m11.ec) ((m12.t.toL.head?.getD default).ka) m11.tot) ?_)
   refine bF 18 rfl (dQ 1 (iE<|jO m11.sh (kK m11.ec) ((m12.t.toL.head?.getD default).ka) m11.tot) rfl ?_)
   refine dV<|bY [18] 19<|eR 1 [.ld 1,.ld 1,.ld 1,.cq<|.agg (vO m11 now).toArray] (rg 0 18) [(131,.agg (vO m11 now).toArray),(133,q_ m11.eb 49)] (o1<|qw<|K7 m11.li (ot m11.ec) now m11.tot) ?_
   refine bF 18 rfl (dQ 1 (vO m11 now) rfl ?_)
   refine dV<|u3 (m':=({m11 with sh:=(jO m11.sh (kK m11.ec) ((m12.t.toL.head?.getD default).ka) m11.tot),li:=(lg m11.li (ot m11.ec) now m11.tot)}:En)) [0,0] rfl hk11 ⟨rfl,rfl,rfl⟩ rfl rfl ?_
   have hk13:=ie kbk x10 ({m11 with sh:=(jO m11.sh (kK m11.ec) ((m12.t.toL.head?.getD default).ka) m11.tot),li:=(lg m11.li (ot m11.ec) now m11.tot)}:En)
   refine(aM<|jK [.w<|(k:Int)+1] [(0,p_ sb),(1,u_ now),(8,i_ m.ec.hi),(72,vS al'5 l'6 cl'7),(73,c_ l'6.length),(74,i_<|(k:Int)+1)] (o1<|wj ((k:Int)+1)<|by omega)<|bN (k+1,aJ kbk x10 ({m11 with sh:=(jO m11.sh (kK m11.ec) ((m12.t.toL.head?.getD default).ka) m11.tot),li:=(lg m11.li (ot m11.ec) now m11.tot)}:En)) ⟨(by omega),(by exact(Iq ‹_› ‹_› (by unfold ou iq;simp_all)).trans hU),(by apply ux hBk<;>first|assumption|rfl)⟩ (by(show l'6.length-(k+1)<l'6.length-k;omega)) ?_)
   exact bw [0,0,0,0,0,0,0,0] ⟨rfl,rfl,rfl,rfl,rfl,rfl,trivial⟩<|by kernel_rfl
  have p5:=Zh e5
  refine bg<|aM<|an 2 [] [(135,p_ sb),(136,i_ m.ec.hi)]<|aG<|b0 (some 137) [4,4,4,0,0,2] (zK sb lt lm bt mc kc my kbk a on'3 ka'4 tl.be mk kk ck ac m.ec.hi ‹_› ‹_› ‹_›) ?_
  rintro kk'14 hz6
  refine eE<|mi [0,0,0,0,0,2,0] [] (λ_ w r s=>trivial) (kbk,on'3,ka'4,zt2,aJ (aW ek m.ec.hi) m.ec.hi ⟨((iV m.du (hY m.ec) now h).dq21),m.ec.hi,(iV m.du (hY m.ec) now h).dq22,m.ec.hi⟩,kk'14) ?_ ?_<|by kernel_rfl
  ·rfl
  exact⟨_,.inl ⟨(by unfold ib;(simp_all;done)),rfl,rfl,by assumption⟩,.inl ⟨(by unfold qJ;(simp_all;done)),_,_,by assumption,(by rw[←hU,List.drop_eq_nil_of_le<|by omega];rfl),by assumption⟩⟩
 have p1:=Zh e1
 refine az<|aD<|aM<|aj [.rd<|aX m.ec,.cq<|LS m] [(62,b_ (!(decide (ai m.ec.la m.ec.lb m.ec.lc>1))))] (oc (ro ⟨m.eb,1,none⟩ (vs:=(aX m.ec))<|fU (λw s=>(fk (s.mem (i:=3) rfl) hm:)) rfl)<|o1<|qw<|pI m.ec)<|aL (E:= !(decide (ai m.ec.la m.ec.lb m.ec.lc>1))) rfl (λe7=>?_) (λe7=>?_)
 ·refine aF<|cP [0,0,0,0,0,0,0] [] (λ_ w r s=>trivial) (kb,on,ka,et,ek,kk) ?_ ?_<|by kernel_rfl
  ·rfl
  exact⟨_,.inr ⟨(by unfold ib;(simp_all;done)),rfl,rfl,rfl⟩,.inr ⟨(by unfold qJ;(simp_all;done)),rfl,rfl,rfl,rfl⟩⟩
 refine aO<|aC<|an 5 [.ld 0] [(67,p_ a.bs),(68,i_ m.ec.hi)]<|aG<|b0 (some 69) [4] (G4 a on ka m.ec.hi<|hdp _) ?_
 rintro⟨on'15,ka'16,al'17,l'18,cl'19,er20⟩ hz8
 dsimp only at hz8
 refine aQ [(9,vS al'17 l'18 cl'19)]<|aD<|aD ?_
 have hmem:=Jh hL hy ‹_›
 have hlen:=Ji ‹_›
 refine aM<|da [] [(0,p_ sb),(1,u_ now),(8,i_ m.ec.hi),(72,vS al'17 l'18 cl'19),(73,c_ l'18.length),(74,i_ 0)]<|aR<|fY (λ((k,kbk):Nat×(hV En))=>[(0,p_ sb),(1,u_ now),(8,i_ m.ec.hi),(72,vS al'17 l'18 cl'19),(73,c_ l'18.length),(74,c_ k)]) (λ((k,kbk):Nat×(hV En))=>[dj my kbk,eX a on'15 ka'16,sI al'17 l'18 cl'19,sB sb lt lm bt my a tl mk ck ac,sA bt mc,cN mc kc,fH tl et ek,eH mk kk]) (λ((k,kbk):Nat×(hV En))=>(k≤l'18.length)∧(kL kk now (l'18.drop k) kbk=kL kk now l'18 kb)∧(eW kc kbk)) (λ((k,kbk):Nat×(hV En))=>l'18.length-k) (0,kb) ⟨(by omega),(by rfl),hB⟩ ?_ ?_
 ·exact bw [5,0,0,0,0,0,0,0] ⟨rfl,rfl,rfl,rfl,rfl,rfl,trivial⟩<|by kernel_rfl
 rintro⟨k,kbk⟩ ⟨hk,hU,hBk⟩
 refine dW [(0,p_ sb),(1,u_ now),(8,i_ m.ec.hi),(72,vS al'17 l'18 cl'19),(73,c_ l'18.length),(74,c_ k)] [dj my kbk,eX a on'15 ka'16,sI al'17 l'18 cl'19,sB sb lt lm bt my a tl mk ck ac,sA bt mc,cN mc kc,fH tl et ek,eH mk kk] ⟨rfl,rfl,rfl,rfl,rfl,rfl,trivial⟩ rfl (aE [(74,c_ k),(75,b_<|decide ((k:Int)<(l'18.length:Int)))]<|aD<|aL (E:=decide ((k:Int)<(l'18.length:Int))) rfl (λe9=>?_) (λe9=>?_))
 ·have p9:=Zg e9
  refine az<|aR<|aC<|jJ [.ix] [(76,.pointer<|some<|(au al'17).add (k*1))] (o1<|jV 2 k dG rfl (by omega)) ?_
  obtain⟨x22,hx22⟩: ∃x,(l'18)[k]? =some x:=⟨_,Ze<|by omega⟩
  refine aj [.rd [i_ x22]] [(12,i_ x22)] (o1<|ro ((au al'17).add (k*1))<|dr (vs:=[i_ x22]) dG (bW (i:=2) rfl) hx22 (Nat.le_of_ble_eq_true rfl) rfl)<|aC<|an 5 [.ld 3] [(81,.map<|some my),(82,i_ x22)] ?_
  obtain⟨m23,hk23,hec23,hEO23⟩:=GN hBk<|hmem _<|Zd hx22
  refine aG<|cC (some 83) _ (kP (kt:=3) (et:=167) (k:=x22) (λw s=>nm<|s.mem (i:=0) rfl) hk23 rfl rfl rfl (by kernel_rfl) eG rfl)<|aQ [(13,p_ m23.eb)]<|aD ?_
  obtain⟨m24,hk24,hE24,hl24⟩:=As hL hBk hK hk23
  refine bY [] 16<|Bt 7 [.ld 3,.rd [i_ m23.ec.hp]] (rg 0 9) [(0,p_ sb),(1,u_ now),(8,i_ m.ec.hi),(72,vS al'17 l'18 cl'19),(73,c_ l'18.length),(74,c_ k),(13,p_ m23.eb),(88,.map<|some mk),(93,i_ m23.ec.hp)] (o1<|ro ⟨m23.eb,2,none⟩ (vs:=[i_ m23.ec.hp])<|fU (λww ss=>(fk (ss.mem (i:=0) rfl) hk23:)) rfl)<|lG 9 (some 94) (p_ m24.be) rfl (by kernel_rfl) (by kernel_rfl) (kP (kt:=3) (et:=136) (k:=m23.ec.hp) (λww ss=>qX<|ss.mem (i:=7) rfl) hk24 rfl rfl rfl (by kernel_rfl) eG rfl) (eR 0 [.cq<|.tuple #[u_<|(m24.t.toL.head?.getD default).ka,b_<|m24.t.toL.head?.isSome]] (rg 10 6) [(14,u_<|(m24.t.toL.head?.getD default).ka)] (o1<|qo<|λww ss=>NC mk kk m23.ec.hp m24 hk24 (by assumption) ww<|ss.mem (i:=7) rfl)<|eN<|aD<|u2 0 rfl hk23 rfl ?_)
  refine Bo [rD my kbk x22 m23,aA m23.eb (pq m23) 225,eX a on'15 ka'16,sI al'17 l'18 cl'19,sB sb lt lm bt my a tl mk ck ac,sA bt mc,cN mc kc,fH tl et ek,eH mk kk] rfl (bY [18] 19<|eR 1 [.ld 1,.ld 1,.ld 1,.cq<|.agg (iE<|jO m23.sh (kK m23.ec) ((m24.t.toL.head?.getD default).ka) m23.tot).toArray] (rg 0 18) [(113,.agg (iE<|jO m23.sh (kK m23.ec) ((m24.t.toL.head?.getD default).ka) m23.tot).toArray),(115,q_ m23.eb 38)] (o1<|qw<|K5 m23.sh (kK m23.ec) ((m24.t.toL.head?.getD default).ka) m23.tot) ?_)
  refine bF 18 rfl (dQ 1 (iE<|jO m23.sh (kK m23.ec) ((m24.t.toL.head?.getD default).ka) m23.tot) rfl ?_)
  refine dV<|bY [18] 19<|eR 1 [.ld 1,.ld 1,.ld 1,.cq<|.agg (vO m23 now).toArray] (rg 0 18) [(131,.agg (vO m23 now).toArray),(133,q_ m23.eb 49)] (o1<|qw<|K7 m23.li (ot m23.ec) now m23.tot) ?_
  refine bF 18 rfl (dQ 1 (vO m23 now) rfl ?_)
  refine dV<|u3 (m':=({m23 with sh:=(jO m23.sh (kK m23.ec) ((m24.t.toL.head?.getD default).ka) m23.tot),li:=(lg m23.li (ot m23.ec) now m23.tot)}:En)) [0,0] rfl hk23 ⟨rfl,rfl,rfl⟩ rfl rfl ?_
  have hk25:=ie kbk x22 ({m23 with sh:=(jO m23.sh (kK m23.ec) ((m24.t.toL.head?.getD default).ka) m23.tot),li:=(lg m23.li (ot m23.ec) now m23.tot)}:En)
  refine(aM<|aj [.w<|(k:Int)+1] [(74,i_<|(k:Int)+1)] (o1<|wj ((k:Int)+1)<|by omega)<|bN (k+1,aJ kbk x22 ({m23 with sh:=(jO m23.sh (kK m23.ec) ((m24.t.toL.head?.getD default).ka) m23.tot),li:=(lg m23.li (ot m23.ec) now m23.tot)}:En)) ⟨(by omega),(by exact(Iq ‹_› ‹_› (by unfold ou iq;simp_all)).trans hU),(by apply ux hBk<;>first|assumption|rfl)⟩ (by(show l'18.length-(k+1)<l'18.length-k;omega)) ?_)
  exact bw [0,0,0,0,0,0,0,0] ⟨rfl,rfl,rfl,rfl,rfl,rfl,trivial⟩<|by kernel_rfl
 have p9:=Zh e9
 refine bg<|aM<|an 2 [] [(135,p_ sb),(136,i_ m.ec.hi)]<|aG<|b0 (some 137) [3,3,3,0,0,2] (zK sb lt lm bt mc kc my kbk a on'15 ka'16 tl.be mk kk ck ac m.ec.hi ‹_› ‹_› ‹_›) ?_
 rintro kk'26 hz10
 refine eE<|mi [0,0,0,0,0,2,0] [] (λ_ w r s=>trivial) (kbk,on'15,ka'16,et,ek,kk'26) ?_ ?_<|by kernel_rfl
 ·rfl
 exact⟨_,.inr ⟨(by unfold ib;(simp_all;done)),rfl,rfl,rfl⟩,.inl ⟨(by unfold qJ;(simp_all;done)),_,_,by assumption,(by rw[←hU,List.drop_eq_nil_of_le<|by omega];rfl),by assumption⟩⟩
def mU(kk:List (Int×Vt))(now:Int)(i:Int):Option It:=dc (cF now 9223372036854775807)<|((aB kk i).map λv:Vt=>v.t.toL).getD []
theorem zL(h:aB kk i=some v):dc (cF now 9223372036854775807) v.t.toL=mU kk now i:=by unfold mU;rw[h];rfl
def qh(kb:List (Int×En))(i:Int):Bool:=((aB kb i).map λm:En=>m.ec.hl).getD false
def qY(kb:List (Int×En))(kk:List (Int×Vt))(now:Int):Nat→Int→Prop
 |0,_=>False
 |f+1,i=>(∃v,aB kk i=some v∧dX v.t v.kv)∧ ∀y,mU kk now i=some y→ ∃m,aB kb y.ki=some m∧(m.ec.hl=true∨qY kb kk now f y.ki)
def jQ(kb:List (Int×En))(kk:List (Int×Vt))(now:Int):Nat→Int→Option Int
 |0,_=>none
 |f+1,i=>match mU kk now i with
  |none=>none
  |some y=>if qh kb y.ki then some y.ki else jQ kb kk now f y.ki
variable{f:Nat}
theorem Pe(hk:aB kk i=some v)(h:(dc (cF now 9223372036854775807) v.t.toL).isSome=false):jQ kb kk now (f+1) i=none:=by
 rw[zL hk] at h
 unfold jQ;cases e:mU kk now i with
 |none=>rfl
 |some y=>rw[e] at h;cases h
theorem Pg(hk:aB kk i=some v)(h:(dc (cF now 9223372036854775807) v.t.toL).isSome=true)(hm:aB kb ((dc (cF now 9223372036854775807) v.t.toL).getD default).ki=some m)(hl:m.ec.hl=true):jQ kb kk now (f+1) i=some ((dc (cF now 9223372036854775807) v.t.toL).getD default).ki:=by
 rw[zL hk] at h hm⊢
 unfold jQ;cases e:mU kk now i with
 |none=>rw[e] at h;cases h
 |some y=>rw[e] at hm;simp only[Option.getD_some] at hm⊢;unfold qh;rw[hm];simp[hl]
theorem Jj(hk:aB kk i=some v)(h:(dc (cF now 9223372036854775807) v.t.toL).isSome=true)(hm:aB kb ((dc (cF now 9223372036854775807) v.t.toL).getD default).ki=some m)(hl:m.ec.hl=false)(hd:qY kb kk now (f+1) i):jQ kb kk now (f+1) i=jQ kb kk now f ((dc (cF now 9223372036854775807) v.t.toL).getD default).ki∧qY kb kk now f ((dc (cF now 9223372036854775807) v.t.toL).getD default).ki:=by
 rw[zL hk] at h hm⊢
 cases e:mU kk now i with
 |none=>rw[e] at h;cases h
 |some y=>
  rw[e] at hm;simp only[Option.getD_some] at hm⊢
  obtain⟨m2,h1,h2⟩:=hd.2 y e
  rw[hm] at h1;cases h1
  rw[hl] at h2
  refine⟨?_,h2.resolve_left<|by simp⟩
  conv=>lhs;unfold jQ
  rw[e];unfold qh;simp[hm,hl]
theorem TD(hk:aB kk i=some v)(h:(dc (cF now 9223372036854775807) v.t.toL).isSome=true)(hd:qY kb kk now (f+1) i): ∃m,aB kb ((dc (cF now 9223372036854775807) v.t.toL).getD default).ki=some m:=by
 rw[zL hk] at h⊢
 cases e:mU kk now i with
 |none=>rw[e] at h;cases h
 |some y=>obtain⟨m,h1,-⟩:=hd.2 y e;exact⟨m,h1⟩
def Nn(o:Option Int):Int×Bool×Bool:=match o with|some i=>(i,false,true)|none=>(0,false,false)
def dm(et:T)(kb:List (Int×En))(kk:List (Int×Vt))(now:Int):Int×Bool×Bool:=
 match eC (cF now 9223372036854775807) et.toL with
 |some y=>(y.ki,true,true)
 |none=>Nn<|jQ kb kk now 17 0
variable{et:T}
theorem TE(h:(eC (cF now 9223372036854775807) et.toL).isSome=true):dm et kb kk now=(((eC (cF now 9223372036854775807) et.toL).getD default).ki,true,true):=by
 unfold dm;cases e:eC (cF now 9223372036854775807) et.toL with
 |none=>rw[e] at h;cases h
 |some y=>rfl
theorem Jk{o:Option Int}(h:(eC (cF now 9223372036854775807) et.toL).isSome=false)(hd:jQ kb kk now 17 0=o):dm et kb kk now=Nn o:=by
 subst hd;unfold dm;cases e:eC (cF now 9223372036854775807) et.toL with
 |none=>rfl
 |some y=>rw[e] at h;cases h
theorem Qk(sb:Nat)(lt lm:Int)(bt mc:Nat)(kc:hV Cl)(my:Nat)(kb:hV En)(a:Ac)(on:hV Int)(ka:hV MB)(tl:Vt)(et:T)(ek:hV It)(mk:Nat)(kk:hV Vt)(ck ac:Int)(now:Int)(hE:dX et ek)(hD:qY kb kk now 17 0)(w:World)(r0:(aA sb [i_ lt,i_ lm,p_ bt,.map<|some my,p_ a.bs,p_ tl.be,.map<|some mk,u_ ck,u_ ac] 141).holds w)(r1:(aA bt [.map<|some mc] 185).holds w)(r2:(cN mc kc).holds w)(r3:(dj my kb).holds w)(r4:(eX a on ka).holds w)(r5:(fH tl et ek).holds w)(r6:(eH mk kk).holds w):
  CW 152 #[p_ sb,u_ now] w (.tuple #[i_<|(dm et kb kk now).1,b_<|(dm et kb kk now).2.1,b_<|(dm et kb kk now).2.2]):=by
 refine aU Tryz.func152 rfl (HS.nil w) (aE []<|aD<|dF [.rd [p_ tl.be],.cq<|.tuple #[i_<|((eC (cF now 9223372036854775807) et.toL).getD default).ki,b_<|(eC (cF now 9223372036854775807) et.toL).isSome]] [(7,i_<|((eC (cF now 9223372036854775807) et.toL).getD default).ki),(8,b_<|(eC (cF now 9223372036854775807) et.toL).isSome)] (oc (ro ⟨sb,5,none⟩ (vs:=[p_ tl.be])<|cE r0 rfl)<|o1<|qo<|λw s=>V8 tl et ek now ‹_› w (bK s r5))<|aE [(21,b_<|(eC (cF now 9223372036854775807) et.toL).isSome)]<|aL rfl (λe1=>?_) (λe1=>?_))
 ·refine aE [(4,i_<|((eC (cF now 9223372036854775807) et.toL).getD default).ki),(5,b_ true),(6,b_ true)]<|aF<|bJ [i_<|((eC (cF now 9223372036854775807) et.toL).getD default).ki,b_ true,b_ true] ?_
  show((.tuple #[i_<|((eC (cF now 9223372036854775807) et.toL).getD default).ki,b_ true,b_ true]):Value)=(.tuple #[i_<|(dm et kb kk now).1,b_<|(dm et kb kk now).2.1,b_<|(dm et kb kk now).2.2])
  (rw[TE<|by(simp_all;done)];done)
 refine aO<|aE [(9,i_ 0)]<|aR<|iC (σ:=Nat×Int) [] (λ(n,i)=>[(9,i_ i)]) [] (λ(n,i)=>[]) (λ(n,i)=>(qY kb kk now n i)∧(jQ kb kk now n i=jQ kb kk now 17 0)) (λ(n,i)=>n) (17,0) ⟨hD,(by rfl)⟩ ?_ ?_
 ·exact cX []
 rintro⟨n,i⟩ ⟨hd,hv⟩
 obtain⟨n,rfl⟩: ∃m,n=m+1:=by cases n with|zero=>exact hd.elim|succ m=>exact⟨m,rfl⟩
 refine aR<|aC<|eI 5 [.rd [.map<|some mk]] [(27,.map<|some mk),(28,i_ i)] (o1<|ro ⟨sb,6,none⟩ (vs:=[.map<|some mk])<|cE r0 rfl) ?_
 obtain⟨m1,hk1,hER1⟩:=hd.1
 refine aG<|cC (some 29) _ (kP (kt:=3) (et:=136) (k:=i) (λw s=>qX<|bK s r6) hk1 rfl rfl rfl (by kernel_rfl) eG rfl)<|aj [.cq<|.tuple #[i_<|((dc (cF now 9223372036854775807) m1.t.toL).getD default).ki,b_<|(dc (cF now 9223372036854775807) m1.t.toL).isSome]] [(10,i_<|((dc (cF now 9223372036854775807) m1.t.toL).getD default).ki),(11,b_<|(dc (cF now 9223372036854775807) m1.t.toL).isSome)] (o1<|qo<|λw s=>V6 mk kk i m1 now hk1 ‹_› w (bK s r6))<|aD<|aE [(35,b_ (!((dc (cF now 9223372036854775807) m1.t.toL).isSome)))]<|aL rfl (λe2=>?_) (λe2=>?_)
 ·refine aE [(4,i_ 0),(5,b_ false),(6,b_ false)] (aF<|bJ [i_ 0,b_ false,b_ false] ?_)
  (rw[Jk (by(simp_all;done))<|hv.symm.trans<|Pe ‹_› (by(simp_all;done))];rfl)
 refine aO<|aE [(9,i_<|((dc (cF now 9223372036854775807) m1.t.toL).getD default).ki)]<|aC<|eI 5 [.rd [.map<|some my]] [(40,.map<|some my),(41,i_<|((dc (cF now 9223372036854775807) m1.t.toL).getD default).ki)] (o1<|ro ⟨sb,3,none⟩ (vs:=[.map<|some my])<|cE r0 rfl) ?_
 obtain⟨m2,hk2⟩:=TD ‹_› (by simp_all) hd
 refine aG<|cC (some 42) _ (kP (kt:=3) (et:=167) (k:=((dc (cF now 9223372036854775807) m1.t.toL).getD default).ki) (λw s=>nm<|bK s r3) hk2 rfl rfl rfl (by kernel_rfl) eG rfl)<|aj [.rd [b_ m2.ec.hl]] [(46,b_ m2.ec.hl)] (o1<|ro ⟨m2.eb,3,none⟩ (vs:=[b_ m2.ec.hl])<|fU (λw s=>(fk (bK s r3) hk2:)) rfl)<|aL rfl (λe3=>?_) (λe3=>?_)
 ·refine aE [(4,i_<|((dc (cF now 9223372036854775807) m1.t.toL).getD default).ki),(5,b_ false),(6,b_ true)] (aF<|bJ [i_<|((dc (cF now 9223372036854775807) m1.t.toL).getD default).ki,b_ false,b_ true] ?_)
  (rw[Jk (by(simp_all;done))<|hv.symm.trans<|Pg ‹_› (by(simp_all;done)) ‹_› ‹_›];rfl)
 refine aO<|bN (n,((dc (cF now 9223372036854775807) m1.t.toL).getD default).ki) ⟨((Jj ‹_› (by simp_all) ‹_› (by simp_all) hd).2),((Jj ‹_› (by simp_all) ‹_› (by simp_all) hd).1.symm.trans hv)⟩ (by(show n<n+1;omega)) ?_
 exact cX []
def yH(ek:List (Int×It))(i:Int)(d:Du):List (Int×It):=aJ (aW ek i) i ⟨d.dq21,i,d.dq22,i⟩
def Ya(m:En)(sn:Int)(br:Bool):Du:=if br=true then iN m.du sn (dx m.qb m.q) else headD m.du<|dx m.qb m.q
def uT(i:Int)(m:En)(sn:Int)(br:Bool)(kb:List (Int×En))(et:T)(ek:List (Int×It))(kb':List (Int×En))(et':T)(ek':List (Int×It)):Prop:=
 (ib m.ec=true∧ ∃d,kb'=aJ kb i {m with du:=d}∧dX et' ek'∧((qC m.q≠[]∧ek'=yH ek m.ec.hi d)∨(qC m.q=[]∧ek'=aW (yH ek m.ec.hi d) m.ec.hi))∧d=Ya m sn br)∨(ib m.ec=false∧kb'=kb∧et'=et∧ek'=ek)
theorem wk(k:Int): ∀kv:List (Int×β),(aW kv k).length≤kv.length
 |[]=>by simp[aW]
 |p::kv=>by unfold aW;split<;>simp;exact wk k kv
theorem ER(ek:hV It)(i:Int)(d:It):(aJ (aW ek i) i d).length≤ek.length+1:=Nat.le_trans (D8 _ _ _) (by have:=wk i ek;omega)
variable{q:Qu}
theorem vj:((qC q).length:Int)=0↔qC q=[]:=by simp
abbrev LU(p0)(p1):=(aA p0 [.map<|some p1] 185:V.aI)
abbrev LV(p0)(p1)(p2)(p3)(p4)(p5:Ac)(p6:Vt)(p7)(p8)(p9):=(aA p0 [i_ p1,i_ p2,p_ p3,.map<|some p4,p_ p5.bs,p_ p6.be,.map<|some p7,u_ p8,u_ p9] 141:V.aI)
theorem X6(sb:Nat)(lt lm:Int)(bt mc:Nat)(kc:hV Cl)(my:Nat)(kb:hV En)(a:Ac)(on:hV Int)(ka:hV MB)(tl:Vt)(et:T)(ek:hV It)(mk:Nat)(kk:hV Vt)(ck ac:Int)(i:Int)(m:En)(sn:Int)(br:Bool)(hm:aB kb i=some m)(ho:lE m)(hE:dX et ek)(hl:ek.length≤600):
  CS 156 #[p_ sb,p_ m.eb,i_ sn,b_ br] [LV sb lt lm bt my a tl mk ck ac,LU bt mc,cN mc kc,dj my kb,eX a on ka,fH tl et ek,eH mk kk] (λ((kb',et',ek'):(hV En)×T×(hV It))=>(.tuple #[])) (λ(kb',et',ek')=>uT i m sn br kb et ek kb' et' ek') λ(kb',et',ek')=>[LV sb lt lm bt my a tl mk ck ac,LU bt mc,cN mc kc,dj my kb',eX a on ka,fH tl et' ek',eH mk kk]:=by
 intro w hs
 have hlk:=λi d=>ER ek i d
 refine aU Tryz.func156 rfl hs (aD<|dF [.rd<|aX m.ec,.cq<|b_<|decide (ai m.ec.ra m.ec.rb m.ec.rc>1)] [(13,b_ (!(decide (ai m.ec.ra m.ec.rb m.ec.rc>1))))] (oc (ro ⟨m.eb,1,none⟩ (vs:=(aX m.ec))<|fU (λw s=>(fk (s.mem (i:=3) rfl) hm:)) rfl)<|o1<|qw<|tL m.ec)<|aL rfl (λe1=>?_) (λe1=>?_))
 ·refine aF<|cP [0,0,0,0,0,0,0] [] (λ_ w r s=>trivial) (kb,et,ek) ?_ ?_<|by kernel_rfl
  ·rfl
  exact .inr ⟨(by unfold ib;(simp_all;done)),rfl,rfl,rfl⟩
 refine az<|aE [(14,b_ br)]<|iD br (λe2=>?_)<|λe2=>?_
 ·refine u2 3 rfl hm rfl (bY [14] 15<|eR 1 [.ld 1,.ld 1,.cq<|i_<|dx m.qb m.q,.cq<|.agg (fO<|iN m.du sn<|dx m.qb m.q).toArray] (rg 0 14) [(26,.agg (fO<|iN m.du sn<|dx m.qb m.q).toArray),(28,q_ m.eb 16)] (oc (qo<|λw s=>Jb my kb i m (qp m.qb) (by rfl) ‹_› w (s.mem (i:=0) rfl))<|o1<|qw<|Ua m.du sn<|dx m.qb m.q)<|bF 14 rfl (dQ 1 (fO<|iN m.du sn<|dx m.qb m.q) rfl (dV<|u3 (m':=({m with du:=(iN m.du sn<|dx m.qb m.q)}:En)) [0,0] rfl hm ⟨rfl,rfl,rfl⟩ rfl rfl ?_)))
  have hk1:=ie kb i ({m with du:=(iN m.du sn<|dx m.qb m.q)}:En)
  refine aD<|bY [19] 20<|eR 1 [.ld 1,.rd [i_ m.ec.hi],.rd [u_<|(iN m.du sn<|dx m.qb m.q).dq21],.rd [u_<|(iN m.du sn<|dx m.qb m.q).dq22]] (rg 0 19) [(45,p_ tl.be),(50,i_ m.ec.hi),(55,u_<|(iN m.du sn<|dx m.qb m.q).dq21),(60,u_<|(iN m.du sn<|dx m.qb m.q).dq22)] (oc (ro ⟨m.eb,1,none⟩ (vs:=[i_ m.ec.hi])<|fU (λw s=>(fk (s.mem (i:=0) rfl) hk1:)) rfl)<|oc (ro ⟨m.eb,36,none⟩ (vs:=[u_<|(iN m.du sn<|dx m.qb m.q).dq21])<|fU (λw s=>(fk (s.mem (i:=0) rfl) hk1:)) rfl)<|o1<|ro ⟨m.eb,37,none⟩ (vs:=[u_<|(iN m.du sn<|dx m.qb m.q).dq22])<|fU (λw s=>(fk (s.mem (i:=0) rfl) hk1:)) rfl)<|bF 19 rfl (b0 (some 61) [5] (GL tl et ek m.ec.hi ((iN m.du sn<|dx m.qb m.q).dq21) ((iN m.du sn<|dx m.qb m.q).dq22) (by assumption)<|by omega) ?_)
  rintro zt2 hz3
  refine cb<|eN<|dF [.rd [qp m.qb],.cq<|i_ ((qC ({m with du:=(iN m.du sn<|dx m.qb m.q)}:En).q).length:Int)] [(67,b_<|((qC ({m with du:=(iN m.du sn<|dx m.qb m.q)}:En).q).length:Int)==0)] (oc (ro ⟨m.eb,0,none⟩ (vs:=[qp m.qb])<|fU (λw s=>(fk (s.mem (i:=1) rfl) hk1:)) rfl)<|o1<|qo<|λw s=>xr my (aJ kb i ({m with du:=(iN m.du sn<|dx m.qb m.q)}:En)) i ({m with du:=(iN m.du sn<|dx m.qb m.q)}:En) (qp m.qb) hk1 (by rfl) ⟨ho.lf,ho.no,ho.qu⟩ w<|s.mem (i:=1) rfl)<|aL rfl (λe4=>?_) (λe4=>?_)
  ·refine bY [9] 10<|eR 1 [.ld 2,.rd [i_ m.ec.hi]] (rg 0 9) [(71,p_ tl.be),(76,i_ m.ec.hi)] (o1<|ro ⟨m.eb,1,none⟩ (vs:=[i_ m.ec.hi])<|fU (λw s=>(fk (s.mem (i:=1) rfl) hk1:)) rfl)<|bF 9 rfl (b0 (some 77) [0] (LM tl zt2 (aJ (aW ek m.ec.hi) m.ec.hi ⟨((iN m.du sn<|dx m.qb m.q).dq21),m.ec.hi,(iN m.du sn<|dx m.qb m.q).dq22,m.ec.hi⟩) m.ec.hi ‹_› (Nat.le_trans (ER _ _ _)<|by omega)) ?_)
   rintro⟨zi3,zt4⟩ hz5
   refine cb<|eN<|mi [2,2,2,1,1,0,0] [] (λ_ w r s=>trivial) ((aJ kb i ({m with du:=(iN m.du sn<|dx m.qb m.q)}:En)),zt4,aW (aJ (aW ek m.ec.hi) m.ec.hi ⟨((iN m.du sn<|dx m.qb m.q).dq21),m.ec.hi,(iN m.du sn<|dx m.qb m.q).dq22,m.ec.hi⟩) m.ec.hi) ?_ ?_<|by kernel_rfl
   ·rfl
   exact .inl ⟨(by unfold ib;(simp_all;done)),_,rfl,by assumption,.inr ⟨(by(simp_all[vj];done)),rfl⟩,(if_pos e2).symm⟩
  refine aO<|mi [2,2,2,1,1,0,0] [] (λ_ w r s=>trivial) ((aJ kb i ({m with du:=(iN m.du sn<|dx m.qb m.q)}:En)),zt2,aJ (aW ek m.ec.hi) m.ec.hi ⟨((iN m.du sn<|dx m.qb m.q).dq21),m.ec.hi,(iN m.du sn<|dx m.qb m.q).dq22,m.ec.hi⟩) ?_ ?_<|by kernel_rfl
  ·rfl
  exact .inl ⟨(by unfold ib;(simp_all;done)),_,rfl,by assumption,.inl ⟨(by(simp_all[vj];done)),rfl⟩,(if_pos e2).symm⟩
 refine u2 3 rfl hm rfl (bY [13] 14<|eR 1 [.ld 1,.ld 1,.cq<|i_<|dx m.qb m.q,.cq<|.agg (fO<|headD m.du<|dx m.qb m.q).toArray] (rg 0 13) [(39,.agg (fO<|headD m.du<|dx m.qb m.q).toArray),(41,q_ m.eb 16)] (oc (qo<|λw s=>Jb my kb i m (qp m.qb) (by rfl) ‹_› w (s.mem (i:=0) rfl))<|o1<|qw<|Ub m.du<|dx m.qb m.q)<|bF 13 rfl (dQ 1 (fO<|headD m.du<|dx m.qb m.q) rfl (dV<|u3 (m':=({m with du:=(headD m.du<|dx m.qb m.q)}:En)) [0,0] rfl hm ⟨rfl,rfl,rfl⟩ rfl rfl ?_)))
 have hk5:=ie kb i ({m with du:=(headD m.du<|dx m.qb m.q)}:En)
 refine aD<|bY [19] 20<|eR 1 [.ld 1,.rd [i_ m.ec.hi],.rd [u_<|(headD m.du<|dx m.qb m.q).dq21],.rd [u_<|(headD m.du<|dx m.qb m.q).dq22]] (rg 0 19) [(45,p_ tl.be),(50,i_ m.ec.hi),(55,u_<|(headD m.du<|dx m.qb m.q).dq21),(60,u_<|(headD m.du<|dx m.qb m.q).dq22)] (oc (ro ⟨m.eb,1,none⟩ (vs:=[i_ m.ec.hi])<|fU (λw s=>(fk (s.mem (i:=0) rfl) hk5:)) rfl)<|oc (ro ⟨m.eb,36,none⟩ (vs:=[u_<|(headD m.du<|dx m.qb m.q).dq21])<|fU (λw s=>(fk (s.mem (i:=0) rfl) hk5:)) rfl)<|o1<|ro ⟨m.eb,37,none⟩ (vs:=[u_<|(headD m.du<|dx m.qb m.q).dq22])<|fU (λw s=>(fk (s.mem (i:=0) rfl) hk5:)) rfl)<|bF 19 rfl (b0 (some 61) [5] (GL tl et ek m.ec.hi ((headD m.du<|dx m.qb m.q).dq21) ((headD m.du<|dx m.qb m.q).dq22) (by assumption)<|by omega) ?_)
 rintro zt6 hz6
 refine cb<|eN<|dF [.rd [qp m.qb],.cq<|i_ ((qC ({m with du:=(headD m.du<|dx m.qb m.q)}:En).q).length:Int)] [(67,b_<|((qC ({m with du:=(headD m.du<|dx m.qb m.q)}:En).q).length:Int)==0)] (oc (ro ⟨m.eb,0,none⟩ (vs:=[qp m.qb])<|fU (λw s=>(fk (s.mem (i:=1) rfl) hk5:)) rfl)<|o1<|qo<|λw s=>xr my (aJ kb i ({m with du:=(headD m.du<|dx m.qb m.q)}:En)) i ({m with du:=(headD m.du<|dx m.qb m.q)}:En) (qp m.qb) hk5 (by rfl) ⟨ho.lf,ho.no,ho.qu⟩ w<|s.mem (i:=1) rfl)<|aL rfl (λe7=>?_) (λe7=>?_)
 ·refine bY [9] 10<|eR 1 [.ld 2,.rd [i_ m.ec.hi]] (rg 0 9) [(71,p_ tl.be),(76,i_ m.ec.hi)] (o1<|ro ⟨m.eb,1,none⟩ (vs:=[i_ m.ec.hi])<|fU (λw s=>(fk (s.mem (i:=1) rfl) hk5:)) rfl)<|bF 9 rfl (b0 (some 77) [0] (LM tl zt6 (aJ (aW ek m.ec.hi) m.ec.hi ⟨((headD m.du<|dx m.qb m.q).dq21),m.ec.hi,(headD m.du<|dx m.qb m.q).dq22,m.ec.hi⟩) m.ec.hi ‹_› (Nat.le_trans (ER _ _ _)<|by omega)) ?_)
  rintro⟨zi7,zt8⟩ hz8
  refine cb<|eN<|mi [2,2,2,1,1,0,0] [] (λ_ w r s=>trivial) ((aJ kb i ({m with du:=(headD m.du<|dx m.qb m.q)}:En)),zt8,aW (aJ (aW ek m.ec.hi) m.ec.hi ⟨((headD m.du<|dx m.qb m.q).dq21),m.ec.hi,(headD m.du<|dx m.qb m.q).dq22,m.ec.hi⟩) m.ec.hi) ?_ ?_<|by kernel_rfl
  ·rfl
  exact .inl ⟨(by unfold ib;(simp_all;done)),_,rfl,by assumption,.inr ⟨(by(simp_all[vj];done)),rfl⟩,(if_neg (by rw[e2];exact Bool.false_ne_true)).symm⟩
 refine aO<|mi [2,2,2,1,1,0,0] [] (λ_ w r s=>trivial) ((aJ kb i ({m with du:=(headD m.du<|dx m.qb m.q)}:En)),zt6,aJ (aW ek m.ec.hi) m.ec.hi ⟨((headD m.du<|dx m.qb m.q).dq21),m.ec.hi,(headD m.du<|dx m.qb m.q).dq22,m.ec.hi⟩) ?_ ?_<|by kernel_rfl
 ·rfl
 exact .inl ⟨(by unfold ib;(simp_all;done)),_,rfl,by assumption,.inl ⟨(by(simp_all[vj];done)),rfl⟩,(if_neg (by rw[e2];exact Bool.false_ne_true)).symm⟩
def lF:Sh:=⟨false,0,0,0,0,0,0,0,0,false,0⟩
def qt(kb kb':List (Int×En)):Prop:=(∀j,(aB kb' j).map (λm:En=>{m with sh:=lF})=(aB kb j).map (λm:En=>{m with sh:=lF}))∧ ∀j m',aB kb' j=some m'→m'.sh=lF∨ ∃m,aB kb j=some m∧m'.sh=m.sh
variable{kb':hV En}
theorem Ql(h:qt kb kb')(hm:aB kb' i=some m)(e:{m' with sh:=lF}={m with sh:=lF})(e2:m'.sh=lF):qt kb (aJ kb' i m'):=by
 refine⟨λj=>?_,λj x hx=>?_⟩
 ·rw[←h.1 j,ed];by_cases q:i=j
  ·rw[if_pos q];subst q;rw[hm];simp[e]
  ·rw[if_neg q]
 ·rw[ed] at hx;by_cases q:i=j
  ·rw[if_pos q] at hx;cases hx;exact .inl e2
  ·rw[if_neg q] at hx;exact h.2 j x hx
theorem Jl(hL:cB kc): ∀(n:Nat)(i:Int)(F:Int→hV Int),eA kc i=true→ ∀z∈(fV (eu kc) F n i).1,eA kc z=true
 |0,i,F,hs,z,hz=>by simp[fV] at hz;rw[hz];exact hs
 |n+1,i,F,hs,z,hz=>by
  unfold fV at hz
  split at hz
  ·simp at hz;rw[hz];exact hs
  ·rename_i hp
   rcases List.mem_cons.1 hz with rfl|hz
   ·exact hs
   ·refine Jl hL n _ _ ?_ z hz
    rw[xB,if_pos hs] at hp⊢
    rcases uB hL hs with h0|h0
    ·exact absurd (.inr h0) hp
    ·exact h0.1
theorem Qm(hL:cB kc)(hy:ym=eu kc)(h:vr ym on ka c on' ka' l er): ∀z∈l,eA kc z=true:=by
 intro z hz
 rcases h with⟨h1,-,-,h2,-⟩|⟨-,-,h2,-⟩
 ·rw[hy] at h1 h2
  rw[h2] at hz
  refine Jl hL 40 c _ ?_ z hz
  rw[xQ] at h1;simp at h1;exact h1.1
 ·rw[h2] at hz;cases hz
theorem Qn(h:vr ym on ka c on' ka' l er):l.length≤41:=by
 have: ∀(n:Nat)(i:Int)(F:Int→hV Int),(fV ym F n i).1.length≤n+1:=λn=>by
  induction n with
  |zero=>intro i F;simp[fV]
  |succ n ih=>intro i F;unfold fV;split<;>simp;exact ih _ _
 rcases h with⟨-,-,-,h2,-⟩|⟨-,-,h2,-⟩
 ·rw[h2];exact this 40 _ _
 ·rw[h2];simp
def og(kc:List (Int×Cl)):List Int→List (Int×Vt)→List (Int×Vt)→Prop
 |[],kk,kk'=>kk'=kk
 |i::l,kk,kk'=> ∃c v t,aB kc i=some c∧aB kk c.hp=some v∧dX t (aW v.kv i)∧og kc l (aJ kk c.hp {v with t:=t,kv:=aW v.kv i}) kk'
theorem IE{c:Cl}(hk:L[k]? =some i)(hc:aB kc i=some c)(hv:aB kk c.hp=some v)(he:dX t (aW v.kv i))
  (h:og kc (L.drop<|k+1) (aJ kk c.hp {v with t:=t,kv:=aW v.kv i}) kk'):og kc (L.drop k) kk kk':=by
 obtain⟨h1,h2⟩:=Zf.1 hk
 rw[List.drop_eq_getElem_cons h1,h2];exact⟨c,v,t,hc,hv,he,h⟩
theorem Jm(h:kF kc n kk){p:Int}(he:dX v.t v.kv)(hl:v.kv.length≤n):kF kc n (aJ kk p v):=λq hq=>by
 rw[ed];by_cases e:p=q
 ·rw[if_pos e];exact⟨v,rfl,he,hl⟩
 ·rw[if_neg e];exact h q hq
theorem NG{f:Cl→Bool}(hB:eW kc kb)(h:(aV kc f)[k]? =some z): ∃m,aB kb z=some m:=by
 have h:=Zd h
 unfold aV gb at h;rw[(List.mergeSort_perm _ _).mem_iff,List.mem_map] at h
 obtain⟨p,h1,h2⟩:=h
 cases e:aB kb z with
 |some m=>exact⟨m,rfl⟩
 |none=>
  have h3:=(hB z).1;rw[e] at h3
  have h4:aB kc z≠none:=λh5=>mget_no h5 p (List.mem_filter.1 h1).1 h2
  exact absurd h3.symm h4
where
 mget_no {kc:List (Int×Cl)} {z:Int} (h:aB kc z=none): ∀p∈kc,p.1≠z:=by
  induction kc with
  |nil=>intro p hp;cases hp
  |cons q kc ih=>
   intro p hp
   simp only[aB] at h
   split at h
   ·cases h
   ·rename_i hq
    rcases List.mem_cons.1 hp with rfl|hp
    ·exact hq
    ·exact ih h p hp
def oQ:List Int→List (Int×En)→List (Int×En)
 |[],kb=>kb
 |c::l,kb=>oQ l (match aB kb c with|some m=>aJ kb c {m with sh:=lF}|none=>kb)
theorem Qo(hk:L[k]? =some i)(hm:aB kb i=some m):oQ (L.drop<|k+1) (aJ kb i {m with sh:=lF})=oQ (L.drop k) kb:=by
 obtain⟨h1,h2⟩:=Zf.1 hk
 rw[List.drop_eq_getElem_cons h1,h2,oQ,hm]
def qj(kc:List (Int×Cl)):List Int→List (Int×En)→List (Int×Vt)→List (Int×En)→Prop
 |[],kb,_,kb'=>kb'=kb
 |i::l,kb,kk,kb'=> ∃c v t,aB kc i=some c∧aB kk c.hp=some v∧qj kc l (if(aW v.kv i).length=0 then oQ (aV kc λv_=>v_.hp==c.hp) kb else kb) (aJ kk c.hp {v with t:=t,kv:=aW v.kv i}) kb'
theorem H8{c:Cl}{kb1:hV En}(hk:L[k]? =some i)(hc:aB kc i=some c)(hv:aB kk c.hp=some v)(e:(if(aW v.kv i).length=0 then oQ (aV kc λv_=>v_.hp==c.hp) kb else kb)=kb1)(h:qj kc (L.drop<|k+1) kb1 (aJ kk c.hp {v with t:=t,kv:=aW v.kv i}) kb'):qj kc (L.drop k) kb kk kb':=by
 obtain⟨h1,h2⟩:=Zf.1 hk
 rw[List.drop_eq_getElem_cons h1,h2];exact⟨c,v,t,hc,hv,e▸h⟩
def Av(kc:List (Int×Cl))(i:Int)(kb:List (Int×En))(ym:List (Int×Pl))(on:List (Int×Int))(ka:List (Int×MB))(kk:List (Int×Vt))(kb':List (Int×En))(on':List (Int×Int))(ka':List (Int×MB))(kk':List (Int×Vt)):Prop:=
 ∃l er,vr ym on ka i on' ka' l er∧qt kb kb'∧eW kc kb'∧og kc l kk kk'∧qj kc l kb kk kb'
abbrev vP(p0)(p1):=(aA p0 [.map<|some p1] 185:V.aI)
abbrev vQ(p0)(p1)(p2)(p3)(p4)(p5:Ac)(p6:Vt)(p7)(p8)(p9):=(aA p0 [i_ p1,i_ p2,p_ p3,.map<|some p4,p_ p5.bs,p_ p6.be,.map<|some p7,u_ p8,u_ p9] 141:V.aI)
theorem TF(sb:Nat)(lt lm:Int)(bt mc:Nat)(kc:hV Cl)(my:Nat)(kb:hV En)(a:Ac)(on:hV Int)(ka:hV MB)(tl:Vt)(et:T)(ek:hV It)(mk:Nat)(kk:hV Vt)(ck ac:Int)(ci:Int)(hL:cB kc)(hB:eW kc kb)(hK:kF kc 600 kk)(hy:a.ym=eu kc):
  CS 157 #[p_ sb,i_ ci] [vQ sb lt lm bt my a tl mk ck ac,vP bt mc,cN mc kc,dj my kb,eX a on ka,fH tl et ek,eH mk kk] (λ((kb',on',ka',kk'):(hV En)×(hV Int)×(hV MB)×(hV Vt))=>(.tuple #[])) (λ(kb',on',ka',kk')=>Av kc ci kb a.ym on ka kk kb' on' ka' kk') λ(kb',on',ka',kk')=>[vQ sb lt lm bt my a tl mk ck ac,vP bt mc,cN mc kc,dj my kb',eX a on' ka',fH tl et ek,eH mk kk']:=by
 intro w hs
 have hdp:=λi=>hy▸we hL i
 have hkl:=hL.len
 refine aU Tryz.func157 rfl hs (aC<|an 5 [.ld 0] [(15,p_ a.bs),(16,i_ ci)]<|aG<|b0 (some 17) [4] (X2 a on ka ci<|hdp _) ?_)
 rintro⟨on'1,ka'2,al'3,l'4,cl'5,er6⟩ hz1
 dsimp only at hz1
 refine aQ [(4,vS al'3 l'4 cl'5),(5,i_ er6)]<|aD<|aE [(21,b_<|er6 !=0)]<|aL (E:=er6 !=0) rfl (λe2=>?_) (λe2=>?_)
 ·refine aF<|cP [2,2,2,2,0,1,1] [] (λ_ w r s=>trivial) (kb,on'1,ka'2,kk) ?_ ?_<|by kernel_rfl
  ·rfl
  exact⟨_,_,by assumption,⟨λ_=>rfl,λ_ _ h_=> .inr ⟨_,h_,rfl⟩⟩,hB,(by(rcases(by assumption:vr _ _ _ _ _ _ _ _) with⟨_,_,h_,_⟩|⟨_,_,h_,_⟩<;>simp_all[og,qj];done))⟩
 refine az ?_
 have hmem:=Qm hL hy ‹_›
 have hlen:=Qn ‹_›
 refine bZ [(22,vS al'3 l'4 cl'5),(23,c_ l'4.length),(24,i_ 0)]<|aR<|fY (λ((k,kbk,kkk):Nat×(hV En)×(hV Vt))=>[(0,p_ sb),(22,vS al'3 l'4 cl'5),(23,c_ l'4.length),(24,c_ k)]) (λ((k,kbk,kkk):Nat×(hV En)×(hV Vt))=>[dj my kbk,eH mk kkk,eX a on'1 ka'2,sI al'3 l'4 cl'5,vQ sb lt lm bt my a tl mk ck ac,vP bt mc,cN mc kc,fH tl et ek]) (λ((k,kbk,kkk):Nat×(hV En)×(hV Vt))=>(k≤l'4.length)∧(qt kb kbk)∧(eW kc kbk)∧(kF kc 600 kkk)∧(∀kk',og kc (l'4.drop k) kkk kk'→og kc l'4 kk kk')∧(∀kb',qj kc (l'4.drop k) kbk kkk kb'→qj kc l'4 kb kk kb')) (λ((k,kbk,kkk):Nat×(hV En)×(hV Vt))=>l'4.length-k) (0,kb,kk) ⟨(by omega),⟨λ_=>rfl,λ_ _ h_=> .inr ⟨_,h_,rfl⟩⟩,hB,hK,(λ_ h=>h),(λ_ h=>h)⟩ ?_ ?_
 ·exact bw [5,6,0,0,0,0,0,0] ⟨rfl,rfl,rfl,rfl,trivial⟩<|by kernel_rfl
 rintro⟨k,kbk,kkk⟩ ⟨hk,hS,hBk,hKk,hD,hZ⟩
 refine dW [(0,p_ sb),(22,vS al'3 l'4 cl'5),(23,c_ l'4.length),(24,c_ k)] [dj my kbk,eH mk kkk,eX a on'1 ka'2,sI al'3 l'4 cl'5,vQ sb lt lm bt my a tl mk ck ac,vP bt mc,cN mc kc,fH tl et ek] ⟨rfl,rfl,rfl,rfl,trivial⟩ rfl (aE [(24,c_ k),(25,b_<|decide ((k:Int)<(l'4.length:Int)))]<|aD<|aL (E:=decide ((k:Int)<(l'4.length:Int))) rfl (λe3=>?_) (λe3=>?_))
 ·have p3:=Zg e3
  refine az<|aR<|aC<|Bv [.ix] [(0,p_ sb),(22,vS al'3 l'4 cl'5),(23,c_ l'4.length),(24,c_ k),(26,.pointer<|some<|(au al'3).add (k*1))] (o1<|jV 3 k dG rfl (by omega)) ?_
  obtain⟨x8,hx8⟩: ∃x,(l'4)[k]? =some x:=⟨_,Ze<|by omega⟩
  refine aj [.rd [i_ x8]] [(7,i_ x8)] (o1<|ro ((au al'3).add (k*1))<|dr (vs:=[i_ x8]) dG (bW (i:=3) rfl) hx8 (Nat.le_of_ble_eq_true rfl) rfl)<|aC<|an 5 [.ld 4] [(31,.map<|some my),(32,i_ x8)] ?_
  obtain⟨m9,hk9,hEO9⟩:=GN hBk<|hmem _<|Zd hx8
  refine aG<|Bj (some 33) _ (by kernel_rfl) (kP (kt:=3) (et:=167) (k:=x8) (λw s=>nm<|s.mem (i:=0) rfl) hk9 rfl rfl rfl (by kernel_rfl) eG rfl)<|aj [.rd [i_ m9.ec.hp]] [(8,i_ m9.ec.hp)] (o1<|ro ⟨m9.eb,2,none⟩ (vs:=[i_ m9.ec.hp])<|fU (λw s=>(fk (s.mem (i:=0) rfl) hk9:)) rfl)<|aD<|aM<|an 5 [.ld 4] [(41,.map<|some mk),(42,i_ m9.ec.hp)] ?_
  obtain⟨m10,hk10,hE10,hl10⟩:=As hL hBk hKk ‹_›
  refine aG<|cC (some 43) _ (kP (kt:=3) (et:=136) (k:=m9.ec.hp) (λw s=>qX<|s.mem (i:=1) rfl) hk10 rfl rfl rfl (by kernel_rfl) eG rfl)<|cV [.p] [(44,i_ x8)]<|aG<|b0 (some 45) [1] (V7 mk kkk m9.ec.hp m10 x8 hk10 ‹_› (by omega)) ?_
  rintro⟨zi11,zt12⟩ hz4
  dsimp only at hz4
  refine eE<|bS<|k9 [.p,.p,.p,.ld 4,.p] [(0,p_ sb),(22,vS al'3 l'4 cl'5),(23,c_ l'4.length),(24,c_ k),(8,i_ m9.ec.hp),(49,.map<|some mk),(50,i_ m9.ec.hp)] ?_
  obtain⟨m13,hk13⟩:=(⟨_,ie _ _ _⟩: ∃m_:Vt,aB (aJ kkk m9.ec.hp {m10 with t:=zt12,kv:=aW m10.kv x8}) m9.ec.hp=some m_)
  have hm13:m13.kv=aW m10.kv x8:=by have h_:=(ie kkk m9.ec.hp {m10 with t:=zt12,kv:=aW m10.kv x8}).symm.trans hk13;cases h_;rfl
  refine aG<|cC (some 51) _ (kP (kt:=3) (et:=136) (k:=m9.ec.hp) (λw s=>qX<|s.mem (i:=0) rfl) hk13 rfl rfl rfl (by kernel_rfl) eG rfl)<|aj [.cq<|c_ m13.kv.length] [(53,b_<|decide ((m13.kv.length:Int)>0))] (o1<|qo<|λw s=>XY mk (aJ kkk m9.ec.hp {m10 with t:=zt12,kv:=aW m10.kv x8}) m9.ec.hp m13 hk13 w<|s.mem (i:=0) rfl)<|aL (E:=decide ((m13.kv.length:Int)>0)) rfl (λe5=>?_) (λe5=>?_)
  ·have p5:=Zg e5
   refine bg<|aM<|aj [.w<|(k:Int)+1] [(24,i_<|(k:Int)+1)] (o1<|wj ((k:Int)+1)<|by omega)<|bN (k+1,kbk,aJ kkk m9.ec.hp {m10 with t:=zt12,kv:=aW m10.kv x8}) ⟨(by omega),hS,hBk,(Jm hKk ‹_› (Nat.le_trans (wk _ _) ‹_›)),(λ_ h=>hD _<|IE ‹_› (jP hBk ‹_›) ‹_› ‹_› h),(λ_ h=>hZ _<|H8 ‹_› (jP hBk ‹_›) ‹_› (if_neg (by rw[←hm13];omega)) h)⟩ (by(show l'4.length-(k+1)<l'4.length-k;omega)) ?_
   exact bw [1,0,0,0,0,0,0,0] ⟨rfl,rfl,rfl,rfl,trivial⟩<|by kernel_rfl
  have p5:=Zh e5
  refine az ?_
  have hkc:=rM kc (λv_:Cl=>v_.hp==m9.ec.hp)
  refine aM<|an 5 [.ld 4] [(57,p_ bt),(58,i_ m9.ec.hp)]<|aG<|dH (some 59) [] (λw s h=>CX bt mc kc m9.ec.hp (by omega) w (s.mem (i:=5) rfl) (s.mem (i:=6) rfl) h) ?_
  rintro⟨al'14,cl'15⟩-
  refine aQ [(60,i_ ((aV kc<|λv_=>v_.hp==m9.ec.hp).length:Int)),(61,i_ 0)]<|aR<|fY (λ((j,kbj):Nat×(hV En))=>[(0,p_ sb),(22,vS al'3 l'4 cl'5),(23,c_ l'4.length),(24,c_ k),(59,vS al'14 (aV kc<|λv_=>v_.hp==m9.ec.hp) cl'15),(60,i_ ((aV kc<|λv_=>v_.hp==m9.ec.hp).length:Int)),(61,c_ j)]) (λ((j,kbj):Nat×(hV En))=>[dj my kbj,sI al'14 (aV kc<|λv_=>v_.hp==m9.ec.hp) cl'15,eH mk<|aJ kkk m9.ec.hp {m10 with t:=zt12,kv:=aW m10.kv x8},eX a on'1 ka'2,sI al'3 l'4 cl'5,vQ sb lt lm bt my a tl mk ck ac,vP bt mc,cN mc kc,fH tl et ek]) (λ((j,kbj):Nat×(hV En))=>(j≤(aV kc<|λv_=>v_.hp==m9.ec.hp).length)∧(qt kb kbj)∧(eW kc kbj)∧(oQ ((aV kc<|λv_=>v_.hp==m9.ec.hp).drop j) kbj=oQ (aV kc<|λv_=>v_.hp==m9.ec.hp) kbk)) (λ((j,kbj):Nat×(hV En))=>(aV kc<|λv_=>v_.hp==m9.ec.hp).length-j) (0,kbk) ⟨(by omega),hS,hBk,rfl⟩ ?_ ?_
  ·exact bw [2,0,0,0,0,0,0,0,0] ⟨rfl,rfl,rfl,rfl,rfl,rfl,rfl,trivial⟩<|by kernel_rfl
  rintro⟨j,kbj⟩ ⟨hj,hS2,hBj,hQ⟩
  refine dW [(0,p_ sb),(22,vS al'3 l'4 cl'5),(23,c_ l'4.length),(24,c_ k),(59,vS al'14 (aV kc<|λv_=>v_.hp==m9.ec.hp) cl'15),(60,i_ ((aV kc<|λv_=>v_.hp==m9.ec.hp).length:Int)),(61,c_ j)] [dj my kbj,sI al'14 (aV kc<|λv_=>v_.hp==m9.ec.hp) cl'15,eH mk<|aJ kkk m9.ec.hp {m10 with t:=zt12,kv:=aW m10.kv x8},eX a on'1 ka'2,sI al'3 l'4 cl'5,vQ sb lt lm bt my a tl mk ck ac,vP bt mc,cN mc kc,fH tl et ek] ⟨rfl,rfl,rfl,rfl,rfl,rfl,rfl,trivial⟩ rfl (aE [(61,c_ j),(62,b_<|decide ((j:Int)<((aV kc<|λv_=>v_.hp==m9.ec.hp).length:Int)))]<|aD<|aL (E:=decide ((j:Int)<((aV kc<|λv_=>v_.hp==m9.ec.hp).length:Int))) rfl (λe7=>?_) (λe7=>?_))
  ·have p7:=Zg e7
   refine az<|aR<|aC<|jJ [.ix] [(63,.pointer<|some<|(au al'14).add (j*1))] (o1<|jV 1 j dG rfl (by omega)) ?_
   obtain⟨x17,hx17⟩: ∃x,((aV kc<|λv_=>v_.hp==m9.ec.hp))[j]? =some x:=⟨_,Ze<|by omega⟩
   refine jK [.rd [i_ x17]] [(0,p_ sb),(22,vS al'3 l'4 cl'5),(23,c_ l'4.length),(24,c_ k),(59,vS al'14 (aV kc<|λv_=>v_.hp==m9.ec.hp) cl'15),(60,i_ ((aV kc<|λv_=>v_.hp==m9.ec.hp).length:Int)),(61,c_ j),(10,i_ x17)] (o1<|ro ((au al'14).add (j*1))<|dr (vs:=[i_ x17]) dG (bW (i:=1) rfl) hx17 (Nat.le_of_ble_eq_true rfl) rfl)<|?_
   obtain⟨m18,hk18⟩:=NG hBj ‹_›
   refine u2 0 rfl hk18 rfl (aM<|an 5 [.ld 6] [(68,.map<|some my),(69,i_ x17)]<|aG<|cC (some 70) _ (kP (kt:=3) (et:=167) (k:=x17) (λw s=>Sr<|s.mem (i:=0) rfl) hk18 rfl rfl rfl (by kernel_rfl) eG rfl)<|bL [.st 1] [] [(1,aA m18.eb [qp m18.qb,i_ m18.ec.hi,i_ m18.ec.hp,b_ m18.ec.hl,u_ m18.ec.ra,u_ m18.ec.rb,u_ m18.ec.rc,u_ m18.ec.la,u_ m18.ec.lb,u_ m18.ec.lc,u_ m18.ec.ua,u_ m18.ec.ub,u_ m18.ec.uc,i_ m18.ec.hk,i_ m18.ec.hq,u_ m18.tot,b_ m18.du.dq1,u_ m18.du.dq2,u_ m18.du.dq3,u_ m18.du.dq4,u_ m18.du.dq5,u_ m18.du.dq6,u_ m18.du.dq7,u_ m18.du.dq8,u_ m18.du.dq9,b_ m18.du.dq10,u_ m18.du.dq11,u_ m18.du.dq12,u_ m18.du.dq13,u_ m18.du.dq14,u_ m18.du.dq15,u_ m18.du.dq16,u_ m18.du.dq17,u_ m18.du.dq18,b_ m18.du.dq19,u_ m18.du.dq20,u_ m18.du.dq21,u_ m18.du.dq22,b_ false,u_ 0,u_ 0,u_ 0,u_ 0,u_ 0,u_ 0,u_ 0,u_ 0,b_ false,u_ 0,b_ m18.li.uq1,u_ m18.li.uq2,u_ m18.li.uq3,u_ m18.li.uq4,u_ m18.li.uq5,u_ m18.li.uq6,u_ m18.li.uq7,u_ m18.li.uq8,u_ m18.li.uq9,b_ m18.li.uq10,u_ m18.li.uq11] 225)]<|u3 (m':=({m18 with sh:=(⟨false,0,0,0,0,0,0,0,0,false,0⟩:Sh)}:En)) [0,0] rfl hk18 ⟨rfl,rfl,rfl⟩ rfl rfl ?_)
   have hk19:=ie kbj x17 ({m18 with sh:=(⟨false,0,0,0,0,0,0,0,0,false,0⟩:Sh)}:En)
   refine(aM<|aj [.w<|(j:Int)+1] [(61,i_<|(j:Int)+1)] (o1<|wj ((j:Int)+1)<|by omega)<|bN (j+1,aJ kbj x17 ({m18 with sh:=(⟨false,0,0,0,0,0,0,0,0,false,0⟩:Sh)}:En)) ⟨(by omega),(by apply Ql hS2<;>first|assumption|rfl),(by apply ux hBj<;>first|assumption|rfl),((Qo hx17 hk18).trans hQ)⟩ (by(show(aV kc<|λv_=>v_.hp==m9.ec.hp).length-(j+1)<(aV kc<|λv_=>v_.hp==m9.ec.hp).length-j;omega)) ?_)
   exact bw [0,0,0,0,0,0,0,0,0] ⟨rfl,rfl,rfl,rfl,rfl,rfl,rfl,trivial⟩<|by kernel_rfl
  have p7:=Zh e7
  refine bg<|aM<|aj [.w<|(k:Int)+1] [(24,i_<|(k:Int)+1)] (o1<|wj ((k:Int)+1)<|by omega)<|bN (k+1,kbj,aJ kkk m9.ec.hp {m10 with t:=zt12,kv:=aW m10.kv x8}) ⟨(by omega),hS2,hBj,(Jm hKk ‹_› (Nat.le_trans (wk _ _) ‹_›)),(λ_ h=>hD _<|IE ‹_› (jP hBk ‹_›) ‹_› ‹_› h),(λ_ h=>hZ _<|H8 ‹_› (jP hBk ‹_›) ‹_› ((if_pos (by rw[←hm13];omega)).trans (hQ.symm.trans (by rw[List.drop_eq_nil_of_le<|by omega];rfl))) h)⟩ (by(show l'4.length-(k+1)<l'4.length-k;omega)) ?_
  exact bw [0,1,1,1,1,1,1,1] ⟨rfl,rfl,rfl,rfl,trivial⟩<|by kernel_rfl
 have p3:=Zh e3
 refine bg<|mi [4,4,4,0,1,2,0] [] (λ_ w r s=>trivial) (kbk,on'1,ka'2,kkk) ?_ ?_<|by kernel_rfl
 ·rfl
 exact⟨_,_,by assumption,hS,hBk,hD _ (by rw[List.drop_eq_nil_of_le<|by omega];rfl),hZ _ (by rw[List.drop_eq_nil_of_le<|by omega];rfl)⟩
structure Pd where
 gq1:Int
 gq2:Int
 gq3:Int
 gq4:Int
 gq5:Int
 gq6:Int
 gq7:Int
 gq8:Bool
 deriving Inhabited,DecidableEq
def GO(x:Pd):List Value:=[(i_ x.gq1),(u_ x.gq2),(i_ x.gq3),(w_ x.gq4),(w_ x.gq5),(w_ x.gq6),(w_ x.gq7),(b_ x.gq8)]
def vu(n:Int)(m:En):En:={m with tot:=IntKind.u64.wrap<|m.tot+IntKind.u64.wrap n,sh:=jo m.sh<|IntKind.u64.wrap<|m.tot+IntKind.u64.wrap n,li:=jU m.li<|IntKind.u64.wrap<|m.tot+IntKind.u64.wrap n}
def ky(n:Int):List Int→List (Int×En)→List (Int×En)
 |[],kb=>kb
 |i::l,kb=>ky n l (match aB kb i with|some m=>aJ kb i (vu n m)|none=>kb)
theorem Ph{n:Int}(hk:L[k]? =some i)(hm:aB kb i=some m):ky n (L.drop<|k+1) (aJ kb i<|vu n m)=ky n (L.drop k) kb:=by
 obtain⟨h1,h2⟩:=Zf.1 hk
 rw[List.drop_eq_getElem_cons h1,h2,ky,hm]
def B9(M:En)(i:Int)(kb:List (Int×En)):Prop:= ∃m,aB kb i=some m∧m.eb=M.eb∧m.qb=M.qb∧m.q=M.q∧m.ec=M.ec
theorem TG{M:En}{j:Int}{y y':En}(h:B9 M i kb)(hy:aB kb j=some y)(h1:y'.eb=y.eb)(h2:y'.qb=y.qb)(h3:y'.q=y.q)(h4:y'.ec=y.ec):B9 M i (aJ kb j y'):=by
 obtain⟨m,g1,g2⟩:=h
 by_cases e:j=i
 ·subst e;rw[hy] at g1;cases g1
  exact⟨y',ie _ _ _,by rw[h1,h2,h3,h4];exact g2⟩
 ·exact⟨m,by rw[ed,if_neg e];exact g1,g2⟩
variable{ek ek':hV It}
theorem X7{sn:Int}{br:Bool}{et':T}(hm:aB kb i=some m)(h:uT i m sn br kb et ek kb' et' ek'):B9 m i kb':=by
 rcases h with⟨-,d,rfl,-⟩|⟨-,rfl,-⟩
 ·exact⟨_,ie _ _ _,rfl,rfl,rfl,rfl⟩
 ·exact⟨m,hm,rfl,rfl,rfl,rfl⟩
theorem Vb{sn:Int}{br:Bool}{et':T}(hB:eW kc kb)(hm:aB kb i=some m)(h:uT i m sn br kb et ek kb' et' ek'):eW kc kb':=by
 rcases h with⟨-,d,rfl,-⟩|⟨-,rfl,-⟩
 ·exact ux hB hm rfl rfl rfl
 ·exact hB
theorem Jn: ∀{l:Wx}{kk kk':hV Vt},kF kc n kk→og kc l kk kk'→(∀i∈l,True)→kF kc n kk'
 |[],kk,kk',h,hd,_=>by cases hd;exact h
 |i::l,kk,kk',h,⟨c,v,t,hc,hv,he,hd⟩,_=>by
  refine Jn (l:=l) (kk:=aJ kk c.hp {v with t:=t,kv:=aW v.kv i}) (λq hq=>?_) hd<|λ_ _=>trivial
  rw[ed];by_cases e:c.hp=q
  ·rw[if_pos e];subst e
   obtain⟨v2,h1,h2,h3⟩:=h _ hq
   rw[hv] at h1;cases h1
   exact⟨_,rfl,he,Nat.le_trans (wk _ _) h3⟩
  ·rw[if_neg e];exact h q hq
theorem Vd(h:Av kc i kb ym on ka kk kb' on' ka' kk'):eW kc kb':=by obtain⟨_,_,_,_,h,_⟩:=h;exact h
theorem Ve(hK:kF kc n kk)(h:Av kc i kb ym on ka kk kb' on' ka' kk'):kF kc n kk':=by obtain⟨l,_,_,_,_,h⟩:=h;exact Jn hK h.1 λ_ _=>trivial
def nQ(z:Pd):Pk:=⟨z.gq2,z.gq3,z.gq4,z.gq5,z.gq6,z.gq7⟩
def NH(kc:List (Int×Cl))(ch:Int×Bool×Bool)(z:Pd)(ok:Bool)(kb:List (Int×En))(ym:List (Int×Pl))(on:List (Int×Int))(ka:List (Int×MB))(et:T)(ek:List (Int×It))(kk:List (Int×Vt))(kb':List (Int×En))(on':List (Int×Int))(ka':List (Int×MB))(et':T)(ek':List (Int×It))(kk':List (Int×Vt)):Prop:=
 (ch.2.2=false∧ok=false∧kb'=kb∧on'=on∧ka'=ka∧et'=et∧ek'=ek∧kk'=kk)∨
 (ch.2.2=true∧ok=true∧z.gq1=ch.1∧z.gq8=ch.2.1∧ ∃m q,aB kb ch.1=some m∧yB m.q (nQ z) q∧
  ∃m2 kb2 kb3 kk2,kb2=ky z.gq3 (bE kc ch.1) (aJ kb ch.1 {m with q:=q})∧aB kb2 ch.1=some m2∧m2.qb=m.qb∧m2.q=q∧m2.ec=m.ec∧uT ch.1 m2 z.gq3 ch.2.1 kb2 et ek kb3 et' ek'∧
   ((qC q≠[]∧kb'=kb3∧on'=on∧ka'=ka∧kk2=kk)∨(qC q=[]∧Av kc ch.1 kb3 ym on ka kk kb' on' ka' kk2))∧ku on' ka' kb' (bE kc ch.1) kk2 kk')
set_option maxHeartbeats 4000000 in
set_option maxRecDepth 100000 in
abbrev xf(p0)(p1)(p2)(p3)(p4)(p5)(p6)(p7)(p8)(p9):=([aA p0 [i_ p1,i_ p2,p_ p3,.map<|some p4,p_ p5,p_ p6,.map<|some p7,u_ p8,u_ p9] 141]:List V.aI)
theorem LW(sb:Nat)(lt lm:Int)(bt my ab eb mk:Nat)(ck ac now:Int)(hk1:ck≤now)(hk2:now≤4611686018427387904)(w:World)(hs:HI w (xf sb lt lm bt my ab eb mk ck ac)):
  CV 111 #[p_ sb,u_ now] w (xf sb lt lm bt my ab eb mk ck ac) (λ(zz:Unit)=>(b_ true)) (λ_=>True) λ_=>(xf sb lt lm bt my ab eb mk now ac):=by
 refine aU Tryz.func111 rfl hs (dW [(0,p_ sb),(1,u_ now)] (xf sb lt lm bt my ab eb mk ck ac) ⟨rfl,rfl,trivial⟩ rfl (aE []<|bS<|bB [.ld 0,.o,.cl] [(14,b_<|(decide (now<ck))||(decide (now>4611686018427387904)))]<|aL (E:=(decide (now<ck))||(decide (now>4611686018427387904))) rfl (λe1=>?_) (λe1=>?_)))
 ·exact absurd e1<|by(intro h_;simp at h_;omega)
 ·skip
  refine aO<|aC<|OI [.st 0] [] (xf sb lt lm bt my ab eb mk now ac)<|aE [(4,b_ true)]<|aF<|cP [0] [b_ true] (λ_ w r s=>⟨cw r rfl,trivial⟩) () ?_ ?_<|by kernel_rfl
  ·rfl
  ·trivial
abbrev LX(p0)(p1):=(aA p0 [.map<|some p1] 185:V.aI)
abbrev kh(p0)(p1)(p2)(p3):=(i_ ((dm p0 p1 p2 p3).1):Value)
abbrev vR(p0)(p1)(p2)(p3)(p4):=((54,i_ ((bE p0<|(dm p1 p2 p3 p4).1).length:Int)):Nat×Value)
abbrev nF(p0)(p1)(p2)(p3):=(b_ ((dm p0 p1 p2 p3).2.1):Value)
abbrev LY(p0)(p1)(p2)(p3)(p4)(p5:Ac)(p6:Vt)(p7)(p8)(p9):=(aA p0 [i_ p1,i_ p2,p_ p3,.map<|some p4,p_ p5.bs,p_ p6.be,.map<|some p7,u_ p8,u_ p9] 141:V.aI)
theorem Vf(sb:Nat)(lt lm:Int)(bt mc:Nat)(kc:hV Cl)(my:Nat)(kb:hV En)(a:Ac)(on:hV Int)(ka:hV MB)(tl:Vt)(et:T)(ek:hV It)(mk:Nat)(kk:hV Vt)(ck ac:Int)(now:Int)(hL:cB kc)(hB:eW kc kb)(hK:kF kc 600 kk)(hy:a.ym=eu kc)(hE:dX et ek)(hl:ek.length≤600)(hD:qY kb kk now 17 0)(hCh:(dm et kb kk now).2.2=true→ ∃m,aB kb (dm et kb kk now).1=some m∧qC m.q≠[])(hk1:ck≤now)(hk2:now≤4611686018427387904):
  CS 114 #[p_ sb,u_ now] [LY sb lt lm bt my a tl mk ck ac,LX bt mc,cN mc kc,dj my kb,eX a on ka,fH tl et ek,eH mk kk] (λ((z,ok,kb',on',ka',et',ek',kk'):Pd×Bool×(hV En)×(hV Int)×(hV MB)×T×(hV It)×(hV Vt))=>(.tuple #[.agg (GO z).toArray,b_ ok])) (λ(z,ok,kb',on',ka',et',ek',kk')=>NH kc (dm et kb kk now) z ok kb a.ym on ka et ek kk kb' on' ka' et' ek' kk') λ(z,ok,kb',on',ka',et',ek',kk')=>[LY sb lt lm bt my a tl mk now ac,LX bt mc,cN mc kc,dj my kb',eX a on' ka',fH tl et' ek',eH mk kk']:=by
 intro w hs
 have hul:=EO hL (dm et kb kk now).1
 refine aU Tryz.func114 rfl hs (aC<|dL [.al] [] (λb1=>[(4,p_ b1)]) (λb1=>aA b1 [i_ 0,u_ 0,i_ 0,w_ 0,w_ 0,w_ 0,w_ 0,b_ false] 235) ?_)
 intro b1
 refine bS<|an 5 [] [(17,b_ false),(18,p_ sb),(19,u_ now)]<|aG<|b0 (some 20) [0] (LW sb lt lm bt my a.bs tl.be mk ck ac now ‹_› ‹_›) ?_
 rintro⟨⟩-
 refine db [] [17,18,19,20] [(22,b_ false)]<|bM<|aO<|aC<|lH [.cq<|.tuple #[kh et kb kk now,nF et kb kk now,b_<|(dm et kb kk now).2.2]] [1,22] [(6,kh et kb kk now),(7,nF et kb kk now),(8,b_<|(dm et kb kk now).2.2)] (o1<|qo<|λw s=>Qk sb lt lm bt mc kc my kb a on ka tl et ek mk kk now ac now ‹_› ‹_› w (s.mem (i:=0) rfl) (s.mem (i:=1) rfl) (s.mem (i:=2) rfl) (s.mem (i:=3) rfl) (s.mem (i:=4) rfl) (s.mem (i:=5) rfl) (s.mem (i:=6) rfl))<|bS<|db [] [8] [(32,b_ (!((dm et kb kk now).2.2)))]<|aL rfl (λe2=>?_) (λe2=>?_)
 ·refine aC<|gl [.st 7] [0,6,7,32] [(5,b_ false)] []<|aF<|cP [0,0,0,0,0,0,0] [.agg #[i_ 0,u_ 0,i_ 0,w_ 0,w_ 0,w_ 0,w_ 0,b_ false],b_ false] (λ_ w r s=>⟨dS 7 r s,cw r rfl,trivial⟩) ((⟨0,0,0,0,0,0,0,false⟩:Pd),false,kb,on,ka,et,ek,kk) ?_ ?_<|by kernel_rfl
  ·rfl
  exact .inl ⟨(by(simp_all;done)),rfl,rfl,rfl,rfl,rfl,rfl,rfl⟩
 refine aO<|aC<|gK [.p,.p,.p,.ld 0,.p] [32] [(37,.map<|some my),(38,kh et kb kk now)] ?_
 obtain⟨m2,hk2,h0n2⟩:=hCh<|by(simp_all;done)
 refine aG<|cC (some 39) _ (kP (kt:=3) (et:=167) (k:=(dm et kb kk now).1) (λw s=>nm<|s.mem (i:=3) rfl) hk2 rfl rfl rfl (by kernel_rfl) eG rfl)<|db [] [37,38,39] [(9,p_ m2.eb)]<|aC<|eI 4 [.rd [qp m2.qb]] [(44,qp m2.qb)] (o1<|ro ⟨m2.eb,0,none⟩ (vs:=[qp m2.qb])<|fU (λw s=>(fk (s.mem (i:=3) rfl) hk2:)) rfl)<|aG<|b0 (some 45) [3] (XV my kb ((dm et kb kk now).1) m2 (qp m2.qb) hk2 (by rfl) ((hB _).2 _ ‹_›) ‹_›) ?_
 rintro⟨q'3,pp4⟩ hz3
 refine dM [.al,.st 8] [44,45] (λb5=>[(10,p_ b5)]) (λb5=>[]) (λb5=>aA b5 (gm pp4) 45) ?_
 intro b5
 refine aD<|aD ?_
 have hk6:=ie kb (dm et kb kk now).1 ({m2 with q:=q'3}:En)
 have hB1:eW kc (aJ kb ((dm et kb kk now).1) {m2 with q:=q'3}):=Au hB hk2 rfl ⟨((hB _).2 _ hk2).lf,λe_=>absurd (((hB _).2 _ hk2).no e_)<|λe2_=>h0n2<|List.eq_nil_of_length_eq_zero (by rw[nl];exact e2_),λ_=>(by assumption:yB _ _ _).1⟩
 refine aM<|an 5 [.ld 1] [(51,p_ bt),(52,kh et kb kk now)]<|aG<|dH (some 53) [] (λw s h=>G5 bt mc kc ((dm et kb kk now).1) ‹_› w (s.mem (i:=2) rfl) (s.mem (i:=3) rfl) h) ?_
 rintro⟨al'7,cl'8⟩-
 refine db [] [51,52] [(53,vS al'7 (bE kc<|(dm et kb kk now).1) cl'8),(vR kc et kb kk now),(55,i_ 0)]<|aR<|iC (σ:=Nat×(hV En)) [] (λ(k,kbk)=>[(55,c_ k)]) [1] (λ(k,kbk)=>[dj my kbk]) (λ(k,kbk)=>(k≤(bE kc (dm et kb kk now).1).length)∧(ky pp4.qn ((bE kc (dm et kb kk now).1).drop k) kbk=ky pp4.qn (bE kc (dm et kb kk now).1) (aJ kb ((dm et kb kk now).1) {m2 with q:=q'3}))∧(eW kc kbk)∧(B9 ({m2 with q:=q'3}:En) (dm et kb kk now).1 kbk)) (λ(k,kbk)=>(bE kc (dm et kb kk now).1).length-k) (0,aJ kb ((dm et kb kk now).1) {m2 with q:=q'3}) ⟨(by omega),(by rfl),hB1,⟨_,ie _ _ _,rfl,rfl,rfl,rfl⟩⟩ ?_ ?_
 ·exact cX [1,0,0,0,0,0,0,0,0,0]
 rintro⟨k,kbk⟩ ⟨hk,hU,hBk,hX⟩
 refine aE [(56,b_<|decide ((k:Int)<((bE kc<|(dm et kb kk now).1).length:Int)))]<|aD<|aL rfl (λe5=>?_) (λe5=>?_)
 ·have p5:=Zg e5
  refine az<|aR<|aC<|jJ [.ix] [(57,.pointer<|some<|(au al'7).add (k*1))] (o1<|jV 1 k dG rfl (by omega)) ?_
  obtain⟨x10,hx10⟩: ∃x,((bE kc<|(dm et kb kk now).1))[k]? =some x:=⟨_,Ze<|by omega⟩
  refine jK [.rd [i_ x10]] [(0,p_ sb),(4,p_ b1),(6,kh et kb kk now),(7,nF et kb kk now),(9,p_ m2.eb),(10,p_ b5),(53,vS al'7 (bE kc<|(dm et kb kk now).1) cl'8),(vR kc et kb kk now),(55,c_ k),(13,i_ x10)] (o1<|ro ((au al'7).add (k*1))<|dr (vs:=[i_ x10]) dG (bW (i:=1) rfl) hx10 (Nat.le_of_ble_eq_true rfl) rfl)<|aC<|an 5 [.ld 2] [(62,.map<|some my),(63,i_ x10)] ?_
  obtain⟨m11,hk11,hEO11⟩:=LP hL hBk ‹_›
  refine aG<|cC (some 64) _ (kP (kt:=3) (et:=167) (k:=x10) (λww ss=>nm<|ss.mem (i:=0) rfl) hk11 rfl rfl rfl (by kernel_rfl) eG rfl)<|aQ [(14,p_ m11.eb)]<|aD<|u2 0 rfl hk11 rfl ?_
  refine bY [10] 11 ?_
  refine wN 1 [.ld 1,.ld 10] (rg 0 10) [(0,p_ sb),(4,p_ b1),(6,kh et kb kk now),(7,nF et kb kk now),(9,p_ m2.eb),(10,p_ b5),(53,vS al'7 (bE kc<|(dm et kb kk now).1) cl'8),(vR kc et kb kk now),(55,c_ k),(14,p_ m11.eb),(72,u_<|wU<|m11.tot+(wU<|pp4.qn)),(74,q_ m11.eb 15)] ?_
  refine bF 10 rfl (dQ 1 [u_<|wU<|m11.tot+(wU<|pp4.qn)] rfl ?_)
  refine cb ?_
  refine eN ?_
  refine aD<|bY [12] 13 ?_
  refine Bt 1 [.ld 1,.ld 1,.cq<|.agg (iE<|jo m11.sh<|wU<|m11.tot+(wU<|pp4.qn)).toArray] (rg 0 12) [(0,p_ sb),(4,p_ b1),(6,kh et kb kk now),(7,nF et kb kk now),(9,p_ m2.eb),(10,p_ b5),(53,vS al'7 (bE kc<|(dm et kb kk now).1) cl'8),(vR kc et kb kk now),(55,c_ k),(14,p_ m11.eb),(84,.agg (iE<|jo m11.sh<|wU<|m11.tot+(wU<|pp4.qn)).toArray),(86,q_ m11.eb 38)] (o1<|qw<|Ud m11.sh<|wU<|m11.tot+(wU<|pp4.qn)) ?_
  refine bF 12 rfl (dQ 1 (iE<|jo m11.sh<|wU<|m11.tot+(wU<|pp4.qn)) rfl ?_)
  refine cb ?_
  refine eN ?_
  refine bY [12] 13 ?_
  refine Bt 1 [.ld 1,.ld 1,.cq<|.agg (gu<|jU m11.li<|wU<|m11.tot+(wU<|pp4.qn)).toArray] (rg 0 12) [(0,p_ sb),(4,p_ b1),(6,kh et kb kk now),(7,nF et kb kk now),(9,p_ m2.eb),(10,p_ b5),(53,vS al'7 (bE kc<|(dm et kb kk now).1) cl'8),(vR kc et kb kk now),(55,c_ k),(96,.agg (gu<|jU m11.li<|wU<|m11.tot+(wU<|pp4.qn)).toArray),(98,q_ m11.eb 49)] (o1<|qw<|Es m11.li<|wU<|m11.tot+(wU<|pp4.qn)) ?_
  refine bF 12 rfl (dQ 1 (gu<|jU m11.li<|wU<|m11.tot+(wU<|pp4.qn)) rfl ?_)
  refine cb ?_
  refine eN ?_
  refine u3 (m':=({m11 with tot:=wU<|m11.tot+(wU<|pp4.qn),sh:=(jo m11.sh<|wU<|m11.tot+(wU<|pp4.qn)),li:=(jU m11.li<|wU<|m11.tot+(wU<|pp4.qn))}:En)) [0,0] rfl hk11 ⟨rfl,rfl,rfl⟩ rfl rfl ?_
  have hk12:=ie kbk x10 ({m11 with tot:=IntKind.u64.wrap<|m11.tot+(IntKind.u64.wrap<|pp4.qn),sh:=(jo m11.sh<|IntKind.u64.wrap<|m11.tot+(IntKind.u64.wrap<|pp4.qn)),li:=(jU m11.li<|IntKind.u64.wrap<|m11.tot+(IntKind.u64.wrap<|pp4.qn))}:En)
  refine aM<|jK [.w<|(k:Int)+1] [(0,p_ sb),(4,p_ b1),(6,kh et kb kk now),(7,nF et kb kk now),(9,p_ m2.eb),(10,p_ b5),(53,vS al'7 (bE kc<|(dm et kb kk now).1) cl'8),(vR kc et kb kk now),(55,i_<|(k:Int)+1)] (o1<|wj ((k:Int)+1)<|by omega)<|bN (k+1,aJ kbk x10 ({m11 with tot:=wU<|m11.tot+(wU<|pp4.qn),sh:=(jo m11.sh<|wU<|m11.tot+(wU<|pp4.qn)),li:=(jU m11.li<|wU<|m11.tot+(wU<|pp4.qn))}:En)) ⟨(by omega),((Ph ‹_› ‹_›).trans hU),(by apply ux hBk<;>first|assumption|rfl),(by apply TG hX<;>first|assumption|rfl)⟩ (by(show(bE kc (dm et kb kk now).1).length-(k+1)<(bE kc (dm et kb kk now).1).length-k;omega)) ?_
  exact cX [0,0,0,0,0,0,0,0,0,0]
 have p5:=Zh e5
 refine bg<|aD ?_
 obtain⟨m13,hk13,he13,hqb13,hqq13,hec13⟩:=hX
 refine dO 9 (p_ m13.eb) (congrArg (λz_=>some<|p_ z_) he13.symm) ?_
 have hEO13:=(hBk _).2 _ hk13
 refine aM<|an 5 [.ld 9] [(100,p_ sb),(101,p_ m13.eb),(103,i_ pp4.qn),(104,nF et kb kk now)]<|aG<|b0 (some 105) [2,2,2,0,1,1,1] (X6 sb lt lm bt mc kc my kbk a on ka tl et ek mk kk now ac ((dm et kb kk now).1) m13 pp4.qn ((dm et kb kk now).2.1) hk13 ‹_› ‹_› ‹_›) ?_
 rintro⟨kb'14,et'15,ek'16⟩ hz6
 refine eE<|aD<|aD ?_
 have hB3:=Vb hBk hk13 ‹_›
 obtain⟨m17,hk17,he17,hqb17,hqq17,hec17⟩:=X7 hk13 ‹_›
 refine dO 9 (p_ m17.eb) (congrArg (λz_=>some<|p_ z_) he17.symm) ?_
 have hEO17:=(hB3 _).2 _ hk17
 refine aM<|aj [.rd [qp m17.qb],.cq<|i_ ((qC m17.q).length:Int)] [(4,p_ b1),(6,kh et kb kk now),(7,nF et kb kk now),(10,p_ b5),(111,b_<|((qC m17.q).length:Int)==0)] (oc (ro ⟨m17.eb,0,none⟩ (vs:=[qp m17.qb])<|fU (λw s=>(fk (s.mem (i:=3) rfl) hk17:)) rfl)<|o1<|qo<|λw s=>xr my kb'14 ((dm et kb kk now).1) m17 (qp m17.qb) hk17 (by rfl) (by assumption) w<|s.mem (i:=3) rfl)<|aL rfl (λe7=>?_) (λe7=>?_)
 ·refine aM<|an 2 [] [(112,p_ sb),(113,kh et kb kk now)]<|aG<|b0 (some 114) [0,0,0,0,0,0,0] (TF sb lt lm bt mc kc my kb'14 a on ka tl et'15 ek'16 mk kk now ac ((dm et kb kk now).1) ‹_› ‹_› ‹_› ‹_›) ?_
  rintro⟨kb'18,on'19,ka'20,kk'21⟩ hz8
  refine eE<|aC<|an 2 [] [(115,p_ sb),(116,kh et kb kk now)]<|aG<|b0 (some 117) [0,0,0,0,0,1] (zK sb lt lm bt mc kc my kb'18 a on'19 ka'20 tl.be mk kk'21 now ac ((dm et kb kk now).1) ‹_› (Vd ‹_›) (Ve hK ‹_›)) ?_
  rintro kk'22 hz9
  refine eE<|aC<|bL [.ld 9,.st 8] [(5,b_ true)] [(8,aA b1 [kh et kb kk now,u_ pp4.qi,i_ pp4.qn,w_ pp4.qa,w_ pp4.qb,w_ pp4.qc,w_ pp4.qd,nF et kb kk now] 235)]<|aF<|cP [0,0,0,0,0,1,0] [.agg #[kh et kb kk now,u_ pp4.qi,i_ pp4.qn,w_ pp4.qa,w_ pp4.qb,w_ pp4.qc,w_ pp4.qd,nF et kb kk now],b_ true] (λ_ w r s=>⟨dS 8 r s,cw r rfl,trivial⟩) ((⟨(dm et kb kk now).1,pp4.qi,pp4.qn,pp4.qa,pp4.qb,pp4.qc,pp4.qd,(dm et kb kk now).2.1⟩:Pd),true,kb'18,on'19,ka'20,et'15,ek'16,kk'22) ?_ ?_<|by kernel_rfl
  ·rfl
  exact .inr ⟨(by(simp_all;done)),rfl,rfl,rfl,_,_,by assumption,by assumption,_,_,_,_,(by rw[←hU,List.drop_eq_nil_of_le<|by omega]<;>rfl),by assumption,by assumption,by assumption,by assumption,by assumption,(by exact .inr ⟨(by(simp_all[vj];done)),by assumption⟩),by assumption⟩
 refine aO<|aC<|an 2 [] [(115,p_ sb),(116,kh et kb kk now)]<|aG<|b0 (some 117) [0,0,0,0,0,1] (zK sb lt lm bt mc kc my kb'14 a on ka tl.be mk kk now ac ((dm et kb kk now).1) ‹_› ‹_› ‹_›) ?_
 rintro kk'23 hz10
 refine eE<|aC<|bL [.ld 9,.st 8] [(5,b_ true)] [(8,aA b1 [kh et kb kk now,u_ pp4.qi,i_ pp4.qn,w_ pp4.qa,w_ pp4.qb,w_ pp4.qc,w_ pp4.qd,nF et kb kk now] 235)]<|aF<|cP [0,0,0,0,0,1,0] [.agg #[kh et kb kk now,u_ pp4.qi,i_ pp4.qn,w_ pp4.qa,w_ pp4.qb,w_ pp4.qc,w_ pp4.qd,nF et kb kk now],b_ true] (λ_ w r s=>⟨dS 8 r s,cw r rfl,trivial⟩) ((⟨(dm et kb kk now).1,pp4.qi,pp4.qn,pp4.qa,pp4.qb,pp4.qc,pp4.qd,(dm et kb kk now).2.1⟩:Pd),true,kb'14,on,ka,et'15,ek'16,kk'23) ?_ ?_<|by kernel_rfl
 ·rfl
 exact .inr ⟨(by(simp_all;done)),rfl,rfl,rfl,_,_,by assumption,by assumption,_,_,_,_,(by rw[←hU,List.drop_eq_nil_of_le<|by omega]<;>rfl),by assumption,by assumption,by assumption,by assumption,by assumption,(by exact .inl ⟨(by(simp_all[vj];done)),rfl,rfl,rfl,rfl⟩),by assumption⟩
def NI(lm ac:Int)(kb:List (Int×En))(ci:Int)(p:Pk)(m:En):Prop:=aB kb ci=some m∧m.ec.hl=true∧1≤p.qn∧p.qn≤lm∧IntKind.u64.wrap (ac+IntKind.u64.wrap p.qn)≤1099511627776∧BV m.q p
def putE(lm ac:Int)(kb:List (Int×En))(ci:Int)(p:Pk):Int:=
 match aB kb ci with
 |none=>23
 |some m=>if m.ec.hl=false then 29 else if p.qn<1∨lm<p.qn then 26 else if 1099511627776<IntKind.u64.wrap (ac+IntKind.u64.wrap p.qn) then 28 else 30
def Na(kc:List (Int×Cl))(lm now ci:Int)(p:Pk)(er:Int)(kb:List (Int×En))(ym:List (Int×Pl))(on:List (Int×Int))(ka:List (Int×MB))(et:T)(ek:List (Int×It))(kk:List (Int×Vt))(ac:Int)(kb':List (Int×En))(on':List (Int×Int))(ka':List (Int×MB))(et':T)(ek':List (Int×It))(kk':List (Int×Vt))(ac':Int):Prop:=
 (er≠0∧(∀m,¬NI lm ac kb ci p m)∧ac'=ac∧(kb'=kb∨ ∃m q e,aB kb ci=some m∧nI m.q p q e∧e≠0∧kb'=aJ kb ci {m with q:=q})∧on'=on∧ka'=ka∧et'=et∧ek'=ek∧kk'=kk∧er=putE lm ac kb ci p)∨
 (er=0∧ac'=IntKind.u64.wrap (ac+IntKind.u64.wrap p.qn)∧ ∃m q,NI lm ac kb ci p m∧nI m.q p q 0∧
  (((qC q).length=1∧NF kc now p.qn ci {m with q:=q} (aJ kb ci {m with q:=q}) ym on ka et ek kk kb' on' ka' et' ek' kk')∨((qC q).length≠1∧kb'=aJ kb ci {m with q:=q}∧on'=on∧ka'=ka∧et'=et∧ek'=ek∧kk'=kk)))
theorem ES{c:Nat}(h:eW kc kb)(hm:aB kb i=some m)(hc:m.qb=some c)(hq:mE q):eW kc (aJ kb i {m with q:=q}):=
 Au h hm rfl ⟨((h i).2 m hm).lf,λe=>(by rw[show m.qb=none from e] at hc;cases hc),λ_=>hq⟩
theorem D9{r:Qu}{p:Pk}{e:Int}(h:nI q p r e):(BV q p↔e=0):=by
 rcases h with⟨-,-,-,⟨h1,h2,-⟩|⟨h1,h2,-⟩⟩
 ·exact⟨λ_=>h2,λ_=>h1⟩
 ·exact⟨λh=>absurd h h1,λh=>by omega⟩
theorem LZ{r:Qu}{p:Pk}{e:Int}(h:nI q p r e)(he:e=0):nI q p r 0:=he▸h
abbrev FQ(p0)(p1:Pk):=(u_ (IntKind.u64.wrap<|p0+(IntKind.u64.wrap<|p1.qn)):Value)
abbrev FR(p0)(p1)(p2)(p3)(p4)(p5:Ac)(p6:Vt)(p7)(p8)(p9)(p10)(p11)(p12)(p13)(p14)(p15)(p16)(p17):=([aA p0 [i_ p1,i_ p2,p_ p3,.map<|some p4,p_ p5.bs,p_ p6.be,.map<|some p7,u_ p8,u_ p9] 141,aA p3 [.map<|some p10] 185,cN p10 p11,dj p4 p12,eX p5 p13 p14,fH p6 p15 p16,eH p7 p17]:List V.aI)
theorem X8(sb:Nat)(lt lm:Int)(bt mc:Nat)(kc:hV Cl)(my:Nat)(kb:hV En)(a:Ac)(on:hV Int)(ka:hV MB)(tl:Vt)(et:T)(ek:hV It)(mk:Nat)(kk:hV Vt)(ck ac:Int)(now ci:Int)(p:Pk)(hL:cB kc)(hB:eW kc kb)(hK:kF kc 600 kk)(hy:a.ym=eu kc)(hE:dX et ek)(hl:ek.length≤600)(hlm:lm≤16384)(hk1:ck≤now)(hk2:now≤4611686018427387904)(w:World)(hs:HI w (FR sb lt lm bt my a tl mk ck ac mc kc kb on ka et ek kk)):
  CT Tryz.prog 76 #[p_ sb,u_ now,i_ ci,.agg (gm p).toArray] w (FR sb lt lm bt my a tl mk ck ac mc kc kb on ka et ek kk) (λ((er,kb',on',ka',et',ek',kk',ac'):Int×(hV En)×(hV Int)×(hV MB)×T×(hV It)×(hV Vt)×Int)=>(i_ er)) (λ(er,kb',on',ka',et',ek',kk',ac')=>Na kc lm now ci p er kb a.ym on ka et ek kk ac kb' on' ka' et' ek' kk' ac') λ(er,kb',on',ka',et',ek',kk',ac')=>(FR sb lt lm bt my a tl mk now ac' mc kc kb' on' ka' et' ek' kk'):=by
 refine aU Tryz.func76 rfl hs (aC<|dL [.al] [] (λb1=>[(7,p_ b1)]) (λb1=>aA b1 (gm p) 45) ?_)
 intro b1
 refine aD<|aR<|aE [(12,b_ false)]<|bM<|aC<|an 2 [] [(16,p_ sb),(17,u_ now)]<|aG<|b0 (some 18) [0] (LW sb lt lm bt my a.bs tl.be mk ck ac now ‹_› ‹_›) ?_
 rintro⟨⟩-
 refine aQ [(15,b_ false)]<|bM<|aO<|aC<|an 5 [.ld 0] [(24,.map<|some my),(25,i_ ci)] ?_
 rcases hk2:aB kb ci with _|m2
 ·refine aG<|cC (some 26) (.tuple #[n_,b_ false]) (PG (kt:=3) (et:=167) (enck:=(λk:Int=>i_ k)) (encv:=(λm:En=>p_ m.eb)) (b:=my) (kv:=kb) (k:=ci) (λw s=>nm<|s.mem (i:=3) rfl) hk2 rfl rfl rfl (by kernel_rfl) eG (by kernel_rfl) rfl)<|aQ [(9,n_),(10,b_ false)]<|aD<|aR<|aE [(29,b_ true)]<|dU<|aE [(8,i_ 23)]<|aF<|bR [0,0,0,0,0,0,0] [i_ 23] (23,kb,on,ka,et,ek,kk,ac) ?_ ?_
  ·rfl
  exact .inl ⟨by decide,(λm_ h_=>by obtain⟨h1_,h2_,h3_,h4_,h5_,h6_⟩:=h_;(simp_all;done)),rfl,.inl rfl,rfl,rfl,rfl,rfl,rfl,(by unfold putE;simp_all<;>omega)⟩
 refine aG<|cC (some 26) (.tuple #[p_ m2.eb,b_ true]) (kP (kt:=3) (et:=167) (k:=ci) (λw s=>nm<|s.mem (i:=3) rfl) hk2 rfl rfl rfl (by kernel_rfl) eG rfl)<|aQ [(9,p_ m2.eb),(10,b_ true)]<|aD<|aR<|aE [(29,b_ false)]<|bM<|dF [.rd [b_ m2.ec.hl]] [(32,b_ (!m2.ec.hl))] (o1<|ro ⟨m2.eb,3,none⟩ (vs:=[b_ m2.ec.hl])<|fU (λw s=>(fk (s.mem (i:=3) rfl) hk2:)) rfl)<|aL rfl (λe2=>?_) (λe2=>?_)
 ·refine aE [(8,i_ 29)]<|aF<|bR [0,0,0,0,0,0,0] [i_ 29] (29,kb,on,ka,et,ek,kk,ac) ?_ ?_
  ·rfl
  exact .inl ⟨by decide,(λm_ h_=>by obtain⟨h1_,h2_,h3_,h4_,h5_,h6_⟩:=h_;(simp_all;done)),rfl,.inl rfl,rfl,rfl,rfl,rfl,rfl,(by unfold putE;simp_all<;>omega)⟩
 refine aD<|CB [.ld 7,.o,.ld 7,.ld 0,.cl] (rg 0 14) [] [(39,b_<|(decide (p.qn<1))||(decide (p.qn>lm)))] T0 trivial<|aL rfl (λe3=>?_) (λe3=>?_)
 ·refine aE [(8,i_ 26)]<|aF<|bR [0,0,0,0,0,0,0] [i_ 26] (26,kb,on,ka,et,ek,kk,ac) ?_ ?_
  ·rfl
  exact .inl ⟨by decide,(λm_ h_=>by obtain⟨h1_,h2_,h3_,h4_,h5_,h6_⟩:=h_;(simp_all;omega)),rfl,.inl rfl,rfl,rfl,rfl,rfl,rfl,(by unfold putE;simp_all<;>omega)⟩
 have p3:=e3;try simp only[cR] at p3
 refine aD<|CB [.ld 0,.ld 7] (rg 0 10) [] [(53,b_<|decide ((IntKind.u64.wrap<|ac+(IntKind.u64.wrap<|p.qn))>1099511627776))] T0 trivial<|aL rfl (λe4=>?_) (λe4=>?_)
 ·have p4:=Zg e4
  refine aE [(8,i_ 28)]<|aF<|bR [0,0,0,0,0,0,0] [i_ 28] (28,kb,on,ka,et,ek,kk,ac) ?_ ?_
  ·rfl
  exact .inl ⟨by decide,(λm_ h_=>by obtain⟨h1_,h2_,h3_,h4_,h5_,h6_⟩:=h_;(simp_all;omega)),rfl,.inl rfl,rfl,rfl,rfl,rfl,rfl,(by unfold putE;simp_all<;>omega)⟩
 have p4:=Zh e4
 refine aO<|aD<|aD ?_
 have hEO:=(hB _).2 _ hk2
 obtain⟨cq,hcq⟩:=Option.isSome_iff_exists.1<|hEO.lf.1<|by(simp_all;done)
 refine bY [5] 7<|eR 2 [.rd [qp m2.qb],.ld 7] (rg 0 5) [(66,qp m2.qb),(67,.agg (gm p).toArray)] (o1<|ro ⟨m2.eb,0,none⟩ (vs:=[qp m2.qb])<|fU (λw s=>(fk (s.mem (i:=3) rfl) hk2:)) rfl)<|bF 5 rfl (b0 (some 68) [3] (V5 my kb ci m2 (qp m2.qb) cq p hk2 ‹_› (by rfl) ‹_› (by omega)) ?_)
 rintro⟨q'3,er4⟩ hz5
 refine cb<|cQ 0 [] [6] [(11,i_ er4)]<|eN<|aE [(70,b_<|er4 !=0)]<|aL rfl (λe6=>?_) (λe6=>?_)
 ·have p6:=e6;try simp only[cR] at p6
  refine aE [(8,i_ er4)]<|aF<|bR [1,1,1,0,0,0,0] [i_ er4] (er4,aJ kb ci {m2 with q:=q'3},on,ka,et,ek,kk,ac) ?_ ?_
  ·rfl
  exact .inl ⟨by assumption,(λm_ h_=>by obtain⟨h1_,h2_,h3_,h4_,h5_,h6_⟩:=h_;have h7_:=D9 (by assumption:nI _ _ _ _);simp_all),rfl,.inr ⟨_,_,_,by assumption,by assumption,by assumption,rfl⟩,rfl,rfl,rfl,rfl,rfl,(by have h7_:er4=30:=(by rcases(by assumption:nI _ _ _ _) with⟨-,-,-,⟨-,h_,-⟩|⟨-,h_,-⟩⟩;exact absurd h_ (by assumption);exact h_);rw[h7_];unfold putE;simp_all<;>omega)⟩
 have p6:=e6;try simp only[cR] at p6
 refine az<|bY [10] 11<|cQ 1 [.ld 1,.ld 7] (rg 0 10) [(79,FQ ac p),(81,q_ sb 8)]<|bF 10 rfl (oV 1 (vs:=[FQ ac p]) [dj my<|aJ kb ci {m2 with q:=q'3},aA sb [i_ lt,i_ lm,p_ bt,.map<|some my,p_ a.bs,p_ tl.be,.map<|some mk,u_ now,FQ ac p] 141,aA bt [.map<|some mc] 185,cN mc kc,eX a on ka,fH tl et ek,eH mk kk,aA b1 (gm p) 45] (by kernel_rfl) rfl rfl rfl rfl (by kernel_rfl) rfl rfl (by kernel_rfl) rfl (dV<|aD<|aD ?_))
 have hB1:eW kc (aJ kb ci {m2 with q:=q'3}):=ES hB hk2 hcq (by assumption:nI _ _ _ _).1
 obtain⟨mx,hmx⟩: ∃m_:En,m_=({m2 with q:=q'3}:En):=⟨_,rfl⟩
 have hkx:aB (aJ kb ci {m2 with q:=q'3}) ci=some mx:=hmx▸ie _ _ _
 have hEX:=(hB1 _).2 _ hkx
 refine dO 9 (p_ mx.eb) (congrArg (λz_=>some<|p_ z_)<|by rw[hmx])<|aM<|aj [.rd [qp mx.qb],.cq<|i_ ((qC mx.q).length:Int)] [(87,b_<|((qC mx.q).length:Int)==1)] (oc (ro ⟨mx.eb,0,none⟩ (vs:=[qp mx.qb])<|fU (λw s=>(fk (s.mem (i:=0) rfl) hkx:)) rfl)<|o1<|qo<|λw s=>xr my (aJ kb ci {m2 with q:=q'3}) ci mx (qp mx.qb) hkx (by rfl) ‹_› w (s.mem (i:=0) rfl))<|aL rfl (λe7=>?_) (λe7=>?_)
 ·have p7:=e7
  refine aM<|an 5 [.ld 7] [(88,p_ sb),(89,u_ now),(90,p_ mx.eb),(92,i_ p.qn)]<|aG<|b0 (some 93) [1,1,1,0,0,0,0] (TC sb lt lm bt mc kc my (aJ kb ci {m2 with q:=q'3}) a on ka tl et ek mk kk now (wU<|ac+(wU<|p.qn)) now ci mx p.qn hkx ‹_› ‹_› ‹_› ‹_› ‹_› ‹_›) ?_
  rintro⟨kb'5,on'6,ka'7,et'8,ek'9,kk'10⟩ hz8
  refine eE<|aE [(8,i_ 0)]<|aF<|bR [0,0,0,0,0,0,0] [i_ 0] (0,kb'5,on'6,ka'7,et'8,ek'9,kk'10,wU<|ac+(wU<|p.qn)) ?_ ?_
  ·rfl
  (subst hmx;exact .inr ⟨rfl,rfl,_,_,⟨by assumption,by(simp_all;done),by(simp_all;done),by(simp_all;done),by(simp_all;done),(D9 (by assumption:nI _ _ _ _)).2 (by(simp_all;done))⟩,LZ ‹_› ‹_›,.inl ⟨by(simp_all;omega),by assumption⟩⟩)
 refine aO<|aE [(8,i_ 0)]<|aF<|bR [1,1,1,0,0,0,0] [i_ 0] (0,aJ kb ci {m2 with q:=q'3},on,ka,et,ek,kk,wU<|ac+(wU<|p.qn)) ?_ ?_
 ·rfl
 (subst hmx;exact .inr ⟨rfl,rfl,_,_,⟨by assumption,by(simp_all;done),by(simp_all;done),by(simp_all;done),by(simp_all;done),(D9 (by assumption:nI _ _ _ _)).2 (by(simp_all;done))⟩,LZ ‹_› ‹_›,.inr ⟨by(simp_all;omega),rfl,rfl,rfl,rfl,rfl,rfl⟩⟩)
def lT(et:T)(kk:List (Int×Vt)):Int:=cF (od et.toL)<|im<|(((aB kk 0).map λv:Vt=>v.t.toL).getD [])
def Gg:Du:=⟨false,0,0,0,0,0,0,0,0,false,0,0,0,0,0,0,0,0,false,0,0,0⟩
theorem Vg(k r:Int)(h1:1≤k)(h2:k≤64)(h3:1≤r∧r≤1048576)(w:World)(hs:HS w (aN []) [] w):Calls Tryz.prog 108 #[i_ k,i_ r] w λe w'=> ∃zz:Nat×Qu,e= .returned (.tuple #[p_ zz.1,i_ 0])∧(mE zz.2∧qC zz.2=[]∧zz.2.rm=r∧zz.2.bs=0∧(zz.2.sx.length:Int)=k)∧Turn [] [iu (some zz.1) zz.2] w w':=by
 obtain⟨m,rfl⟩:=Int.eq_ofNat_of_zero_le (show 0≤k by omega)
 refine(XU m r (by omega) (by omega) h3 w hs).mono ?_
 rintro e w' ⟨zz,a1,⟨a2,a3,a4,a5,a6⟩,a7⟩
 exact⟨zz,a1,⟨a2,a3,a4,a5,by rw[a6]⟩,a7⟩
def L0(c:Cl)(q:Qu):Prop:=mE q∧qC q=[]∧q.rm=c.hq∧q.bs=0∧(q.sx.length:Int)=c.hk
theorem Vh(sb:Nat)(lt lm:Int)(bt mc:Nat)(kc:hV Cl)(my:Nat)(kb:hV En)(a:Ac)(on:hV Int)(ka:hV MB)(tl:Vt)(et:T)(ek:hV It)(mk:Nat)(kk:hV Vt)(ck ac:Int)(hE:dX et ek)(hv0: ∃v,aB kk 0=some v∧dX v.t v.kv)(w:World)(r0:(aA sb [i_ lt,i_ lm,p_ bt,.map<|some my,p_ a.bs,p_ tl.be,.map<|some mk,u_ ck,u_ ac] 141).holds w)(r1:(aA bt [.map<|some mc] 185).holds w)(r2:(cN mc kc).holds w)(r3:(dj my kb).holds w)(r4:(eX a on ka).holds w)(r5:(fH tl et ek).holds w)(r6:(eH mk kk).holds w):
  CW 119 #[p_ sb] w (u_<|lT et kk):=by
 refine aU Tryz.func119 rfl (HS.nil w) (aE []<|aD<|aE [(4,b_ false)]<|bM<|az ?_)
 obtain⟨m1,hk1,hER1⟩:=hv0
 refine bY [] 13<|eR 4 [.rd [p_ tl.be],.cq<|u_<|od et.toL,.rd [.map<|some mk]] (rg 0 9) [(9,u_<|od et.toL),(13,.map<|some mk)] (oc (ro ⟨sb,5,none⟩ (vs:=[p_ tl.be])<|cE r0 rfl)<|oc (qo<|λw s=>V9 tl et ek ‹_› w (bK s r5))<|o1<|ro ⟨sb,6,none⟩ (vs:=[.map<|some mk])<|cE r0 rfl)<|lG 9 (some 14) (p_ m1.be) rfl (by kernel_rfl) (by kernel_rfl) (kP (kt:=3) (et:=136) (k:=0) (λw s=>qX<|bK s r6) hk1 rfl rfl rfl (by kernel_rfl) eG rfl) (eR 0 [.cq<|u_<|im m1.t.toL] [10,11,12] [(2,u_<|cF (od et.toL)<|im m1.t.toL)] (o1<|qo<|λw s=>NB mk kk 0 m1 hk1 ‹_› w (bK s r6))<|eN<|aF<|bJ [u_<|cF (od et.toL)<|im m1.t.toL] ?_)
 show((u_<|cF (od et.toL)<|im m1.t.toL):Value)=(u_<|lT et kk)
 unfold lT;simp_all
theorem TI(c:Cl)(hl:c.hl=true)(h1:1≤c.hk)(h2:c.hk≤64)(h3:1≤c.hq∧c.hq≤1048576):
  CS 73 #[.agg (aX c).toArray] [] (λ((xb,bq,q):Nat×Nat×Qu)=>(p_ xb)) (λ(xb,bq,q)=>L0 c q) λ(xb,bq,q)=>[aA xb [p_ bq,i_ c.hi,i_ c.hp,b_ c.hl,u_ c.ra,u_ c.rb,u_ c.rc,u_ c.la,u_ c.lb,u_ c.lc,u_ c.ua,u_ c.ub,u_ c.uc,i_ c.hk,i_ c.hq,u_ 0,b_ false,u_ 0,u_ 0,u_ 0,u_ 0,u_ 0,u_ 0,u_ 0,u_ 0,b_ false,u_ 0,u_ 0,u_ 0,u_ 0,u_ 0,u_ 0,u_ 0,u_ 0,b_ false,u_ 0,u_ 0,u_ 0,b_ false,u_ 0,u_ 0,u_ 0,u_ 0,u_ 0,u_ 0,u_ 0,u_ 0,b_ false,u_ 0,b_ false,u_ 0,u_ 0,u_ 0,u_ 0,u_ 0,u_ 0,u_ 0,u_ 0,b_ false,u_ 0] 225,iu (some bq) q]:=by
 intro w hs
 refine aU Tryz.func73 rfl hs (aC<|dL [.al] [] (λb1=>[(1,p_ b1)]) (λb1=>aA b1 (aX c) 62) ?_)
 intro b1
 refine aC<|dM [.ld 0,.al] [] (λb2=>[(3,p_ b2)]) (λb2=>[]) (λb2=>aA b2 [n_,i_ c.hi,i_ c.hp,b_ c.hl,u_ c.ra,u_ c.rb,u_ c.rc,u_ c.la,u_ c.lb,u_ c.lc,u_ c.ua,u_ c.ub,u_ c.uc,i_ c.hk,i_ c.hq,u_ 0,b_ false,u_ 0,u_ 0,u_ 0,u_ 0,u_ 0,u_ 0,u_ 0,u_ 0,b_ false,u_ 0,u_ 0,u_ 0,u_ 0,u_ 0,u_ 0,u_ 0,u_ 0,b_ false,u_ 0,u_ 0,u_ 0,b_ false,u_ 0,u_ 0,u_ 0,u_ 0,u_ 0,u_ 0,u_ 0,u_ 0,b_ false,u_ 0,b_ false,u_ 0,u_ 0,u_ 0,u_ 0,u_ 0,u_ 0,u_ 0,u_ 0,b_ false,u_ 0] 225) ?_
 intro b2
 refine bS<|bB [.ld 0] [(8,b_ c.hl)]<|iD c.hl (λe1=>?_)<|λe1=>?_
 ·refine aM<|an 5 [.ld 0,.ld 0] [(10,p_ b2),(12,i_ c.hk),(14,i_ c.hq)]<|aG<|b0 (some 15) [] (Vg c.hk c.hq ‹_› ‹_› ‹_›) ?_
  rintro⟨bq3,q4⟩ hz2
  refine bL [.st 2] [] [(2,aA b2 [p_ bq3,i_ c.hi,i_ c.hp,b_ c.hl,u_ c.ra,u_ c.rb,u_ c.rc,u_ c.la,u_ c.lb,u_ c.lc,u_ c.ua,u_ c.ub,u_ c.uc,i_ c.hk,i_ c.hq,u_ 0,b_ false,u_ 0,u_ 0,u_ 0,u_ 0,u_ 0,u_ 0,u_ 0,u_ 0,b_ false,u_ 0,u_ 0,u_ 0,u_ 0,u_ 0,u_ 0,u_ 0,u_ 0,b_ false,u_ 0,u_ 0,u_ 0,b_ false,u_ 0,u_ 0,u_ 0,u_ 0,u_ 0,u_ 0,u_ 0,u_ 0,b_ false,u_ 0,b_ false,u_ 0,u_ 0,u_ 0,u_ 0,u_ 0,u_ 0,u_ 0,u_ 0,b_ false,u_ 0] 225)]<|aE [(2,p_ b2)]<|aF<|bR [2,0] [p_ b2] (b2,bq3,q4) ?_ ?_
  ·rfl
  assumption
 exact absurd e1<|by(intro h_;simp_all)
theorem X9(c:Cl)(hl:c.hl=false):
  CS 73 #[.agg (aX c).toArray] [] (λ(xb:Nat)=>(p_ xb)) (λ_=>True) λxb=>[aA xb [n_,i_ c.hi,i_ c.hp,b_ c.hl,u_ c.ra,u_ c.rb,u_ c.rc,u_ c.la,u_ c.lb,u_ c.lc,u_ c.ua,u_ c.ub,u_ c.uc,i_ c.hk,i_ c.hq,u_ 0,b_ false,u_ 0,u_ 0,u_ 0,u_ 0,u_ 0,u_ 0,u_ 0,u_ 0,b_ false,u_ 0,u_ 0,u_ 0,u_ 0,u_ 0,u_ 0,u_ 0,u_ 0,b_ false,u_ 0,u_ 0,u_ 0,b_ false,u_ 0,u_ 0,u_ 0,u_ 0,u_ 0,u_ 0,u_ 0,u_ 0,b_ false,u_ 0,b_ false,u_ 0,u_ 0,u_ 0,u_ 0,u_ 0,u_ 0,u_ 0,u_ 0,b_ false,u_ 0] 225]:=by
 intro w hs
 refine aU Tryz.func73 rfl hs (aC<|dL [.al] [] (λb1=>[(1,p_ b1)]) (λb1=>aA b1 (aX c) 62) ?_)
 intro b1
 refine aC<|dM [.ld 0,.al] [] (λb2=>[(3,p_ b2)]) (λb2=>[]) (λb2=>aA b2 [n_,i_ c.hi,i_ c.hp,b_ c.hl,u_ c.ra,u_ c.rb,u_ c.rc,u_ c.la,u_ c.lb,u_ c.lc,u_ c.ua,u_ c.ub,u_ c.uc,i_ c.hk,i_ c.hq,u_ 0,b_ false,u_ 0,u_ 0,u_ 0,u_ 0,u_ 0,u_ 0,u_ 0,u_ 0,b_ false,u_ 0,u_ 0,u_ 0,u_ 0,u_ 0,u_ 0,u_ 0,u_ 0,b_ false,u_ 0,u_ 0,u_ 0,b_ false,u_ 0,u_ 0,u_ 0,u_ 0,u_ 0,u_ 0,u_ 0,u_ 0,b_ false,u_ 0,b_ false,u_ 0,u_ 0,u_ 0,u_ 0,u_ 0,u_ 0,u_ 0,u_ 0,b_ false,u_ 0] 225) ?_
 intro b2
 refine bS<|bB [.ld 0] [(8,b_ c.hl)]<|iD c.hl (λe1=>?_)<|λe1=>?_
 ·exact absurd e1<|by(intro h_;simp_all)
 refine aO<|aE [(2,p_ b2)]<|aF<|bR [1] [p_ b2] (b2) ?_ ?_
 ·rfl
 trivial
theorem IF{a b:List V.aI}(h:a.Perm b):(aN a).Perm (aN b):=h.flatMap_right _
def FT(c:Cl)(m:En):Prop:=m.ec=c∧lE m∧m.tot=0∧m.du=Gg∧m.sh=lF∧m.li=rB∧(c.hl=true→L0 c m.q)∧(c.hl=false→m.q=default)
def Yb(m:En):V.aI:=co<|fj m
theorem TJ(c:Cl)(h:c.hl=true→(1≤c.hk∧c.hk≤64)∧1≤c.hq∧c.hq≤1048576)(w:World)(hs:HS w (aN []) [] w):Calls Tryz.prog 73 #[.agg (aX c).toArray] w λe w'=> ∃zz:En,e= .returned (p_ zz.eb)∧FT c zz∧Turn [] [Yb zz] w w':=by
 cases hl:c.hl with
 |true=>
  obtain⟨⟨h1,h2⟩,h3,h4⟩:=h hl
  refine(TI c hl h1 h2 ⟨h3,h4⟩ w hs).mono ?_
  rintro e w' ⟨⟨xb,bq,q⟩,a1,a2,a3⟩
  refine⟨⟨xb,some bq,q,c,0,Gg,lF,rB⟩,a1,⟨rfl,⟨by simp[hl],by simp,λ_=>a2.1⟩,rfl,rfl,rfl,rfl,λ_=>a2,λh=>(by rw[hl] at h;cases h)⟩,?_⟩
  refine Turn.coR (Y:=[]) ?_
  rw[List.append_nil]
  have e: ∀x y:V.aI,([x,y]:List V.aI).Perm [y,x]:=λx y=> .swap _ _ _
  exact⟨a3.fr,λit hi=>a3.all it<|(e _ _).mem_iff.1 hi,(IF<|e _ _).nodup_iff.2 a3.nodup,λb hb=>a3.own b<|(IF<|e _ _).mem_iff.1 hb⟩
 |false=>
  refine(X9 c hl w hs).mono ?_
  rintro e w' ⟨xb,a1,-,a3⟩
  refine⟨⟨xb,none,default,c,0,Gg,lF,rB⟩,a1,⟨rfl,⟨by simp[hl],λ_=>rfl,by simp⟩,rfl,rfl,rfl,rfl,λh=>(by rw[hl] at h;cases h),λ_=>rfl⟩,?_⟩
  refine Turn.coR (Y:=[]) ?_
  rw[List.append_nil]
  refine⟨a3.fr,λit hi=>?_,?_,?_⟩
  ·simp only[fj,List.mem_cons,List.not_mem_nil,or_false] at hi
   rcases hi with rfl|rfl
   ·intro it hi;cases hi
   ·exact a3.all _<|List.mem_singleton.2 rfl
  ·exact a3.nodup
  ·exact a3.own
end Go.Proofs.YtobgjpigngoggaaGreat
namespace Go.Proofs.YtobgjpigngoggaaGreat.V
open Go
theorem TK{L R:Za}{off m N:Nat}(h1:m≤N)(h2:off+N≤L.length)(hR:R.length=N-m):((L.take (off+m)++R++L.drop (off+m+R.length)).drop off).take N=((L.drop off).take N).take m++R:=by
 apply List.ext_getElem?
 intro i
 simp only[List.getElem?_take,List.getElem?_drop,List.getElem?_append,List.length_append,List.length_take,List.length_drop,hR]
 by_cases a:i<m
 ·rw[if_pos<|by omega,if_pos<|by omega,if_pos<|by omega,if_pos<|by omega,if_pos<|by omega,if_pos<|by omega,if_pos<|by omega]
 ·by_cases b:i<N
  ·rw[if_pos b,if_pos<|by omega,if_neg<|by omega,if_neg<|by omega]
   congr 1;omega
  ·rw[if_neg b,if_neg<|by omega]
   exact(List.getElem?_eq_none<|by omega).symm
section
variable{P:Program}{n:Nat}{env:aT}{w0:World}{S:E6}{H R H':List aI}{ops:Zb}{o:Oper}{K:Wy}
theorem Yz{α:Type}(i m:Nat){t ty:TypeId}{x:Operand}{A:k0}{c:Nat}{z:Value}{enc:α→Za}{xs:List α}(z0:α)(H':List aI)(hok:ff ops n env o none=true)(ho:o.op= .call {callee:= .builtin .clear,args:=#[x],argTypes:=#[t]})
  (hx:ev env x=some (.slice (ij A c m 1) (xs.drop m).length (c-m)))(ht:P.underlying t=some (.slice ty))(hz:(P.info? ty).bind (·.zero)=some z)(hzc:z.cells=#[z])(h1:z.oneCell'=true)(he0:enc z0=[z])(he: ∀x,(enc x).length=1)(hm:m<xs.length)
  (hi:H[i]? =some (sl A xs.length c ty 1<|aP enc xs))(hH:H.set i (sl A (xs.take m++List.replicate (xs.length-m) z0).length c ty 1 (aP enc<|xs.take m++List.replicate (xs.length-m) z0))=H')(h:V.A n env w0 S H' K):V.A n env w0 S H (cz P ops o K):=by
 intro a w r s
 obtain⟨h1',h2,h3,h4⟩:=jf hok
 unfold cz
 rw[if_pos<|ic r h1']
 have hs:zU A xs.length c ty 1 (aP enc xs) w:=s.mem hi
 obtain⟨q1,q2,q3,⟨rfl,q4⟩|⟨g,off,cO,rfl,hg,hle,htake⟩⟩:=hs
 ·omega
 have hA:ij (some (⟨g,off,none⟩:Addr)) c m 1=some ⟨g,off+m,none⟩:=by
  unfold ij;rw[if_neg<|by omega]
  show some ((⟨g,off,none⟩:Addr).add (m*1))=_
  rw[Nat.mul_one,oZ]
 rw[hA,List.length_drop] at hx
 have hcur:cO=cO.toList.toArray:=by simp
 have hh:w.heap[g]? =some (.cells cO.toList.toArray ty (0,0)):=by rw[hg]
 have hv: ∀w,(zeroValue ty).run P w= .ok z w:=λw=>by
  simp only[Option.bind_eq_some_iff] at hz
  obtain⟨inf,hinf,hz⟩:=hz
  simp[zeroValue,typeInfo,hinf,hz]
 have hst:=run_storeCells_at P g (off+m) ty (List.replicate (xs.length-m) z) 0 cO.toList.toArray w hh (by simp;omega) (λv hv=>by rw[List.eq_of_mem_replicate hv];exact h1)
 simp only[Nat.add_zero] at hst
 have hzl:(Builtin.zeroCells z.cells<|xs.length-m).toList=List.replicate (xs.length-m) z:=by
  rw[hzc]
  simp[Builtin.zeroCells]
  apply List.ext_getElem
  ·simp
  ·intro i h1 h2
   simp[Nat.mod_one]
 have hrun:(execOp a.eval o).run P w= .ok (.value<|.tuple #[]) (w.setRow g (cO.toList.take (off+m)++List.replicate (xs.length-m) z++cO.toList.drop (off+m+(List.replicate (xs.length-m) z).length)).toArray):=by
  obtain⟨j,hj⟩: ∃j,xs.length-m=j+1:=⟨xs.length-m-1,by omega⟩
  rw[hj] at hx hzl hst⊢
  simp[execOp,ho,resolve,invoke,builtin,r.ev hx,Builtin.clear_,run_underlying ht,hv,hzl]
  simp at hst
  rw[hst];simp
 unfold Oper.wp
 rw[hrun]
 simp only[Oper.upon,h2]
 refine h _ _ r ?_
 rw[←hH]
 have hf: ∀l:List α,(aP enc l).length=l.length:=λl=>by have:=tR (sz:=1) he (xs:=l);omega
 refine s.turn hi (wV _ _ _) ?_ (by simp[sl,fZ])<|λb hb=> .inl hb
 have hln:(xs.take m++List.replicate (xs.length-m) z0).length=xs.length:=by simp;omega
 refine⟨by rw[hf];omega,by rw[hln];exact q2,q3,.inr ⟨g,off,_,rfl,wW w g _ _ ty hh,by simp;omega,?_⟩⟩
 rw[hln]
 have e2:aP enc (xs.take m++List.replicate (xs.length-m) z0)=(aP enc xs).take m++List.replicate (xs.length-m) z:=by
  unfold aP
  rw[List.flatMap_append]
  congr 1
  ·have: ∀(l:List α)(m:Nat),(l.take m).flatMap enc=(l.flatMap enc).take m:=λl=>by
    induction l with
    |nil=>simp
    |cons y l ih=>
     intro m
     cases m with
     |zero=>simp
     |succ m=>
      obtain⟨v,hv⟩:=List.length_eq_one_iff.1<|he y
      simp[hv,ih]
   exact this xs m
  ·have: ∀j:Nat,(List.replicate j z0).flatMap enc=List.replicate j z:=λj=>by
    induction j with
    |zero=>rfl
    |succ j ih=>rw[List.replicate_succ,List.flatMap_cons,ih,he0];rfl
   exact this _
 rw[e2,←htake]
 show((List.toArray _).toList.drop off).take _=_
 simp only[List.toList_toArray,Nat.mul_one]
 exact TK (by omega) (by simpa using(by omega:off+xs.length≤cO.size))<|by simp
end
section
variable{P:Program}{n:Nat}{env:aT}{w0:World}{S:E6}{H R H':List aI}{G:Wy}{β:Type}{f:β→List aI}{kv:List (Int×β)}{k:Int}{m:β}{ek:Int→Value}{ev:β→Value}{b:Nat}
theorem xE(k:Int): ∀kv:List (Int×β),List.Sublist (aW kv k) kv
 |[]=>by simp[aW]
 |p::kv=>by
  unfold aW;split
  ·exact List.sublist_cons_self _ _
  ·exact(xE k kv).cons_cons p
theorem Ir{kw:List (Int×β)}(h:List.Sublist kv kw):List.Sublist (lq f kv) (lq f kw):=by
 induction h with
 |slnil=>exact .refl _
 |cons a h ih=>simp only[lq,List.flatMap_cons] at ih⊢;exact ih.trans<|List.sublist_append_right _ _
 |cons_cons a h ih=>simp only[lq,List.flatMap_cons] at ih⊢;exact(List.Sublist.refl _).append ih
theorem Yq(is:E6)(hp:fh is H=some ([bH ek ev b<|aW kv k,df f kv],R))(hH:co [bH ek ev b<|aW kv k,df f<|aW kv k]::R=H')(h:V.A n env w0 S H' G):V.A n env w0 S H G:=
 wO is (λ_:Unit=>True) (λ_=>[co [bH ek ev b<|aW kv k,df f<|aW kv k]]) (λ_=>H') hp (λw hs=>by
  have hsub:List.Sublist (aN [co [bH ek ev b<|aW kv k,df f<|aW kv k]]) (aN [bH ek ev b<|aW kv k,df f kv]):=by
   simp only[aN,co,df,bH,List.flatMap_cons,List.flatMap_nil,List.append_nil]
   exact(List.Sublist.refl [b]).append (Ir<|xE k kv)
  refine⟨(),trivial,λit hi=>?_,hs.nodup.sublist hsub,λc hc=>hsub.subset hc⟩
  rw[List.mem_singleton] at hi;subst hi
  intro it hi
  simp only[List.mem_cons,List.not_mem_nil,or_false] at hi
  rcases hi with rfl|rfl
  ·exact hs.all _<|by simp
  ·exact λp hq=>(show(df f kv).holds w from hs.all _<|by simp) p<|(xE k kv).subset hq) (λ_=>by simpa using hH) (λ_ _=>h)
theorem Yr(is:E6)(hp:fh is H=some ([bH ek ev b<|aJ kv k m,df f kv,co<|f m],R))(hH:co [bH ek ev b<|aJ kv k m,df f<|aJ kv k m]::R=H')(h:V.A n env w0 S H' G):V.A n env w0 S H G:=
 wO is (λ_:Unit=>True) (λ_=>[co [bH ek ev b<|aJ kv k m,df f<|aJ kv k m]]) (λ_=>H') hp (λw hs=>by
  have hmp:=(qe k m kv).flatMap_right (λp:Int×β=>aN<|f p.2)
  simp only[List.flatMap_cons] at hmp
  have hsub:List.Sublist ([b]++(lq f (aW kv k)++aN (f m))) (aN [bH ek ev b<|aJ kv k m,df f kv,co<|f m]):=by
   simp only[aN,co,df,bH,List.flatMap_cons,List.flatMap_nil,List.append_nil]
   exact(List.Sublist.refl [b]).append ((Ir<|xE k kv).append (.refl _))
  have hpm:(aN [co [bH ek ev b<|aJ kv k m,df f<|aJ kv k m]]).Perm ([b]++(lq f (aW kv k)++aN (f m))):=by
   simp only[aN,co,df,bH,lq,List.flatMap_cons,List.flatMap_nil,List.append_nil] at hmp⊢
   exact(List.Perm.refl [b]).append (hmp.trans List.perm_append_comm)
  refine⟨(),trivial,λit hi=>?_,hpm.nodup_iff.2<|hs.nodup.sublist hsub,λc hc=>hsub.subset<|hpm.mem_iff.1 hc⟩
  rw[List.mem_singleton] at hi;subst hi
  intro it hi
  simp only[List.mem_cons,List.not_mem_nil,or_false] at hi
  rcases hi with rfl|rfl
  ·exact hs.all _<|by simp
  ·intro p hq it hi
   rcases List.mem_cons.1 ((qe k _ kv).mem_iff.1 hq) with rfl|hq
   ·exact(show(co<|f m).holds w from hs.all _<|by simp) it hi
   ·exact(show(df f kv).holds w from hs.all _<|by simp) p ((xE k kv).subset hq) it hi) (λ_=>by simpa using hH) (λ_ _=>h)
theorem Yu(is:E6)(hp:fh is H=some ([bH ek ev b []],R))(hH:co [bH ek ev b [],df f []]::R=H')(h:V.A n env w0 S H' G):V.A n env w0 S H G:=
 yT is (Os:=[co [bH ek ev b [],df f []]]) hp (λw hw it hi=>by
  rw[List.mem_singleton] at hi;subst hi
  intro it hi
  simp only[List.mem_cons,List.not_mem_nil,or_false] at hi
  rcases hi with rfl|rfl
  ·exact hw _<|by simp
  ·intro p hp;cases hp) (by simp[aN,co,df,lq,bH]) (by simpa using hH) h
theorem DN{α:Type}{enc:α→Za}(he: ∀x,(enc x).length=1): ∀(l:List α)(m:Nat),aP enc (l.take m)=(aP enc l).take m
 |[],m=>by simp[aP]
 |y::l,0=>by simp[aP]
 |y::l,m+1=>by
  obtain⟨v,hv⟩:=List.length_eq_one_iff.1<|he y
  have ih:=DN he l m
  unfold aP at ih⊢
  simp[hv,ih]
theorem Yv{α:Type}(i m:Nat){A:k0}{c:Nat}{t:TypeId}{enc:α→Za}{xs:List α}(ys:List α)(he: ∀x,(enc x).length=1)(e:xs.take m=ys)(hp:fh [i] H=some ([sl A xs.length c t 1<|aP enc xs],R))(hH:sl A ys.length c t 1 (aP enc ys)::R=H')(h:V.A n env w0 S H' G):V.A n env w0 S H G:=by
 subst e
 refine V.yT [i] (Os:=[sl A (xs.take m).length c t 1 (aP enc<|xs.take m)]) hp (λw hw it hi=>?_) (by simp[aN,sl]) hH h
 rw[List.mem_singleton] at hi;subst hi
 obtain⟨h1,h2,h3,h4⟩:zU A xs.length c t 1 (aP enc xs) w:=hw _<|List.mem_singleton.2 rfl
 have hl:(aP enc<|xs.take m).length=(xs.take m).length*1:=by rw[DN he,List.length_take,h1,List.length_take];omega
 refine⟨hl,by rw[List.length_take];omega,h3,?_⟩
 rcases h4 with h4|⟨g,off,cO,h5,h6,h7,h8⟩
 ·exact .inl h4
 ·refine .inr ⟨g,off,cO,h5,h6,h7,?_⟩
  rw[DN he,←h8,List.take_take,List.length_take]
  congr 1;omega
end
section
variable{P:Program}{n:Nat}{env:aT}{w0:World}{S:E6}{H R R2 H':List aI}{ops:Zb}{o:Oper}{K:Wy}{β:Type}{f:β→List aI}{kv:List (Int×β)}{k:Int}{ek:Int→Value}{ev:β→Value}{b:Nat}
variable{x y:Operand}{t kt et:TypeId}
theorem OB(i:Nat){t2:TypeId}(hok:ff ops n env o none=true)(ho:o.op= .call {callee:= .builtin .delete,args:=#[x,y],argTypes:=#[t,t2]})(hx:V.ev env x=some (.map<|some b))(hy:V.ev env y=some (ek k))
  (ht:P.underlying t=some (.map kt et))(hk:jk P kt ek)(hi:fh [i] H=some ([co [bH ek ev b kv,df f kv]],R))(hH:co [bH ek ev b<|aW kv k,df f<|aW kv k]::R=H')(h:V.A n env w0 S H' K):V.A n env w0 S H (cz P ops o K):=
 OL i hi rfl (wQ 0 ([bH ek ev b<|aW kv k,df f kv]++R) hok ho hx hy ht hk rfl rfl (Yq [0,0] rfl hH h))
theorem CE(i j:Nat)(m:β){z:Operand}(hok:ff ops n env o none=true)(ho:o.op= .mapUpdate t x y z)(hx:V.ev env x=some (.map<|some b))(hy:V.ev env y=some (ek k))(hz:V.ev env z=some (ev m))
  (ht:P.underlying t=some (.map kt et))(hk:jk P kt ek)(hi:fh [i] H=some ([co [bH ek ev b kv,df f kv]],R))(hj:fh [j] R=some ([co<|f m],R2))(hH:co [bH ek ev b<|aJ kv k m,df f<|aJ kv k m]::R2=H')(h:V.A n env w0 S H' K):V.A n env w0 S H (cz P ops o K):=
 OL i hi rfl (Gp 0 m ([bH ek ev b<|aJ kv k m,df f kv]++R) hok ho hx hy hz ht hk rfl rfl (Yr [0,0,j] (by show(match(match fh [j] R with|some (a,r)=>some (df f kv::a,r)|none=>none) with|some (a,r)=>some (bH ek ev b (aJ kv k m)::a,r)|none=>none)=_;rw[hj]) hH h))
end
end Go.Proofs.YtobgjpigngoggaaGreat.V
namespace Go.Proofs.YtobgjpigngoggaaGreat
open Go V
def qE(kb:List (Int×En))(i:Int):Bool:=decide ((((aB kb i).map λm:En=>(qC m.q).length).getD 0:Int)=0)
variable{kb:hV En}{m:En}
theorem Xa{i:Int}(h:aB kb i=some m):qE kb i=decide (((qC m.q).length:Int)=0):=by unfold qE;rw[h];simp
def wC(kc:List (Int×Cl)):List Int:=aV kc<|λv_=>v_.hl
def eY(kc:List (Int×Cl))(kb:List (Int×En)):List Int:=(wC kc).filter λi=> !qE kb i
structure qy(p:Int→Bool)(l:List Int)(j i:Nat)(ys:List Int):Prop where
 len:ys.length=l.length
 kept:ys.take i=(l.take j).filter λx=> !p x
 rest:ys.drop j=l.drop j
 le:i<j
 jl:j≤l.length
variable{p:Int→Bool}{l:Wx}{k:Nat}{x:Int}
theorem PH(hk:l[k]? =some x)(hp:p x=true)(hn: ∀j y,j<k→l[j]? =some y→p y=false):qy p l (k+1) k l:=by
 have hl:=(Zf.1 hk).1
 refine⟨rfl,?_,rfl,by omega,by omega⟩
 rw[List.take_add_one,hk,List.filter_append]
 have:(l.take k).filter (λx=> !p x)=l.take k:=List.filter_eq_self.2 λy hy=>by
  obtain⟨j,h1,h2⟩:=List.getElem_of_mem hy
  rw[List.length_take] at h1
  have:l[j]? =some y:=by rw[←h2];simp[Ze (show j<l.length by omega)]
  rw[hn j y (by omega) this];rfl
 rw[this];simp[hp]
variable{ys:Wx}{j i:Nat}
theorem Qp(h:qy p l j i ys)(hx:ys[j]? =some x)(hp:p x=true):qy p l (j+1) i ys:=by
 have hl:=(Zf.1 hx).1
 have hx2:l[j]? =some x:=by rw[←hx];have:=congrArg (·[0]?) h.rest;simpa using this.symm
 refine⟨h.len,?_,?_,by have:=h.le;omega,by rw[←h.len];omega⟩
 ·rw[List.take_add_one,hx2,List.filter_append,h.kept];simp[hp]
 ·have:=congrArg (List.drop 1) h.rest;simpa[Nat.add_comm] using this
theorem Pj(h:qy p l j i ys)(hx:ys[j]? =some x)(hp:p x=false):qy p l (j+1) (i+1) (ys.set i x):=by
 have hl:=(Zf.1 hx).1
 have hx2:l[j]? =some x:=by rw[←hx];have:=congrArg (·[0]?) h.rest;simpa using this.symm
 have hle:=h.le
 refine⟨by rw[List.length_set];exact h.len,?_,?_,by omega,by rw[←h.len];omega⟩
 ·rw[List.take_add_one,List.take_set_of_le<|by omega,h.kept,List.getElem?_set_self<|by omega,List.take_add_one,hx2,List.filter_append];simp[hp]
 ·rw[List.drop_set_of_lt<|by omega]
  have:=congrArg (List.drop 1) h.rest;simpa[Nat.add_comm] using this
theorem Qq(h:qy p l j i ys)(hj:l.length≤j):ys.take i=l.filter λx=> !p x:=by rw[h.kept,List.take_of_length_le hj]
variable{kc:hV Cl}{z:Int}
theorem NJ(hB:eW kc kb)(h:(aV kc<|λv_=>v_.hl)[k]? =some z): ∃m,aB kb z=some m∧lE m:=by
 obtain⟨m,hm⟩:=NG hB h
 exact⟨m,hm,(hB z).2 m hm⟩
theorem Aw(hB:eW kc kb)(hk:(aV kc<|λv_=>v_.hl).length≤k)(hn: ∀j y,j<k→(aV kc<|λv_=>v_.hl)[j]? =some y→qE kb y=false):eY kc kb=aV kc (λv_=>v_.hl):=by
 unfold eY wC
 refine List.filter_eq_self.2 λy hy=>?_
 obtain⟨j,h1,h2⟩:=List.getElem_of_mem hy
 rw[hn j y (by omega) (by rw[←h2];exact Ze h1)];rfl
theorem Qr(h:qy p l j i ys)(hx:ys[j]? =some x):l[j]? =some x:=by rw[←hx];have:=congrArg (·[0]?) h.rest;simpa using this.symm
theorem NK(sb:Nat)(lt lm:Int)(bt:Nat)(my:Nat)(kb:hV En)(ab eb mk:Nat)(ck ac:Int)(bx:Nat)(ci:Int)(hm: ∃m,aB kb ci=some m∧lE m)(w:World)(r0:(aA bx [p_ sb] 102).holds w)(r1:(aA sb [i_ lt,i_ lm,p_ bt,.map<|some my,p_ ab,p_ eb,.map<|some mk,u_ ck,u_ ac] 141).holds w)(r2:(dj my kb).holds w):
  CW 106 #[i_ ci,p_ bx] w (b_<|qE kb ci):=by
 refine aU Tryz.func106 rfl (HS.nil w) (aE []<|aC<|eI 5 [.rd [p_ sb],.rd [.map<|some my]] [(7,.map<|some my),(8,i_ ci)] (oc (ro ⟨bx,0,none⟩ (vs:=[p_ sb])<|cE r0 rfl)<|o1<|ro ⟨sb,3,none⟩ (vs:=[.map<|some my])<|cE r1 rfl) ?_)
 obtain⟨m1,hk1,hEO1⟩:=hm
 refine aG<|cC (some 9) (p_ m1.eb) (kP (kt:=3) (et:=167) (k:=ci) (λww ss=>nm<|bK ss r2) hk1 rfl rfl rfl (by kernel_rfl) eG rfl) ?_
 refine aj [.rd [qp m1.qb],.cq<|i_ ((qC m1.q).length:Int)] [(3,b_<|((qC m1.q).length:Int)==0)] (oc (ro ⟨m1.eb,0,none⟩ (vs:=[qp m1.qb])<|fU (λww ss=>(fk (bK ss r2) hk1:)) rfl)<|o1<|qo<|λww ss=>xr my kb ci m1 (qp m1.qb) hk1 (by rfl) ‹_› ww (bK ss r2)) ?_
 refine aF<|bJ [b_<|((qC m1.q).length:Int)==0] ?_
 refine congrArg Value.bool ?_;rw[Xa ‹_›,Bool.eq_iff_iff];simp
abbrev FU(p0):=((1,.func (.func 106) #[] #[p_ p0]):Nat×Value)
theorem Da(sb:Nat)(lt lm:Int)(bt mc:Nat)(kc:hV Cl)(my:Nat)(kb:hV En)(ab eb mk:Nat)(ck ac:Int)(hL:cB kc)(hB:eW kc kb)(w:World)(r0:(aA sb [i_ lt,i_ lm,p_ bt,.map<|some my,p_ ab,p_ eb,.map<|some mk,u_ ck,u_ ac] 141).holds w)(r1:(aA bt [.map<|some mc] 185).holds w)(r2:(cN mc kc).holds w)(r3:(dj my kb).holds w)(hs:HI w []):
  CV 71 #[p_ sb] w [] (λ((al',cl'):(k0)×Nat)=>(vS al' (eY kc kb) cl')) (λ_=>True) λ(al',cl')=>[sI al' (eY kc kb) cl']:=by
 have hkl:=hL.len
 have hkf:=rM kc<|λv_=>v_.hl
 refine aU Tryz.func71 rfl hs (aC<|dL [.al] [] (λb1=>[(1,p_ b1)]) (λb1=>aA b1 [p_ sb] 102) ?_)
 intro b1
 refine Y6<|eI 4 [.ld 0,.rd [p_ bt]] [(6,p_ bt)] (o1<|ro ⟨sb,2,none⟩ (vs:=[p_ bt])<|cE r0 rfl)<|aG<|dH (some 7) [] (λw s h=>PU bt mc kc (by omega) w (bK s r1) (bK s r2) h) ?_
 rintro⟨al'2,cl'3⟩-
 refine cV [.p] [(7,vS al'2 (aV kc<|λv_=>v_.hl) cl'3),(8,.func (.func 106) #[] #[p_ b1])]<|aG<|eM (some 9) [vS al'2 (aV kc<|λv_=>v_.hl) cl'3,.func (.func 106) #[] #[p_ b1]] Tryz.func104 rfl (aE []<|aC<|an 2 [] [(8,vS al'2 (aV kc<|λv_=>v_.hl) cl'3),(9,.func (.func 106) #[] #[p_ b1])]<|aG<|eM (some 10) [vS al'2 (aV kc<|λv_=>v_.hl) cl'3,.func (.func 106) #[] #[p_ b1]] Tryz.func98 rfl (aE []<|aD<|aE [(7,i_ ((aV kc<|λv_=>v_.hl).length:Int)),(8,i_ 0)]<|aR<|iC (σ:=Nat) [] (λk=>[(8,c_ k)]) [] (λk=>[]) (λk=>(k≤(aV kc<|λv_=>v_.hl).length)∧(∀j y,j<k→(aV kc<|λv_=>v_.hl)[j]? =some y→qE kb y=false)) (λk=>(aV kc<|λv_=>v_.hl).length-k) (0:Nat) ⟨(by omega),(by intro j y hj;omega)⟩ ?_ ?_))
 ·exact cX [0,0]
 rintro k ⟨hk,hn⟩
 refine aE [(9,b_<|decide ((k:Int)<((aV kc<|λv_=>v_.hl).length:Int)))]<|aD<|aL rfl (λe2=>?_) (λe2=>?_)
 ·have p2:=Zg e2
  refine az<|aR<|aE [(5,c_ k)]<|aC<|eI 4 [.ix] [(11,.func (.func 106) #[] #[p_ b1]),(14,.pointer<|some<|(au al'2).add (k*1))] (o1<|jV 0 k dG rfl (by omega)) ?_
  obtain⟨x5,hx5⟩: ∃x,((aV kc<|λv_=>v_.hl))[k]? =some x:=⟨_,Ze<|by omega⟩
  refine aj [.rd [i_ x5],.cq<|b_<|qE kb x5] [(16,b_<|qE kb x5)] (oc (ro ((au al'2).add (k*1))<|dr (vs:=[i_ x5]) dG (bW (i:=0) rfl) hx5 (Nat.le_of_ble_eq_true rfl) rfl)<|o1<|qo<|λw s=>NK sb lt lm bt my kb ab eb mk ck ac b1 x5 (NJ hB ‹_›) w (s.mem (i:=1) rfl) (bK s r0)<|bK s r3)<|aL rfl (λe3=>?_) (λe3=>?_)
  ·have p3:=e3;try simp only[cR] at p3
   refine aE [(4,c_ k)]<|aF<|d6 [c_ k]<|da [] [(0,vS al'2 (aV kc<|λv_=>v_.hl) cl'3),(FU b1),(5,c_ k)]<|aD<|aE [(12,b_<|(k:Int)==(-1))]<|aL rfl (λe4=>?_) (λe4=>?_)
   ·have p4:=e4;try simp only[cR] at p4
    refine aE [(4,vS al'2 (aV kc<|λv_=>v_.hl) cl'3)]<|aF<|d6 [vS al'2 (aV kc<|λv_=>v_.hl) cl'3]<|aQ [(2,vS al'2 (aV kc<|λv_=>v_.hl) cl'3)]<|aF<|ca 0 (sI al'2 (eY kc kb) cl'3) rfl (eJ ((Aw hB (by omega) hn).symm:(aV kc<|λv_=>v_.hl)=(eY kc kb))) (bR [0] [vS al'2 (aV kc<|λv_=>v_.hl) cl'3] (al'2,cl'3) ?_ ?_)
    ·show((vS al'2 (aV kc<|λv_=>v_.hl) cl'3):Value)=(vS al'2 (eY kc kb) cl'3)
     rw[Aw hB (by omega) hn]
    trivial
   have p4:=e4;try simp only[cR] at p4
   refine az<|dF [.w<|(k:Int)+1] [(6,i_<|(k:Int)+1)] (o1<|wj ((k:Int)+1)<|by omega)<|aR<|fY (λ((j,i,ys):Nat×Nat×(Wx))=>[(FU b1),(6,c_ j),(5,c_ i),(0,vS al'2 ys cl'3)]) (λ((j,i,ys):Nat×Nat×(Wx))=>[aA b1 [p_ sb] 102,sI al'2 ys cl'3]) (λ((j,i,ys):Nat×Nat×(Wx))=>(qy (qE kb) (aV kc<|λv_=>v_.hl) j i ys)) (λ((j,i,ys):Nat×Nat×(Wx))=>(aV kc<|λv_=>v_.hl).length-j) (k+1,k,aV kc<|λv_=>v_.hl) (PH ‹_› ‹_› hn) ?_ ?_
   ·exact cX [1,0]
   rintro⟨j,i,ys⟩ hD
   have hD:qy (qE kb) (aV kc<|λv_=>v_.hl) j i ys:=hD
   have hDl:=hD.len;have hDj:=hD.jl;have hDe:=hD.le
   refine aD<|aE [(19,b_<|decide ((j:Int)<(ys.length:Int)))]<|aL rfl (λe5=>?_) (λe5=>?_)
   ·have p5:=Zg e5
    refine az<|aR<|aC<|eI 3 [.ix] [(24,.pointer<|some<|(au al'2).add (j*1))] (o1<|jV 1 j dG rfl (by omega)) ?_
    obtain⟨x6,hx6⟩: ∃x,(ys)[j]? =some x:=⟨_,Ze<|by omega⟩
    refine aj [.rd [i_ x6]] [(7,i_ x6)] (o1<|ro ((au al'2).add (j*1))<|dr (vs:=[i_ x6]) dG (bW (i:=1) rfl) hx6 (Nat.le_of_ble_eq_true rfl) rfl)<|dF [.cq<|b_<|qE kb x6] [(29,b_ (!(qE kb x6)))] (o1<|qo<|λw s=>NK sb lt lm bt my kb ab eb mk ck ac b1 x6 (NJ hB<|Qr hD ‹_›) w (s.mem (i:=0) rfl) (bK s r0)<|bK s r3)<|aL rfl (λe6=>?_) (λe6=>?_)
    ·have p6:=e6;try simp only[cR] at p6
     refine aC<|eI 4 [.ix] [(32,i_ x6),(33,.pointer<|some<|(au al'2).add (i*1))] (o1<|jV 1 i dG rfl (by omega))<|aG<|Gn 1 i x6 rfl dG (by omega) (dO 0 (vS al'2 (ys.set i x6) cl'3) (uW<|by simp)<|eE<|aM<|aj [.w<|(i:Int)+1] [(5,i_<|(i:Int)+1)] (o1<|wj ((i:Int)+1)<|by omega)<|aM<|aj [.w<|(j:Int)+1] [(6,i_<|(j:Int)+1)] (o1<|wj ((j:Int)+1)<|by omega)<|bN (j+1,i+1,ys.set i x6) (Pj hD ‹_› ‹_›) (by(show(aV kc<|λv_=>v_.hl).length-(j+1)<(aV kc<|λv_=>v_.hl).length-j;have h_:=hD.jl;have h2_:=hD.len;omega)) ?_)
     exact cX [0,0]
    have p6:=e6;try simp only[cR] at p6
    refine aO<|aM<|aj [.w<|(j:Int)+1] [(6,i_<|(j:Int)+1)] (o1<|wj ((j:Int)+1)<|by omega)<|bN (j+1,i,ys) (Qp hD ‹_› ‹_›) (by(show(aV kc<|λv_=>v_.hl).length-(j+1)<(aV kc<|λv_=>v_.hl).length-j;have h_:=hD.jl;have h2_:=hD.len;omega)) ?_
    exact cX [0,0]
   have p5:=Zh e5
   refine bg<|aC<|an 2 [] [(36,vS al'2 ys cl'3),(37,c_ i)]<|aG<|cC (some 38) (vS (ij al'2 cl'3 i 1) (ys.drop i)<|cl'3-i) (DR (e:=3) (xs:=ys) (sz:=1) i rfl rfl rfl (by kernel_rfl) (by kernel_rfl) (by omega) (λw s=>KV<|s.mem (i:=1) rfl))<|aG<|Yz (enc:=gq) (xs:=ys) 1 i 0 [aA b1 [p_ sb] 102,sI al'2 (ys.take i++List.replicate (ys.length-i) 0) cl'3] (by kernel_rfl) rfl rfl (by kernel_rfl) (by kernel_rfl) rfl rfl rfl (λ_=>rfl) (by omega) rfl rfl (ei [(5,c_ i),(0,vS al'2 (ys.take i++List.replicate (ys.length-i) 0) cl'3),(36,vS al'2 (ys.take i++List.replicate (ys.length-i) 0) cl'3),(37,c_ i),(38,vS (ij al'2 cl'3 i 1) (ys.drop i)<|cl'3-i)] (by exact⟨rfl,uW (by simp;omega),uW (by simp;omega),rfl,rfl,trivial⟩)<|eE<|aC<|an 2 [] [(39,vS al'2 (ys.take i++List.replicate (ys.length-i) 0) cl'3),(40,c_ i)]<|aG<|cC (some 41) (vS al'2 ((ys.take i++List.replicate (ys.length-i) 0).take i) cl'3) (QK (e:=3) (xs:=(ys.take i++List.replicate (ys.length-i) 0)) (sz:=1) i rfl rfl rfl (by kernel_rfl) (by kernel_rfl) (by(simp;(have h1_:=hD.le;have h2_:=hD.jl;have h3_:=hD.len;omega))) (λw s=>KV<|s.mem (i:=1) rfl))<|aQ [(4,vS al'2 ((ys.take i++List.replicate (ys.length-i) 0).take i) cl'3)] ?_)
   have hcut:((ys.take i++List.replicate (ys.length-i) 0)).take i=(eY kc kb):=by have h1_:=hD.le;have h2_:=hD.jl;have h3_:=hD.len;rw[List.take_append_of_le_length (by simp;omega),List.take_take,Nat.min_self];exact Qq hD (by show(aV kc<|λv_=>v_.hl).length≤_;omega)
   refine Yv 1 i (eY kc kb) (λ_=>rfl) hcut rfl rfl (ei [(4,vS al'2 (eY kc kb) cl'3)] ⟨kJ hcut,trivial⟩<|aF<|d6 [vS al'2 (eY kc kb) cl'3]<|aQ [(2,vS al'2 (eY kc kb) cl'3)]<|aF<|bR [0] [vS al'2 (eY kc kb) cl'3] (al'2,cl'3) ?_ ?_)
   ·rfl
   trivial
  have p3:=e3;try simp only[cR] at p3
  refine aO<|aM<|aj [.w<|(k:Int)+1] [(8,i_<|(k:Int)+1)] (o1<|wj ((k:Int)+1)<|by omega)<|bN (k+1) ⟨(by omega),(by intro j y hj_ hy_;rcases Nat.lt_succ_iff_lt_or_eq.1 hj_ with h_|rfl;exact hn j y h_ hy_;simp_all)⟩ (by(show(aV kc<|λv_=>v_.hl).length-(k+1)<(aV kc<|λv_=>v_.hl).length-k;omega)) ?_
  exact cX [0,0]
 have p2:=Zh e2
 refine bg<|aE [(4,i_ (-1))]<|aF<|d6 [i_ (-1)]<|da [] [(0,vS al'2 (aV kc<|λv_=>v_.hl) cl'3),(FU b1),(5,i_ (-1))]<|aD<|aE [(12,b_ true)]<|dU<|aE [(4,vS al'2 (aV kc<|λv_=>v_.hl) cl'3)]<|aF<|d6 [vS al'2 (aV kc<|λv_=>v_.hl) cl'3]<|aQ [(2,vS al'2 (aV kc<|λv_=>v_.hl) cl'3)]<|aF<|ca 0 (sI al'2 (eY kc kb) cl'3) rfl (eJ ((Aw hB (by omega) hn).symm:(aV kc<|λv_=>v_.hl)=(eY kc kb))) (bR [0] [vS al'2 (aV kc<|λv_=>v_.hl) cl'3] (al'2,cl'3) ?_ ?_)
 ·show((vS al'2 (aV kc<|λv_=>v_.hl) cl'3):Value)=(vS al'2 (eY kc kb) cl'3)
  rw[Aw hB (by omega) hn]
 trivial
def qK(kc:List (Int×Cl))(kb:List (Int×En))(c:Int):Bool:=(eY kc kb).any λlf=>(bE kc lf).contains c
theorem Vi{c:Int}(hk:l.length≤k)(hn: ∀j y,j<k→l[j]? =some y→c≠y):l.contains c=false:=by
 rw[Bool.eq_false_iff];intro h
 rw[List.contains_iff_mem] at h
 obtain⟨j,h1,h2⟩:=List.getElem_of_mem h
 exact hn j c (by omega) (by rw[←h2];exact Ze h1) rfl
theorem TL{c y:Int}(hk:l[k]? =some y)(h:c=y):l.contains c=true:=by
 rw[List.contains_iff_mem,h];exact Zd hk
theorem FV(hk:l.length≤k)(hn: ∀j y,j<k→l[j]? =some y→p y=false):l.any p=false:=by
 rw[Bool.eq_false_iff];intro h
 rw[List.any_eq_true] at h
 obtain⟨x,hx,hp⟩:=h
 obtain⟨j,h1,h2⟩:=List.getElem_of_mem hx
 rw[hn j x (by omega) (by rw[←h2];exact Ze h1)] at hp;cases hp
theorem Jo{y:Int}(hk:l[k]? =some y)(h:p y=true):l.any p=true:=List.any_eq_true.2 ⟨y,Zd hk,h⟩
abbrev sC(p0):=(b_ (decide ((p0:Int)≥0)):Value)
theorem Xb(sb:Nat)(lt lm:Int)(bt mc:Nat)(kc:hV Cl)(my:Nat)(ab eb mk:Nat)(ck ac:Int)(b1 b2:Nat)(ci li:Int)(hL:cB kc)(w:World)(r0:(aA b1 [p_ sb] 102).holds w)(r1:(aA b2 [i_ ci] 3).holds w)(r2:(aA sb [i_ lt,i_ lm,p_ bt,.map<|some my,p_ ab,p_ eb,.map<|some mk,u_ ck,u_ ac] 141).holds w)(r3:(aA bt [.map<|some mc] 185).holds w)(r4:(cN mc kc).holds w)(hs:HI w []):
  CV 99 #[i_ li,p_ b1,p_ b2] w [] (λ(zz:Unit)=>(b_<|(bE kc li).contains ci)) (λ_=>True) λ_=>[]:=by
 have hul:=EO hL li
 refine aU Tryz.func99 rfl hs (aE []<|aD<|jx [5,7] 9 []<|tG 3 [.rd [p_ sb],.rd [p_ bt],.rd [i_ ci]] [0,1,2,3,4,6] [(8,p_ bt),(9,i_ li),(11,i_ ci)] (.refl _) (oc (ro ⟨b1,0,none⟩ (vs:=[p_ sb])<|cE r0 rfl)<|oc (ro ⟨sb,2,none⟩ (vs:=[p_ bt])<|cE r2 rfl)<|o1<|ro ⟨b2,0,none⟩ (vs:=[i_ ci])<|cE r1 rfl)<|gR 5 rfl (dH (some 10) [] (λw s h=>G5 bt mc kc li (by assumption) w (bK s r3) (bK s r4) h) ?_))
 rintro⟨al'1,cl'2⟩-
 refine gI (sd [0])<|gR 7 rfl (eM (some 12) [vS al'1 (bE kc li) cl'2,i_ ci] Tryz.func100 rfl (aE []<|aC<|an 2 [] [(5,vS al'1 (bE kc li) cl'2),(6,i_ ci)]<|aG<|eM (some 7) [vS al'1 (bE kc li) cl'2,i_ ci] Tryz.func141 rfl (aE []<|aD<|aE [(7,i_ ((bE kc li).length:Int)),(8,i_ 0)]<|aR<|iC (σ:=Nat) [] (λk=>[(8,c_ k)]) [] (λk=>[]) (λk=>(k≤(bE kc li).length)∧(∀j y,j<k→(bE kc li)[j]? =some y→ci≠y)) (λk=>(bE kc li).length-k) (0:Nat) ⟨(by omega),(by intro j y hj;omega)⟩ ?_ ?_)))
 ·exact cX [0]
 rintro k ⟨hk,hn⟩
 refine aE [(9,b_<|decide ((k:Int)<((bE kc li).length:Int)))]<|aD<|aL rfl (λe2=>?_) (λe2=>?_)
 ·have p2:=Zg e2
  refine az<|aR<|aE [(5,c_ k)]<|aC<|eI 4 [.ix] [(11,i_ ci),(14,.pointer<|some<|(au al'1).add (k*1))] (o1<|jV 0 k dG rfl (by omega)) ?_
  obtain⟨x4,hx4⟩: ∃x,((bE kc li))[k]? =some x:=⟨_,Ze<|by omega⟩
  refine aj [.rd [i_ x4]] [(16,b_<|ci==x4)] (o1<|ro ((au al'1).add (k*1))<|dr (vs:=[i_ x4]) dG (bW (i:=0) rfl) hx4 (Nat.le_of_ble_eq_true rfl) rfl)<|aL rfl (λe3=>?_) (λe3=>?_)
  ·refine aE [(4,c_ k)]<|aF<|d6 [c_ k]<|aQ [(4,sC k)]<|aF<|d6 [sC k]<|gI (sd [0])<|iL 0 [] [8] [(4,sC k)] (sd [0])<|je<|aF<|bR [] [sC k] () ?_ ?_
   ·(rw[TL ‹_› (by(simp_all;done))]<;>rfl)
   trivial
  have p3:=e3
  refine aO<|aM<|aj [.w<|(k:Int)+1] [(8,i_<|(k:Int)+1)] (o1<|wj ((k:Int)+1)<|by omega)<|bN (k+1) ⟨(by omega),(by intro j y hj_ hy_;rcases Nat.lt_succ_iff_lt_or_eq.1 hj_ with h_|rfl;exact hn j y h_ hy_;simp_all)⟩ (by(show(bE kc li).length-(k+1)<(bE kc li).length-k;omega)) ?_
  exact cX [0]
 have p2:=Zh e2
 refine bg<|aE [(4,i_ (-1))]<|aF<|d6 [i_ (-1)]<|aQ [(4,b_ false)]<|aF<|d6 [b_ false]<|gI (sd [0])<|iL 0 [] [8] [(4,b_ false)] (sd [0])<|je<|aF<|bR [] [b_ false] () ?_ ?_
 ·(rw[Vi (by omega) hn]<;>first|rfl|(refine congrArg Value.bool ?_;simp;done)|(refine congrArg Value.bool ?_;simp;omega))
 trivial
theorem Vj(sb:Nat)(lt lm:Int)(bt mc:Nat)(kc:hV Cl)(my:Nat)(kb:hV En)(ab eb mk:Nat)(ck ac:Int)(ci:Int)(hL:cB kc)(hB:eW kc kb)(w:World)(r0:(aA sb [i_ lt,i_ lm,p_ bt,.map<|some my,p_ ab,p_ eb,.map<|some mk,u_ ck,u_ ac] 141).holds w)(r1:(aA bt [.map<|some mc] 185).holds w)(r2:(cN mc kc).holds w)(r3:(dj my kb).holds w)(hs:HI w []):
  CV 69 #[p_ sb,i_ ci] w [] (λ(zz:Unit)=>(b_<|qK kc kb ci)) (λ_=>True) λ_=>[]:=by
 have hkl:=hL.len
 have hkf:=rM kc<|λv_=>v_.hl
 have hlf:(eY kc kb).length≤64:=Nat.le_trans (List.length_filter_le _ _) (by unfold wC;omega)
 refine aU Tryz.func69 rfl hs (aC<|iK [.al,.al] [] (λb1 b2=>[(2,p_ b1),(3,p_ b2)]) (λb1 b2=>[aA b1 [p_ sb] 102,aA b2 [i_ ci] 3]) ?_)
 intro b1 b2
 refine aC<|cV [.ld 0] [(5,p_ sb)]<|aG<|dH (some 6) [] (λw s h=>Da sb lt lm bt mc kc my kb ab eb mk ck ac ‹_› ‹_› w (bK s r0) (bK s r1) (bK s r2) (bK s r3) h) ?_
 rintro⟨al'3,cl'4⟩-
 refine cV [.p] [(6,vS al'3 (eY kc kb) cl'4),(7,.func (.func 99) #[] #[p_ b1,p_ b2])]<|aG<|eM (some 8) [vS al'3 (eY kc kb) cl'4,.func (.func 99) #[] #[p_ b1,p_ b2]] Tryz.func68 rfl (aE []<|aC<|an 2 [] [(5,vS al'3 (eY kc kb) cl'4),(6,.func (.func 99) #[] #[p_ b1,p_ b2])]<|aG<|eM (some 7) [vS al'3 (eY kc kb) cl'4,.func (.func 99) #[] #[p_ b1,p_ b2]] Tryz.func98 rfl (aE []<|aD<|aE [(7,i_ ((eY kc kb).length:Int)),(8,i_ 0)]<|aR<|iC (σ:=Nat) [] (λk=>[(8,c_ k)]) [] (λk=>[]) (λk=>(k≤(eY kc kb).length)∧(∀j y,j<k→(eY kc kb)[j]? =some y→(bE kc y).contains ci=false)) (λk=>(eY kc kb).length-k) (0:Nat) ⟨(by omega),(by intro j y hj;omega)⟩ ?_ ?_))
 ·exact cX [0,0,0]
 rintro k ⟨hk,hn⟩
 refine aE [(9,b_<|decide ((k:Int)<((eY kc kb).length:Int)))]<|aD<|aL rfl (λe2=>?_) (λe2=>?_)
 ·have p2:=Zg e2
  refine az<|aR<|aE [(5,c_ k)]<|aC<|eI 4 [.ix] [(11,.func (.func 99) #[] #[p_ b1,p_ b2]),(14,.pointer<|some<|(au al'3).add (k*1))] (o1<|jV 0 k dG rfl (by omega)) ?_
  obtain⟨x6,hx6⟩: ∃x,((eY kc kb))[k]? =some x:=⟨_,Ze<|by omega⟩
  refine jJ [.rd [i_ x6]] [(15,i_ x6)] (o1<|ro ((au al'3).add (k*1))<|dr (vs:=[i_ x6]) dG (bW (i:=0) rfl) hx6 (Nat.le_of_ble_eq_true rfl) rfl)<|aG<|dH (some 16) [] (λw s h=>Xb sb lt lm bt mc kc my ab eb mk ck ac b1 b2 ci x6 ‹_› w (s.mem (i:=1) rfl) (s.mem (i:=2) rfl) (bK s r0) (bK s r1) (bK s r2) h) ?_
  rintro⟨⟩-
  refine eE<|iD ((bE kc x6).contains ci) (λe4=>?_)<|λe4=>?_
  ·refine aE [(4,c_ k)]<|aF<|d6 [c_ k]<|da [] [(4,sC k)]<|aF<|d6 [sC k]<|da [] [(4,sC k)]<|aF<|bR [] [sC k] () ?_ ?_
   ·unfold qK;(rw[Jo ‹_› ‹_›]<;>rfl)
   trivial
  have p4:=e4
  refine aO<|aM<|aj [.w<|(k:Int)+1] [(8,i_<|(k:Int)+1)] (o1<|wj ((k:Int)+1)<|by omega)<|bN (k+1) ⟨(by omega),(by intro j y hj_ hy_;rcases Nat.lt_succ_iff_lt_or_eq.1 hj_ with h_|rfl;exact hn j y h_ hy_;simp_all)⟩ (by(show(eY kc kb).length-(k+1)<(eY kc kb).length-k;omega)) ?_
  exact cX [0,0,0]
 have p2:=Zh e2
 refine bg<|aE [(4,i_ (-1))]<|aF<|d6 [i_ (-1)]<|da [] [(4,b_ false)]<|aF<|d6 [b_ false]<|da [] [(4,b_ false)]<|aF<|bR [] [b_ false] () ?_ ?_
 ·unfold qK;(rw[FV (by omega) hn]<;>first|rfl|(refine congrArg Value.bool ?_;simp;done)|(refine congrArg Value.bool ?_;simp;omega))
 trivial
def eT(W:World):V.aI where
 foot:=List.range W.heap.size
 holds w:=W.heap.size≤w.heap.size∧ ∀b,b<W.heap.size→w.heap[b]? =W.heap[b]?
 loc w w' h hw:=by
  have h2: ∀b,b<W.heap.size→w'.heap[b]? =W.heap[b]? :=λb hb=>by rw[h b<|List.mem_range.2 hb];exact hw.2 b hb
  refine⟨?_,h2⟩
  rcases Nat.eq_zero_or_pos W.heap.size with e|e
  ·omega
  ·have:=h2 (W.heap.size-1)<|by omega
   rw[Array.getElem?_eq_getElem (show W.heap.size-1<W.heap.size by omega)] at this
   have:=(Array.getElem?_eq_some_iff.1 this).1;omega
 here w hw b hb:=by have:=List.mem_range.1 hb;have:=hw.1;omega
variable{A:k0}{cs:Za}
theorem TM{W w:World}(hw:(eT W).holds w)(h:dR W A cs):dR w A cs:=λj u hu=>by
 obtain⟨h1,h2⟩:=h j u hu
 refine⟨h1,?_⟩
 have hlt:((au A).add j).block<W.heap.size:=by
  rcases Nat.lt_or_ge ((au A).add j).block W.heap.size with h'|h'
  ·exact h'
  ·simp[World.cell?,Array.getElem?_eq_none h'] at h2
 rw[←h2];unfold World.cell?;rw[hw.2 _ hlt]
theorem uy{w0:World}{S:E6}{H:List V.aI}{W:World}(hi:H[i]? =some (eT W))(h:dR W A cs):Rd w0 S H A cs:=λ_ s=>TM (s.mem hi) h
def Ba(kc:List (Int×Cl))(i:Int)(kb:List (Int×En))(kk:List (Int×Vt))(kb':List (Int×En))(kk':List (Int×Vt)):Prop:=
 (fN kc i≠0∧kb'=aW kb i∧kk'=aW kk i)∨(fN kc i=0∧ ∃m,FT (aK kc i) m∧kb'=aJ (aW kb i) i m∧(((aK kc i).hl=true∧kk'=aW kk i)∨((aK kc i).hl=false∧ ∃v,v.kv=[]∧v.t=T.nil∧kk'=aJ (aW kk i) i v)))
def rH(kc:List (Int×Cl)):List Int→List (Int×En)→List (Int×Vt)→List (Int×En)→List (Int×Vt)→Prop
 |[],kb,kk,kb',kk'=>kb'=kb∧kk'=kk
 |i::l,kb,kk,kb',kk'=> ∃kb1 kk1,Ba kc i kb kk kb1 kk1∧rH kc l kb1 kk1 kb' kk'
variable{L:Wx}{i:Int}{kb1 kb':hV En}{kk kk1 kk':hV Vt}
theorem Db(hk:L[k]? =some i)(h1:Ba kc i kb kk kb1 kk1)(h:rH kc (L.drop<|k+1) kb1 kk1 kb' kk'):rH kc (L.drop k) kb kk kb' kk':=by
 obtain⟨e1,e2⟩:=Zf.1 hk
 rw[List.drop_eq_getElem_cons e1,e2];exact⟨kb1,kk1,h1,h⟩
theorem Vk(h:Ba kc i kb kk kb1 kk1)(hn:(kb.map (·.1)).Nodup):(kb1.map (·.1)).Nodup:=by
 rcases h with⟨-,h2,-⟩|⟨-,m,-,h3,-⟩
 ·subst h2;exact lX hn i
 ·subst h3;exact mn (lX hn i) i m
theorem L1: ∀{l:Wx}{kb kb':hV En}{kk kk':hV Vt},(kb.map (·.1)).Nodup→rH kc l kb kk kb' kk'→ ∀i,(i∈l∨((aB kb i).map (·.ec)=aB kc i∧ ∀m,aB kb i=some m→lE m))→(aB kb' i).map (·.ec)=aB kc i∧ ∀m,aB kb' i=some m→lE m
 |[],kb,kb',kk,kk',hn,⟨h1,_⟩,i,hi=>by subst h1;exact hi.resolve_left<|by simp
 |j::l,kb,kb',kk,kk',hn,⟨kb1,kk1,hs,h⟩,i,hi=>by
  refine L1 (Vk hs hn) h i ?_
  by_cases e:j=i
  ·subst e
   right
   rcases hs with⟨h1,h2,-⟩|⟨h1,m,h2,h3,-⟩
   ·subst h2
    rw[gP hn,if_pos rfl,GA h1];exact⟨rfl,λm h=>by cases h⟩
   ·subst h3
    have hs2:aB kc j=some (aK kc j):=by
     cases q:aB kc j with
     |none=>exact absurd q<|Fv h1
     |some c=>rw[fL q]
    rw[ie,hs2]
    exact⟨by simp[h2.1],λm2 h=>by cases h;exact h2.2.1⟩
  ·rcases hi with hi|hi
   ·exact .inl<|(List.mem_cons.1 hi).resolve_left (λh=>e h.symm)
   ·right
    have hg:aB kb1 i=aB kb i:=by
     rcases hs with⟨-,h2,-⟩|⟨-,m,-,h3,-⟩
     ·subst h2;rw[gP hn,if_neg e]
     ·subst h3;rw[ed,if_neg e,gP hn,if_neg e]
    rw[hg];exact hi
variable{kw:hV Cl}
theorem zv(h:i∉dE kc kw):aB kc i=aB kw i:=by
 refine Classical.byContradiction λhne=>h<|((xP kc kw).2 i).2 ⟨?_,by unfold kr;simp[hne]⟩
 cases e:aB kc i with
 |some c=>exact .inl<|tM e rfl
 |none=>
  cases e2:aB kw i with
  |some c=>exact .inr<|tM e2 rfl
  |none=>exact absurd (e.trans e2.symm) hne
theorem L2(hB:eW kc kb)(hn:(kb.map (·.1)).Nodup)(h:rH kw (dE kc kw) kb kk kb' kk'):eW kw kb':=λi=>by
 refine L1 hn h i ?_
 by_cases e:i∈dE kc kw
 ·exact .inl e
 ·right;rw[←zv e];exact hB i
def uU(ym:List (Int×Pl)):List Int→List (Int×Int)→List (Int×MB)→List (Int×Int)→List (Int×MB)→Prop
 |[],on,ka,on',ka'=>on'=on∧ka'=ka
 |i::l,on,ka,on',ka'=> ∃on1 ka1 l1 e1,rF ym on ka i on1 ka1 l1 e1∧uU ym l on1 ka1 on' ka'
variable{on on':hV Int}{ka ka':hV MB}
theorem Pm{ym:hV Pl}{on1:hV Int}{ka1:hV MB}{l1:Wx}{e1:Int}(hk:L[k]? =some i)(h1:rF ym on ka i on1 ka1 l1 e1)(h:uU ym (L.drop<|k+1) on1 ka1 on' ka'):uU ym (L.drop k) on ka on' ka':=by
 obtain⟨e1,e2⟩:=Zf.1 hk
 rw[List.drop_eq_getElem_cons e1,e2];exact⟨_,_,_,_,h1,h⟩
def yC(kc:List (Int×Cl))(lt:Int)(idle:Bool)(kb:List (Int×En))(l:List Zc):Prop:=iH kc lt l=0∧(dE kc<|bQ kc l).any (qK kc kb)=false∧((dE kc<|bQ kc l).any (oG kc<|bQ kc l)=false∨(idle=true∧eY kc kb=[]))
def Yc(kc:List (Int×Cl))(lt:Int)(l:List Zc):Int:=if iH kc lt l=0 then 24 else iH kc lt l
def Yd(kc:List (Int×Cl))(lt:Int)(l:List Zc):Int:=if iH kc lt l=0 then 0 else jv kc lt l
def Jp(lt:Int)(idle:Bool)(l:List Zc)(pl er:Int)(bt mc:Nat)(kc:List (Int×Cl))(kb:List (Int×En))(a:Ac)(on:List (Int×Int))(ka:List (Int×MB))(kk:List (Int×Vt))(bt' mc':Nat)(kc':List (Int×Cl))(kb':List (Int×En))(a':Ac)(on':List (Int×Int))(ka':List (Int×MB))(kk':List (Int×Vt)):Prop:=
 (er≠0∧ ¬yC kc lt idle kb l∧bt'=bt∧mc'=mc∧kc'=kc∧kb'=kb∧a'=a∧on'=on∧ka'=ka∧kk'=kk∧er=Yc kc lt l∧pl=Yd kc lt l)∨
 (er=0∧yC kc lt idle kb l∧kc'=bQ kc l∧rH kc' (dE kc kc') kb kk kb' kk'∧a'.ym=eu kc'∧uU a'.ym (eY kc' kb') [] [] on' ka'∧pl=0)
theorem Qs(hL:cB kc)(h:fN kc i=0):(aK kc i).hl=true→(1≤(aK kc i).hk∧(aK kc i).hk≤64)∧1≤(aK kc i).hq∧(aK kc i).hq≤1048576:=by
 intro hl
 cases e:aB kc i with
 |none=>exact absurd e<|Fv h
 |some c=>
  rw[fL e] at hl⊢
  have h2:=(hL.key i c e).2
  unfold fK at h2
  rw[if_pos hl] at h2
  grind
abbrev qZ(p0)(p1)(p2):=(aX<|aK (bQ p0 p1) p2)
abbrev nG(p0)(p1)(p2)(p3):=(vS p0 (dE p1<|bQ p1 p2) p3:Value)
abbrev xg(p0)(p1):=(i_ ((dE p0<|bQ p0 p1).length:Int):Value)
abbrev lP(p0)(p1):=(aA p0 [.map<|some p1] 185:V.aI)
abbrev o7(p0)(p1)(p2)(p3)(p4)(p5:Ac)(p6:Vt)(p7)(p8)(p9):=(aA p0 [i_ p1,i_ p2,p_ p3,.map<|some p4,p_ p5.bs,p_ p6.be,.map<|some p7,u_ p8,u_ p9] 141:V.aI)
theorem Qw(sb:Nat)(lt lm:Int)(bt mc:Nat)(kc:hV Cl)(my:Nat)(kb:hV En)(a:Ac)(on:hV Int)(ka:hV MB)(tl:Vt)(et:T)(ek:hV It)(mk:Nat)(kk:hV Vt)(ck ac:Int)(W:World)(idle:Bool)(al:k0)(l:List Zc)(cl:Nat)(harr:dR W al (V.aP gv l))(hL:cB kc)(hK:oP kc)(hz: ∀z∈l,iQ z)(hNR:fw kc l=0→fg (bQ kc l)=[])(hB:eW kc kb)(hnb:(kb.map (·.1)).Nodup):
  CS 46 #[p_ sb,b_ idle,vS al l cl] [o7 sb lt lm bt my a tl mk ck ac,lP bt mc,cN mc kc,dj my kb,eX a on ka,fH tl et ek,eH mk kk,eT W] (λ((pl,er,bt',mc',kc',kb',a',on',ka',kk'):Int×Int×Nat×Nat×(hV Cl)×(hV En)×Ac×(hV Int)×(hV MB)×(hV Vt))=>(.tuple #[i_ pl,i_ er])) (λ(pl,er,bt',mc',kc',kb',a',on',ka',kk')=>Jp lt idle l pl er bt mc kc kb a on ka kk bt' mc' kc' kb' a' on' ka' kk') λ(pl,er,bt',mc',kc',kb',a',on',ka',kk')=>[o7 sb lt lm bt' my a' tl mk ck ac,lP bt' mc',cN mc' kc',dj my kb',eX a' on' ka',fH tl et ek,eH mk kk',eT W]:=by
 intro w hs
 have hkl:=hL.len
 have hL3:=EL (l:=l) hL
 have hkl3:=hL3.len
 have htl:=EM kc<|bQ kc l
 refine aU Tryz.func46 rfl hs (aE []<|aD<|aE [(19,b_ false)]<|bM<|az ?_)
 by_cases htr:iH kc lt l=0
 ·refine bY [10] 18<|Gj 8 [.ld 0,.ld 0] (rg 0 10) [2,19] [(24,p_ bt),(29,i_ lt),(30,vS al l cl)]<|bF 10 rfl (dH (some 31) [] (λw s h=>VX bt mc kc lt al l cl ‹_› ‹_› ‹_› hNR ‹_› w (s.mem (i:=1) rfl) (s.mem (i:=2) rfl) ((uy (i:=7) rfl harr) w s) h) ?_)
  rintro⟨bc1,mx2⟩-
  refine cb<|Gj 0 [] (rg 11 7) [24,29,30,31] [(8,p_ bc1),(9,i_ 0),(10,i_ 0)]<|eN<|aD<|aE [(36,b_ false)]<|bM<|aO<|aC<|gK [.p,.p,.p,.ld 2,.p] [9,10,36] [(42,p_ bt),(43,p_ bc1)]<|aG<|dH (some 44) [] (λw s h=>LJ bt mc kc bc1 mx2 (bQ kc l) ‹_› ‹_› w (s.mem (i:=3) rfl) (s.mem (i:=4) rfl) (s.mem (i:=0) rfl) (s.mem (i:=1) rfl) h) ?_
  rintro⟨al'3,cl'4⟩-
  refine db [] [42,43,44] [(11,nG al'3 kc l cl'4)]<|Nw (λ(zz:Unit)=>match zz with|_=>[(0,p_ sb),(8,p_ bc1),(11,nG al'3 kc l cl'4)]) (λ(zz:Unit)=>match zz with|_=>[sI al'3 (dE kc<|bQ kc l) cl'4,lP bc1 mx2,cN mx2<|bQ kc l,o7 sb lt lm bt my a tl mk ck ac,lP bt mc,cN mc kc,dj my kb,eX a on ka,fH tl et ek,eH mk kk,eT W]) (λ(zz:Unit)=>match zz with|_=>(yC kc lt idle kb l)) ?_ ?_
  ·refine aC<|an 3 [] [(45,nG al'3 kc l cl'4),(47,.func (.func 69) #[p_ sb] #[])]<|aG<|eM (some 48) [nG al'3 kc l cl'4,.func (.func 69) #[p_ sb] #[]] Tryz.func68 rfl (aE []<|aC<|gK [.p,.p] [0,1] [(5,nG al'3 kc l cl'4),(6,.func (.func 69) #[p_ sb] #[])]<|aG<|eM (some 7) [nG al'3 kc l cl'4,.func (.func 69) #[p_ sb] #[]] Tryz.func98 rfl (aE []<|aD<|aE [(7,xg kc l),(8,i_ 0)]<|aR<|iC (σ:=Nat) [] (λk=>[(8,c_ k)]) [] (λk=>[]) (λk=>(k≤(dE kc<|bQ kc l).length)∧(∀j y,j<k→(dE kc<|bQ kc l)[j]? =some y→qK kc kb y=false)) (λk=>(dE kc<|bQ kc l).length-k) (0:Nat) ⟨(by omega),(by intro j y hj;omega)⟩ ?_ ?_))
   ·exact cX [0,0,0,0,0,0,0,0,0,0,0]
   rintro k ⟨hk,hn⟩
   refine aE [(9,b_<|decide ((k:Int)<((dE kc<|bQ kc l).length:Int)))]<|aD<|aL rfl (λe3=>?_) (λe3=>?_)
   ·have p3:=Zg e3
    refine az<|aR<|aC<|db [] [9] [(5,c_ k)]<|aC<|eI 4 [.ix] [(11,.func (.func 69) #[p_ sb] #[]),(14,.pointer<|some<|(au al'3).add (k*1))] (o1<|jV 0 k dG rfl (by omega)) ?_
    obtain⟨x6,hx6⟩: ∃x,((dE kc<|bQ kc l))[k]? =some x:=⟨_,Ze<|by omega⟩
    refine jJ [.rd [i_ x6]] [(0,nG al'3 kc l cl'4),(1,.func (.func 69) #[p_ sb] #[]),(8,c_ k),(5,c_ k),(11,.func (.func 69) #[p_ sb] #[]),(15,i_ x6)] (o1<|ro ((au al'3).add (k*1))<|dr (vs:=[i_ x6]) dG (bW (i:=0) rfl) hx6 (Nat.le_of_ble_eq_true rfl) rfl)<|aG<|dH (some 16) [] (λw s h=>Vj sb lt lm bt mc kc my kb a.bs tl.be mk ck ac x6 ‹_› ‹_› w (s.mem (i:=3) rfl) (s.mem (i:=4) rfl) (s.mem (i:=5) rfl) (s.mem (i:=6) rfl) h) ?_
    rintro⟨⟩-
    refine eE<|aL rfl (λe5=>?_) (λe5=>?_)
    ·have p5:=e5;try simp only[cR] at p5
     refine aC<|db [] [0,1,7,8,5,11,15,16] [(4,c_ k)]<|aF<|d6 [c_ k]<|aQ [(4,b_<|decide ((k:Int)≥0))]<|aF<|d6 [b_<|decide ((k:Int)≥0)]<|cV [.p] [(0,p_ sb),(1,b_ idle),(8,p_ bc1),(11,nG al'3 kc l cl'4),(49,b_<|decide ((k:Int)≥0))]<|i5 (decide ((k:Int)≥0)) (λe6=>?_)<|λe6=>?_
     ·refine dO 49 (b_ true) (gB e6)<|db [.sk,.sk,.sk,.sk,.sk,.sk,.sk,.sk,.sk,.sk,.sk,.sk,.sk,.sk,.sk,.sk] [1,49] [(66,b_ true)]<|dU<|aC<|db [] [0,8,11,66] [(6,i_ 0),(7,i_ 24)]<|aF<|bR [3,3,3,3,3,3,3,3] [i_ 0,i_ 24] (0,24,bt,mc,kc,kb,a,on,ka,kk) ?_ ?_
      ·rfl
      exact .inl ⟨by decide,(λh_=>by obtain⟨h1_,h2_,h3_⟩:=h_;(have h4_:=Jo (p:=qK kc kb) ‹_› ‹_›;rw[h4_] at h2_;cases h2_;done)),rfl,rfl,rfl,rfl,rfl,rfl,rfl,rfl,(if_pos htr).symm,(if_pos htr).symm⟩
     exact absurd e6<|by(intro h_;(simp at h_;done))
    have p5:=e5;try simp only[cR] at p5
    refine aO<|aM<|lH [.w<|(k:Int)+1] [5,11,15,16] [(8,i_<|(k:Int)+1)] (o1<|wj ((k:Int)+1)<|by omega)<|bN (k+1) ⟨(by omega),(by intro j y hj_ hy_;rcases Nat.lt_succ_iff_lt_or_eq.1 hj_ with h_|rfl;exact hn j y h_ hy_;simp_all)⟩ (by(show(dE kc<|bQ kc l).length-(k+1)<(dE kc<|bQ kc l).length-k;omega)) ?_
    exact cX [0,0,0,0,0,0,0,0,0,0,0]
   have p3:=Zh e3
   refine bg<|aC<|db [] [0,1,7,8,9] [(4,i_ (-1))]<|aF<|d6 [i_ (-1)]<|aQ [(4,b_ false)]<|aF<|d6 [b_ false]<|eI 8 [.ld 3,.cq<|b_<|(dE kc<|bQ kc l).any (oG kc<|bQ kc l)] [(8,p_ bc1),(11,nG al'3 kc l cl'4),(49,b_ false),(56,b_<|(dE kc<|bQ kc l).any (oG kc<|bQ kc l))] (o1<|qo<|λw s=>V1 bt mc kc bc1 mx2 (bQ kc l) ‹_› ‹_› w (s.mem (i:=4) rfl) (s.mem (i:=5) rfl) (s.mem (i:=1) rfl) (s.mem (i:=2) rfl))<|i5 (((dE kc<|bQ kc l).any (oG kc<|bQ kc l))) (λe7=>?_)<|λe7=>?_
   ·refine dO 56 (b_ true) (gB e7)<|gK (ps 3) [1] [(59,b_ (!idle))]<|i5 (!idle) (λe8=>?_)<|λe8=>?_
    ·refine dO 59 (b_ true) (gB e8)<|db [.sk,.sk,.sk,.sk] [49,56,59] [(66,b_ true)]<|dU<|aC<|db [] [0,8,11,66] [(6,i_ 0),(7,i_ 24)]<|aF<|bR [3,3,3,3,3,3,3,3] [i_ 0,i_ 24] (0,24,bt,mc,kc,kb,a,on,ka,kk) ?_ ?_
     ·rfl
     exact .inl ⟨by decide,(λh_=>by obtain⟨h1_,h2_,h3_⟩:=h_;(rcases h3_ with h_|⟨h_,h5_⟩;exact Bool.noConfusion<|h_.symm.trans (by assumption:_=true);clear h2_ hn;simp_all;done)),rfl,rfl,rfl,rfl,rfl,rfl,rfl,rfl,(if_pos htr).symm,(if_pos htr).symm⟩
    refine dO 59 (b_ false) (gB e8)<|cV [.p] [(60,p_ sb)]<|aG<|dH (some 61) [] (λw s h=>Da sb lt lm bt mc kc my kb a.bs tl.be mk ck ac ‹_› ‹_› w (s.mem (i:=3) rfl) (s.mem (i:=4) rfl) (s.mem (i:=5) rfl) (s.mem (i:=6) rfl) h) ?_
    rintro⟨al'7,cl'8⟩-
    refine db [] [49,56,59,60,61] [(66,b_<|decide (((eY kc kb).length:Int)>0))]<|aL rfl (λe10=>?_) (λe10=>?_)
    ·have p10:=Zg e10
     refine aC<|db [] [0,8,11,66] [(6,i_ 0),(7,i_ 24)]<|aF<|bR [4,4,4,4,4,4,4,4] [i_ 0,i_ 24] (0,24,bt,mc,kc,kb,a,on,ka,kk) ?_ ?_
     ·rfl
     exact .inl ⟨by decide,(λh_=>by obtain⟨h1_,h2_,h3_⟩:=h_;(rcases h3_ with h_|⟨h_,h5_⟩;exact Bool.noConfusion<|h_.symm.trans (by assumption:_=true);clear h2_ hn;simp_all;done)),rfl,rfl,rfl,rfl,rfl,rfl,rfl,rfl,(if_pos htr).symm,(if_pos htr).symm⟩
    have p10:=Zh e10
    refine aO<|k7 () (by exact⟨by assumption,FV (by omega) hn,by(right;simp_all;done)⟩) ?_
    exact cX [1,1,1,1,1,1,1,1,1,1,1]
   refine dO 56 (b_ false) (gB e7)<|db [.sk,.sk,.sk,.sk,.sk,.sk,.sk,.sk] [1,49,56] [(66,b_ false)]<|bM<|aO<|k7 () (by exact⟨by assumption,FV (by omega) hn,by(left;simp_all;done)⟩) ?_
   exact cX [0,0,0,0,0,0,0,0,0,0,0]
  rintro _ hch
  have hch:yC kc lt idle kb l:=hch
  refine aC<|bL [.st 3] [] [(3,o7 sb lt lm bc1 my a tl mk ck ac)]<|bS<|db [] [11] [(71,nG al'3 kc l cl'4),(72,xg kc l),(73,i_ 0)]<|aR<|iC (σ:=Nat×(hV En)×(hV Vt)) [] (λ(kt,kbk,kkk)=>[(73,c_ kt)]) [6,8] (λ(kt,kbk,kkk)=>[dj my kbk,eH mk kkk]) (λ(kt,kbk,kkk)=>(kt≤(dE kc<|bQ kc l).length)∧(∀kb' kk',rH (bQ kc l) ((dE kc<|bQ kc l).drop kt) kbk kkk kb' kk'→rH (bQ kc l) (dE kc<|bQ kc l) kb kk kb' kk')) (λ(kt,kbk,kkk)=>(dE kc<|bQ kc l).length-kt) (0,kb,kk) ⟨(by omega),(λ_ _ h=>h)⟩ ?_ ?_
  ·exact cX [6,8,0,0,0,0,0,0,0,0,0]
  rintro⟨kt,kbk,kkk⟩ ⟨hkt,hC⟩
  refine aE [(74,b_<|decide ((kt:Int)<((dE kc<|bQ kc l).length:Int)))]<|aD<|aL rfl (λe11=>?_) (λe11=>?_)
  ·have p11:=Zg e11
   refine az<|aR<|aC<|u1 [.ix] [74] [(75,.pointer<|some<|(au al'3).add (kt*1))] (o1<|jV 2 kt dG rfl (by omega)) ?_
   obtain⟨x10,hx10⟩: ∃x,((dE kc<|bQ kc l))[kt]? =some x:=⟨_,Ze<|by omega⟩
   refine lH [.rd [i_ x10]] [75] [(13,i_ x10)] (o1<|ro ((au al'3).add (kt*1))<|dr (vs:=[i_ x10]) dG (bW (i:=2) rfl) hx10 (Nat.le_of_ble_eq_true rfl) rfl)<|aC<|jI [.cq<|.tuple #[.agg (qZ kc l x10).toArray,i_<|fN (bQ kc l) x10],.al,.st 11] [] (λb11=>[(14,p_ b11),(15,i_<|fN (bQ kc l) x10)]) (λb11=>[]) (λb11=>aA b11 (qZ kc l x10) 62) (λb11=>o1<|qo<|λw s=>tu bc1 mx2 (bQ kc l) x10 w (s.mem (i:=3) rfl)<|s.mem (i:=4) rfl) ?_
   intro b11
   refine aC<|an 5 [.ld 5] [(86,.map<|some my),(87,i_ x10)]<|aG<|OB (f:=fj) (kt:=3) (et:=167) (ek:=(λk:Int=>i_ k)) (ev:=(λm:En=>p_ m.eb)) (kv:=kbk) (k:=x10) (H':=[dj my<|aW kbk x10,eH mk kkk,sI al'3 (dE kc<|bQ kc l) cl'4,lP bc1 mx2,cN mx2<|bQ kc l,o7 sb lt lm bc1 my a tl mk ck ac,lP bt mc,cN mc kc,eX a on ka,fH tl et ek,eT W,aA b11 (qZ kc l x10) 62]) 0 (by kernel_rfl) rfl rfl rfl (by kernel_rfl) eG rfl rfl (eE<|aC<|an 5 [.ld 5] [(8,p_ bc1),(71,nG al'3 kc l cl'4),(72,xg kc l),(73,c_ kt),(13,i_ x10),(14,p_ b11),(15,i_<|fN (bQ kc l) x10),(91,.map<|some mk),(92,i_ x10)]<|aG<|OB (f:=(eO 192)) (kt:=3) (et:=136) (ek:=(λk:Int=>i_ k)) (ev:=(λm:Vt=>p_ m.be)) (kv:=kkk) (k:=x10) (H':=[eH mk<|aW kkk x10,dj my<|aW kbk x10,sI al'3 (dE kc<|bQ kc l) cl'4,lP bc1 mx2,cN mx2<|bQ kc l,o7 sb lt lm bc1 my a tl mk ck ac,lP bt mc,cN mc kc,eX a on ka,fH tl et ek,eT W,aA b11 (qZ kc l x10) 62]) 1 (by kernel_rfl) rfl rfl rfl (by kernel_rfl) eG rfl rfl (eE<|aD<|aE [(94,b_<|(fN (bQ kc l) x10)==0)]<|aL rfl (λe12=>?_) (λe12=>?_)))
   ·have p12:=e12;try simp only[cR] at p12
    refine jx [6,7] 8 [eH mk<|aW kkk x10,sI al'3 (dE kc<|bQ kc l) cl'4,lP bc1 mx2,cN mx2<|bQ kc l,o7 sb lt lm bc1 my a tl mk ck ac,lP bt mc,cN mc kc,eX a on ka,fH tl et ek,eT W,aA b11 (qZ kc l x10) 62]<|iL 2 [.ld 4,.ld 10] (rg 0 6) [(0,p_ sb),(8,p_ bc1),(71,nG al'3 kc l cl'4),(72,xg kc l),(73,c_ kt),(13,i_ x10),(14,p_ b11),(15,i_<|fN (bQ kc l) x10),(98,.map<|some my),(99,i_ x10),(100,.agg (qZ kc l x10).toArray)] (sd [1])<|gR 6 rfl (b0 (some 101) [] (TJ (aK (bQ kc l) x10)<|Qs hL3 ‹_›) ?_)
    rintro m12 hz13
    refine gI (sd [2,0])<|gR 7 rfl (CE (f:=fj) (kt:=3) (et:=167) (ek:=(λk:Int=>i_ k)) (ev:=(λm:En=>p_ m.eb)) (kv:=(aW kbk x10)) (k:=x10) (H':=[dj my<|aJ (aW kbk x10) x10 m12,eH mk<|aW kkk x10,sI al'3 (dE kc<|bQ kc l) cl'4,lP bc1 mx2,cN mx2<|bQ kc l,o7 sb lt lm bc1 my a tl mk ck ac,lP bt mc,cN mc kc,eX a on ka,fH tl et ek,eT W,aA b11 (qZ kc l x10) 62]) 2 0 m12 (by kernel_rfl) rfl rfl rfl rfl (by kernel_rfl) eG rfl rfl rfl (gI (sd [0])<|je<|aC<|bB [.o,.ld 11,.cl] [(108,b_<|((fN (bQ kc l) x10)==0)&&(!((aK (bQ kc l) x10).hl)))]<|aL rfl (λe14=>?_) (λe14=>?_)))
    ·have p14:=e14;try simp only[cR] at p14
     refine jx [5,6] 7 [dj my<|aJ (aW kbk x10) x10 m12,sI al'3 (dE kc<|bQ kc l) cl'4,lP bc1 mx2,cN mx2<|bQ kc l,o7 sb lt lm bc1 my a tl mk ck ac,lP bt mc,cN mc kc,eX a on ka,fH tl et ek,eT W,aA b11 (qZ kc l x10) 62]<|iL 2 [.ld 4] (rg 0 5) [(0,p_ sb),(8,p_ bc1),(71,nG al'3 kc l cl'4),(72,xg kc l),(73,c_ kt),(112,.map<|some mk),(113,i_ x10)] (sd [1])<|gR 5 rfl (b0 (some 114) [] xt ?_)
     rintro v13 hz15
     refine gI (sd [2,0])<|gR 6 rfl (CE (f:=(eO 192)) (kt:=3) (et:=136) (ek:=(λk:Int=>i_ k)) (ev:=(λm:Vt=>p_ m.be)) (kv:=(aW kkk x10)) (k:=x10) (H':=[eH mk<|aJ (aW kkk x10) x10 v13,dj my<|aJ (aW kbk x10) x10 m12,sI al'3 (dE kc<|bQ kc l) cl'4,lP bc1 mx2,cN mx2<|bQ kc l,o7 sb lt lm bc1 my a tl mk ck ac,lP bt mc,cN mc kc,eX a on ka,fH tl et ek,eT W,aA b11 (qZ kc l x10) 62]) 2 0 v13 (by kernel_rfl) rfl rfl rfl rfl (by kernel_rfl) eG rfl rfl rfl (gI (sd [0])<|je<|aM<|aj [.w<|(kt:Int)+1] [(73,i_<|(kt:Int)+1)] (o1<|wj ((kt:Int)+1)<|by omega)<|bN (kt+1,aJ (aW kbk x10) x10 m12,aJ (aW kkk x10) x10 v13) ⟨(by omega),(by exact λ_ _ h=>hC _ _<|Db ‹_› (.inr ⟨by assumption,_,by assumption,rfl,.inr ⟨by(simp_all;done),_,(by assumption:_∧_).1,(by assumption:_∧_).2,rfl⟩⟩) h)⟩ (by(show(dE kc<|bQ kc l).length-(kt+1)<(dE kc<|bQ kc l).length-kt;omega)) ?_))
     exact cX [1,0,0,0,0,0,0,0,0,0,0]
    have p14:=e14;try simp only[cR] at p14
    refine aO<|aM<|lH [.w<|(kt:Int)+1] [13,108] [(73,i_<|(kt:Int)+1)] (o1<|wj ((kt:Int)+1)<|by omega)<|bN (kt+1,aJ (aW kbk x10) x10 m12,aW kkk x10) ⟨(by omega),(by exact λ_ _ h=>hC _ _<|Db ‹_› (.inr ⟨by assumption,_,by assumption,rfl,.inl ⟨by(simp_all;done),rfl⟩⟩) h)⟩ (by(show(dE kc<|bQ kc l).length-(kt+1)<(dE kc<|bQ kc l).length-kt;omega)) ?_
    exact cX [0,0,0,0,0,0,0,0,0,0,0]
   have p12:=e12;try simp only[cR] at p12
   refine aO<|aC<|db [.o,.ld 11,.cl] [14,15,94] [(108,b_<|((fN (bQ kc l) x10)==0)&&(!((aK (bQ kc l) x10).hl)))]<|aL rfl (λe16=>?_) (λe16=>?_)
   ·exact absurd e16<|by(intro h_;simp_all)
   have p16:=e16;try simp only[cR] at p16
   refine aO<|aM<|lH [.w<|(kt:Int)+1] [13,108] [(73,i_<|(kt:Int)+1)] (o1<|wj ((kt:Int)+1)<|by omega)<|bN (kt+1,aW kbk x10,aW kkk x10) ⟨(by omega),(λ_ _ h=>hC _ _<|Db ‹_› (.inl ⟨by assumption,rfl,rfl⟩) h)⟩ (by(show(dE kc<|bQ kc l).length-(kt+1)<(dE kc<|bQ kc l).length-kt;omega)) ?_
   exact cX [1,0,0,0,0,0,0,0,0,0,0]
  have p11:=Zh e11
  refine bg<|aC<|gK [.p,.p] [8,71,72,73,74] [(116,p_ sb),(117,p_ bc1)]<|aG<|dH (some 118) [] (λw s h=>ND bc1 mx2 (bQ kc l) (by omega) w (s.mem (i:=3) rfl) (s.mem (i:=4) rfl) h) ?_
  rintro a14 hz17
  refine gl [.st 6] [116,117,118] [] [(6,o7 sb lt lm bc1 my a14 tl mk ck ac)]<|aD<|aD ?_
  have hB3:=L2 hB hnb<|hC _ _ (by rw[List.drop_eq_nil_of_le<|by omega];exact⟨rfl,rfl⟩)
  have hya:a14.ym=eu (bQ kc l):=by assumption
  have hdp:=λi=>hya▸we hL3 i
  have hlf:(eY (bQ kc l) kbk).length≤64:=Nat.le_trans (List.length_filter_le _ _)<|Nat.le_trans (rM _ _) hL3.len
  refine aM<|cV [.p] [(121,p_ sb)]<|aG<|dH (some 122) [] (λw s h=>Da sb lt lm bc1 mx2 (bQ kc l) my kbk a14.bs tl.be mk ck ac ‹_› ‹_› w (s.mem (i:=6) rfl) (s.mem (i:=4) rfl) (s.mem (i:=5) rfl) (s.mem (i:=1) rfl) h) ?_
  rintro⟨al'15,cl'16⟩-
  refine db [] [121] [(122,vS al'15 (eY (bQ kc l) kbk) cl'16),(123,i_ ((eY (bQ kc l) kbk).length:Int)),(124,i_ 0)]<|aR<|iC (σ:=Nat×(hV Int)×(hV MB)) [] (λ(k2,onk,kak)=>[(124,c_ k2)]) [1] (λ(k2,onk,kak)=>[eX a14 onk kak]) (λ(k2,onk,kak)=>(k2≤(eY (bQ kc l) kbk).length)∧(∀on' ka',uU a14.ym ((eY (bQ kc l) kbk).drop k2) onk kak on' ka'→uU a14.ym (eY (bQ kc l) kbk) [] [] on' ka')) (λ(k2,onk,kak)=>(eY (bQ kc l) kbk).length-k2) (0,[],[]) ⟨(by omega),(λ_ _ h=>h)⟩ ?_ ?_
  ·exact cX [1,0,0,0,0,0,0,0,0,0,0,0,0]
  rintro⟨k2,onk,kak⟩ ⟨hk2,hO⟩
  refine aE [(123,i_ ((eY (bQ kc l) kbk).length:Int)),(124,c_ k2),(125,b_<|decide ((k2:Int)<((eY (bQ kc l) kbk).length:Int)))]<|aD<|aL rfl (λe19=>?_) (λe19=>?_)
  ·have p19:=Zg e19
   refine az<|aR<|aC<|u1 [.ix] [125] [(126,.pointer<|some<|(au al'15).add (k2*1))] (o1<|jV 1 k2 dG rfl (by omega)) ?_
   obtain⟨x18,hx18⟩: ∃x,((eY (bQ kc l) kbk))[k2]? =some x:=⟨_,Ze<|by omega⟩
   refine lH [.rd [i_ x18]] [126] [(17,i_ x18)] (o1<|ro ((au al'15).add (k2*1))<|dr (vs:=[i_ x18]) dG (bW (i:=1) rfl) hx18 (Nat.le_of_ble_eq_true rfl) rfl)<|aM<|gK [.p,.p,.p,.ld 7,.p] [17] [(131,p_ a14.bs),(132,i_ x18)]<|aG<|b0 (some 133) [0] (G4 a14 onk kak x18<|hdp _) ?_
   rintro⟨on'19,ka'20,al'21,l'22,cl'23,er24⟩ hz20
   refine eE<|aM<|lH [.w<|(k2:Int)+1] [131,132,133] [(124,i_<|(k2:Int)+1)] (o1<|wj ((k2:Int)+1)<|by omega)<|bN (k2+1,on'19,ka'20) ⟨(by omega),(λ_ _ h=>hO _ _<|Pm ‹_› ‹_› h)⟩ (by(show(eY (bQ kc l) kbk).length-(k2+1)<(eY (bQ kc l) kbk).length-k2;omega)) ?_
   exact cX [0,1,1,1,1,1,1,1,1,1,1,1,1]
  have p19:=Zh e19
  refine bg<|aC<|db [] [0,122,123,124,125] [(6,i_ 0),(7,i_ 0)]<|aF<|bR [7,5,5,2,0,6,1,5] [i_ 0,i_ 0] (0,0,bc1,mx2,bQ kc l,kbk,a14,onk,kak,kkk) ?_ ?_
  ·rfl
  exact .inr ⟨rfl,hch,rfl,hC _ _ (by rw[List.drop_eq_nil_of_le<|by omega];exact⟨rfl,rfl⟩),by assumption,hO _ _ (by rw[List.drop_eq_nil_of_le<|by omega];exact⟨rfl,rfl⟩),rfl⟩
 refine jw [.ld 0,.ld 0,.cq<|.tuple #[n_,i_<|jv kc lt l,i_<|iH kc lt l]] (rg 0 18) [2,19] [(8,n_),(9,i_<|jv kc lt l),(10,i_<|iH kc lt l)] (o1<|qo<|λw s=>Sj bt mc kc lt al l cl ‹_› ‹_› ‹_› hNR ‹_› w (s.mem (i:=1) rfl) (s.mem (i:=2) rfl) ((uy (i:=7) rfl harr) w s))<|aD<|aE [(36,b_<|(iH kc lt l)!=0)]<|aL rfl (λe21=>?_) (λe21=>?_)
 ·have p21:=e21;try simp only[cR] at p21
  refine aC<|db [] [0,1,8,9,10,36] [(6,i_<|jv kc lt l),(7,i_<|iH kc lt l)]<|aF<|bR [0,0,0,0,0,0,0,0] [i_<|jv kc lt l,i_<|iH kc lt l] ((jv kc lt l),iH kc lt l,bt,mc,kc,kb,a,on,ka,kk) ?_ ?_
  ·rfl
  exact .inl ⟨by assumption,(λh_=>by obtain⟨h1_,h2_,h3_⟩:=h_;exact absurd h1_ htr),rfl,rfl,rfl,rfl,rfl,rfl,rfl,rfl,(if_neg htr).symm,(if_neg htr).symm⟩
 exact absurd e21<|by(intro h_;simp at h_;exact htr h_)
structure Ss where
 sb:Nat
 lt:Int
 lm:Int
 my:Nat
 kp:Nat
 tl:Vt
structure Sd where
 bt:Nat
 mc:Nat
 kc:List (Int×Cl)
 kb:List (Int×En)
 a:Ac
 on:List (Int×Int)
 ka:List (Int×MB)
 et:T
 ek:List (Int×It)
 kk:List (Int×Vt)
 ck:Int
 ac:Int
def mF(c:Ss)(d:Sd):List V.aI:=[aA c.sb [i_ c.lt,i_ c.lm,p_ d.bt,.map<|some c.my,p_ d.a.bs,p_ c.tl.be,.map<|some c.kp,u_ d.ck,u_ d.ac] 141,aA d.bt [.map<|some d.mc] 185,cN d.mc d.kc,dj c.my d.kb,eX d.a d.on d.ka,fH c.tl d.et d.ek,eH c.kp d.kk]
def eZ(c:Ss)(d:Sd):V.aI:=co<|mF c d
structure ql(c:Ss)(d:Sd):Prop where
 lt1:1≤c.lt∧c.lt≤65536
 lm1:1≤c.lm∧c.lm≤16384
 laid:cB d.kc
 aok:oP d.kc
 by_:eW d.kc d.kb
 nb:(d.kb.map (·.1)).Nodup
 kd:kF d.kc 600 d.kk
 ym:d.a.ym=eu d.kc
 el:dX d.et d.ek
 len:d.ek.length≤600
 desc: ∀now,qY d.kb d.kk now 17 0
 pk: ∀i m,aB d.kb i=some m→ ∀p∈qC m.q,1≤p.qn∧p.qn≤16384
 ch: ∀now,(dm d.et d.kb d.kk now).2.2=true→ ∃m,aB d.kb (dm d.et d.kb d.kk now).1=some m∧qC m.q≠[]
def Bc(d:Sd):Prop:=(d.kb.map (·.1)).Nodup∧(d.kk.map (·.1)).Nodup∧(d.on.map (·.1)).Nodup
variable{d:Sd}
theorem FW{c:Ss}{w:World}(h:(eZ c d).holds w):Bc d:=by
 have h1:=h (dj c.my d.kb)<|by simp[mF]
 have h2:=h (eH c.kp d.kk)<|by simp[mF]
 have h3:=h (eX d.a d.on d.ka)<|by simp[mF]
 exact⟨(nm h1).2,(qX h2).2,(show(fq d.a.mo d.on).holds w from h3 _<|by simp[jG]).2⟩
def Np(d d':Sd):Prop:=d'.bt=d.bt∧d'.mc=d.mc∧d'.kc=d.kc∧d'.a=d.a∧Bc d'
def oh(d:Sd)(now:Int)(z:Pd)(ok:Bool)(d':Sd):Prop:=Np d d'∧d'.ck=now∧d'.ac=d.ac∧NH d.kc (dm d.et d.kb d.kk now) z ok d.kb d.a.ym d.on d.ka d.et d.ek d.kk d'.kb d'.on d'.ka d'.et d'.ek d'.kk
def oH(c:Ss)(d:Sd)(now ci:Int)(p:Pk)(er:Int)(d':Sd):Prop:=Np d d'∧d'.ck=now∧Na d.kc c.lm now ci p er d.kb d.a.ym d.on d.ka d.et d.ek d.kk d.ac d'.kb d'.on d'.ka d'.et d'.ek d'.kk d'.ac
def uz(c:Ss)(d:Sd)(idle:Bool)(l:List Zc)(pl er:Int)(d':Sd):Prop:=d'.et=d.et∧d'.ek=d.ek∧d'.ck=d.ck∧d'.ac=d.ac∧Jp c.lt idle l pl er d.bt d.mc d.kc d.kb d.a d.on d.ka d.kk d'.bt d'.mc d'.kc d'.kb d'.a d'.on d'.ka d'.kk∧Bc d'
theorem Vl(c:Ss)(d:Sd)(now:Int)(h:ql c d)(h1:d.ck≤now)(h2:now≤4611686018427387904)(w:World)(hs:HS w (aN [eZ c d]) [eZ c d] w):Calls Tryz.prog 114 #[p_ c.sb,u_ now] w λe w'=> ∃zz:Pd×Bool×Sd,e= .returned (.tuple #[.agg (GO zz.1).toArray,b_ zz.2.1])∧oh d now zz.1 zz.2.1 zz.2.2∧Turn [eZ c d] [eZ c zz.2.2] w w':=by
 refine(Vf c.sb c.lt c.lm d.bt d.mc d.kc c.my d.kb d.a d.on d.ka c.tl d.et d.ek c.kp d.kk d.ck d.ac now h.laid h.by_ h.kd h.ym h.el h.len (h.desc now) (h.ch now) h1 h2 w<|HS.coS hs).mono ?_
 rintro e w' ⟨⟨z,ok,kb',on',ka',et',ek',kk'⟩,a1,a2,a3⟩
 exact⟨(z,ok,{d with kb:=kb',on:=on',ka:=ka',et:=et',ek:=ek',kk:=kk',ck:=now}),a1,⟨⟨rfl,rfl,rfl,rfl,FW (c:=c)<|(Turn.coS a3).all _ (List.mem_singleton.2 rfl)⟩,rfl,rfl,a2⟩,Turn.coS a3⟩
theorem Xc(c:Ss)(d:Sd)(now ci:Int)(p:Pk)(h:ql c d)(h1:d.ck≤now)(h2:now≤4611686018427387904)(w:World)(hs:HS w (aN [eZ c d]) [eZ c d] w):Calls Tryz.prog 76 #[p_ c.sb,u_ now,i_ ci,.agg (gm p).toArray] w λe w'=> ∃zz:Int×Sd,e= .returned (i_ zz.1)∧oH c d now ci p zz.1 zz.2∧Turn [eZ c d] [eZ c zz.2] w w':=by
 refine(X8 c.sb c.lt c.lm d.bt d.mc d.kc c.my d.kb d.a d.on d.ka c.tl d.et d.ek c.kp d.kk d.ck d.ac now ci p h.laid h.by_ h.kd h.ym h.el h.len h.lm1.2 h1 h2 w<|HS.coS hs).mono ?_
 rintro e w' ⟨⟨er,kb',on',ka',et',ek',kk',ac'⟩,a1,a2,a3⟩
 exact⟨(er,{d with kb:=kb',on:=on',ka:=ka',et:=et',ek:=ek',kk:=kk',ck:=now,ac:=ac'}),a1,⟨⟨rfl,rfl,rfl,rfl,FW (c:=c)<|(Turn.coS a3).all _ (List.mem_singleton.2 rfl)⟩,rfl,a2⟩,Turn.coS a3⟩
theorem Xd(c:Ss)(d:Sd)(h:ql c d)(w:World)(r:(eZ c d).holds w):Calls Tryz.prog 119 #[p_ c.sb] w λe w'=>e= .returned (u_<|lT d.et d.kk)∧Fr [] w w':=by
 have hv: ∃v,aB d.kk 0=some v∧dX v.t v.kv:=by obtain⟨v,h1,h2,-⟩:=h.kd 0<|.inl rfl;exact⟨v,h1,h2⟩
 exact Vh c.sb c.lt c.lm d.bt d.mc d.kc c.my d.kb d.a d.on d.ka c.tl d.et d.ek c.kp d.kk d.ck d.ac h.el hv w (r _<|by simp[mF]) (r _<|by simp[mF]) (r _<|by simp[mF]) (r _<|by simp[mF]) (r _<|by simp[mF]) (r _<|by simp[mF])<|r _<|by simp[mF]
theorem Qx(c:Ss)(d:Sd)(W:World)(idle:Bool)(al:k0)(l:List Zc)(cl:Nat)(h:ql c d)(ha:dR W al (V.aP gv l))(hz: ∀z∈l,iQ z)(hNR:fw d.kc l=0→fg (bQ d.kc l)=[])(w:World)(hs:HS w (aN [eZ c d,eT W]) [eZ c d,eT W] w):Calls Tryz.prog 46 #[p_ c.sb,b_ idle,vS al l cl] w λe w'=> ∃zz:Int×Int×Sd,e= .returned (.tuple #[i_ zz.1,i_ zz.2.1])∧uz c d idle l zz.1 zz.2.1 zz.2.2∧Turn [eZ c d,eT W] [eZ c zz.2.2,eT W] w w':=by
 refine(Qw c.sb c.lt c.lm d.bt d.mc d.kc c.my d.kb d.a d.on d.ka c.tl d.et d.ek c.kp d.kk d.ck d.ac W idle al l cl ha h.laid h.aok hz hNR h.by_ h.nb w ?_).mono ?_
 ·have:=hs.coO (l:=mF c d) (R:=[eT W]);rwa[show aN [eZ c d,eT W]=aN (mF c d++[eT W]) from nj _ _] at this
 rintro e w' ⟨⟨pl,er,bt',mc',kc',kb',a',on',ka',kk'⟩,a1,a2,a3⟩
 have h3:Turn [eZ c d,eT W] [eZ c {d with bt:=bt',mc:=mc',kc:=kc',kb:=kb',a:=a',on:=on',ka:=ka',kk:=kk'},eT W] w w':=Turn.coI (X:=[eT W]) (Y:=[eT W]) (Is:=mF c d) (Os:=mF c _) a3
 exact⟨(pl,er,{d with bt:=bt',mc:=mc',kc:=kc',kb:=kb',a:=a',on:=on',ka:=ka',kk:=kk'}),a1,⟨rfl,rfl,rfl,rfl,a2,FW<|h3.all _<|List.mem_cons_self ..⟩,h3⟩
def gh:Int:=18446744073709551615
def oI(kk:List (Int×Vt))(i:Int):Int:=im<|((aB kk i).map λv:Vt=>v.t.toL).getD []
def kZ(kc:List (Int×Cl))(p:Int):Prop:=p=0∨ ∃c,aB kc p=some c∧c.hl=false
structure YX(kc:List (Int×Cl))(A:Int→Prop)(kk:List (Int×Vt))(E:Int→Prop)(p:Int)(v:Vt):Prop where
 er:dX v.t v.kv
 key: ∀i,aB v.kv i≠none↔A i∧(aK kc i).hp=p
 rng: ∀i y,aB v.kv i=some y→y.ka≤gh
 fit: ∀i y,aB v.kv i=some y→(aK kc i).hl=false→ ¬E i→oI kk i≤y.va
def KT(kc:List (Int×Cl))(A:Int→Prop)(kk:List (Int×Vt))(E:Int→Prop):Prop:= ∀p,kZ kc p→ ∃v,aB kk p=some v∧YX kc A kk E p v
variable{B E E':Int→Prop}
theorem rX(h:KT kc B kk E)(he: ∀q,B q→E q→E' q):KT kc B kk E':=λp hp=>by
 obtain⟨v,h1,h2⟩:=h p hp
 exact⟨v,h1,h2.er,h2.key,h2.rng,λi y hy hl hn=>h2.fit i y hy hl λhE=>hn<|he i ((h2.key i).1 (by rw[hy];simp)).1 hE⟩
variable{v:Vt}
theorem xR{p:Int}(h:p≠i):oI (aJ kk p v) i=oI kk i:=by unfold oI;rw[ed,if_neg h]
variable{c:Cl}
theorem Xe(hL:cB kc)(h:aB kc i=some c):c.hp≠i:=by
 obtain⟨h1,h2⟩:=hL.key i c h
 have:=ug h2;omega
variable{t:T}
theorem L6(hL:cB kc)(h:KT kc B kk E)(hc:aB kc z=some c)(hm:m.ec=c)(hv:aB kk c.hp=some v)
  (ha:fA on ka z=true)(hr:m.sh.sq11≤gh)(he:dX t (vt on ka kk m z v t).kv)(hE: ∀q,E q→q=z∨E' q)(hp:E' c.hp):KT kc (λq=>B q∨q=z) (aJ kk c.hp<|vt on ka kk m z v t) E':=by
 have hzc:=Xe hL hc
 have hgz:aK kc z=c:=fL hc
 have hhi:m.ec.hi=z:=by rw[hm];exact(hL.key z c hc).1
 intro p hpi
 obtain⟨v0,h1,h2⟩:=h p hpi
 by_cases e:c.hp=p
 ·subst e
  rw[hv] at h1;cases h1
  refine⟨_,ie _ _ _,he,λi=>?_,λi y hy=>?_,λi y hy hl hn=>?_⟩
  ·show aB (aJ v.kv z _) i≠none↔_
   rw[ed];by_cases q:z=i
   ·rw[if_pos q];subst q;simp[hgz]
   ·rw[if_neg q,h2.key];simp[show¬i=z from λe=>q e.symm]
  ·change aB (aJ v.kv z _) i=some y at hy
   rw[ed] at hy;by_cases q:z=i
   ·rw[if_pos q] at hy;cases hy;exact hr
   ·rw[if_neg q] at hy;exact h2.rng i y hy
  ·change aB (aJ v.kv z _) i=some y at hy
   rw[ed] at hy;by_cases q:z=i
   ·subst q
    rw[if_pos rfl] at hy;cases hy
    rw[xR hzc]
    show oI kk z≤mZ on ka kk m
    unfold mZ
    rw[hgz] at hl
    rw[if_neg (by rw[hm,hl,←hm,hhi,ha];simp),hhi]
    unfold oI bV;split<;>omega
   ·rw[if_neg q] at hy
    have hne:c.hp≠i:=λe=>hn<|e▸hp
    rw[xR hne]
    exact h2.fit i y hy hl λh5=>hn<|(hE i h5).resolve_left λe=>q e.symm
 ·refine⟨v0,by rw[ed,if_neg e];exact h1,h2.er,λi=>?_,h2.rng,λi y hy hl hn=>?_⟩
  ·rw[h2.key];constructor
   ·rintro⟨a,b⟩;exact⟨.inl a,b⟩
   ·rintro⟨a|a,b⟩
    ·exact⟨a,b⟩
    ·subst a;rw[hgz] at b;exact absurd b e
  ·have h6:=(h2.key i).1 (by rw[hy];simp)
   have hiz:i≠z:=λq=>by subst q;rw[hgz] at h6;exact e h6.2
   have hne:c.hp≠i:=λe=>hn<|e▸hp
   rw[xR hne]
   exact h2.fit i y hy hl λh5=>hn<|(hE i h5).resolve_left hiz
theorem ET(hL:cB kc)(h:aB kc i=some c):c.hp∈bE kc c.hp∨c.hp=0:=by
 rcases hL.par i c h with h1|⟨p,h1,-⟩
 ·exact .inr h1
 ·left;rw[i6 hL h1];exact List.mem_cons_self ..
variable{A':Int→Prop}
theorem EU(hL:cB kc)(hB:eW kc kb)(hR: ∀i m,aB kb i=some m→m.sh.sq11≤gh)(hA: ∀q,aB kc q≠none→(fA on ka q=true↔A' q)):
  ∀(n:Nat)(i:Int)(B:Int→Prop)(kk kk':hV Vt),dep kc i≤n→ku on ka kb (bE kc i) kk kk'→KT kc B kk (λq=>q∈bE kc i∨q=0)→(∀q,B q→A' q)→KT kc (λq=>B q∨(q∈bE kc i∧A' q)) kk' (λq=>q=0)
 |n,i,B,kk,kk',hn,hS,hK,hBA=>by
  cases e:aB kc i with
  |none=>
   rw[lL e] at hS hK⊢
   cases hS
   have:(λq=>B q∨(q∈([]:Wx)∧A' q))=B:=by funext q;simp
   rw[this];exact rX hK λq _ h=>h.resolve_left<|by simp
  |some c=>
   cases n with
   |zero=>rw[iM hL e] at hn;omega
   |succ n=>
    rw[iM hL e] at hn
    rw[i6 hL e] at hS hK⊢
    rcases hS with⟨h1,hS⟩|⟨h1,m,v,t,hm,hv,he,hS⟩
    ·have hni: ¬A' i:=λh=>by have:=(hA i (by rw[e];simp)).2 h;rw[h1] at this;cases this
     have h2:=EU hL hB hR hA n c.hp B kk kk' (by omega) hS (rX hK λq hq h=>by
      rcases h with h|h
      ·rcases List.mem_cons.1 h with rfl|h
       ·exact absurd (hBA _ hq) hni
       ·exact .inl h
      ·exact .inr h) hBA
     have:(λq=>B q∨(q∈i::bE kc c.hp∧A' q))=(λq=>B q∨(q∈bE kc c.hp∧A' q)):=by
      funext q;apply propext;constructor
      ·rintro(h|⟨h,h'⟩)
       ·exact .inl h
       ·rcases List.mem_cons.1 h with rfl|h
        ·exact absurd h' hni
        ·exact .inr ⟨h,h'⟩
      ·rintro(h|⟨h,h'⟩)
       ·exact .inl h
       ·exact .inr ⟨List.mem_cons_of_mem _ h,h'⟩
     rw[this];exact h2
    ·have hi:=(hA i (by rw[e];simp)).1 h1
     have hec:m.ec=c:=by have:=jP hB hm;rw[e] at this;cases this;rfl
     rw[hec] at hv hS
     have h2:=L6 (E':=λq=>q∈bE kc c.hp∨q=0) hL hK e hec hv h1 (hR i m hm) he (λq h=>by
      rcases h with h|h
      ·rcases List.mem_cons.1 h with h|h
       ·exact .inl h
       ·exact .inr<|.inl h
      ·exact .inr<|.inr h)<|ET hL e
     have h3:=EU hL hB hR hA n c.hp _ _ kk' (by omega) hS h2 (λq h=>by rcases h with h|h;exact hBA q h;rw[h];exact hi)
     have:(λq=>B q∨(q∈i::bE kc c.hp∧A' q))=(λq=>(B q∨q=i)∨(q∈bE kc c.hp∧A' q)):=by
      funext q;apply propext;constructor
      ·rintro(h|⟨h,h'⟩)
       ·exact .inl<|.inl h
       ·rcases List.mem_cons.1 h with h|h
        ·exact .inl<|.inr h
        ·exact .inr ⟨h,h'⟩
      ·rintro((h|h)|⟨h,h'⟩)
       ·exact .inl h
       ·subst h;exact .inr ⟨List.mem_cons_self ..,hi⟩
       ·exact .inr ⟨List.mem_cons_of_mem _ h,h'⟩
     rw[this];exact h3
theorem L8(hL:cB kc)(h:KT kc B kk E)(hc:aB kc z=some c)(hv:aB kk c.hp=some v)(he:dX t (aW v.kv z)):
  KT kc (λq=>B q∧q≠z) (aJ kk c.hp {v with t:=t,kv:=aW v.kv z}) (λq=>E q∨c.hp=q):=by
 have hgz:aK kc z=c:=fL hc
 intro p hpi
 obtain⟨v0,h1,h2⟩:=h p hpi
 by_cases e:c.hp=p
 ·subst e
  rw[hv] at h1;cases h1
  refine⟨_,ie _ _ _,he,λi=>?_,λi y hy=>?_,λi y hy hl hn=>?_⟩
  ·show aB (aW v.kv z) i≠none↔_
   rw[gP h2.er.nd];by_cases q:z=i
   ·rw[if_pos q];subst q;simp
   ·rw[if_neg q,h2.key];simp[show¬i=z from λe=>q e.symm]
  ·change aB (aW v.kv z) i=some y at hy
   rw[gP h2.er.nd] at hy;by_cases q:z=i
   ·rw[if_pos q] at hy;cases hy
   ·rw[if_neg q] at hy;exact h2.rng i y hy
  ·change aB (aW v.kv z) i=some y at hy
   rw[gP h2.er.nd] at hy;by_cases q:z=i
   ·rw[if_pos q] at hy;cases hy
   ·rw[if_neg q] at hy
    rw[xR λe=>hn<|.inr e]
    exact h2.fit i y hy hl λh5=>hn<|.inl h5
 ·refine⟨v0,by rw[ed,if_neg e];exact h1,h2.er,λi=>?_,h2.rng,λi y hy hl hn=>?_⟩
  ·rw[h2.key];constructor
   ·rintro⟨a,b⟩;exact⟨⟨a,λq=>by subst q;rw[hgz] at b;exact e b⟩,b⟩
   ·rintro⟨⟨a,-⟩,b⟩;exact⟨a,b⟩
  ·rw[xR λe=>hn<|.inr e]
   exact h2.fit i y hy hl λh5=>hn<|.inl h5
theorem Jq(hL:cB kc): ∀(l:Wx)(B E:Int→Prop)(kk kk':hV Vt),KT kc B kk E→og kc l kk kk'→KT kc (λq=>B q∧q∉l) kk' (λq=>E q∨ ∃z∈l,(aK kc z).hp=q)
 |[],B,E,kk,kk',h,hd=>by
  cases hd
  have:(λq=>B q∧q∉([]:Wx))=B:=by funext q;simp
  rw[this];exact rX h λq _ h=> .inl h
 |i::l,B,E,kk,kk',h,⟨c,v,t,hc,hv,he,hd⟩=>by
  have h2:=Jq hL l _ _ _ _ (L8 hL h hc hv he) hd
  have:(λq=>B q∧q∉i::l)=(λq=>(B q∧q≠i)∧q∉l):=by funext q;simp[and_assoc]
  rw[this]
  refine rX h2 λq _ hq=>?_
  rcases hq with(hq|hq)|⟨z,hz,hq⟩
  ·exact .inl hq
  ·exact .inr ⟨i,List.mem_cons_self ..,by rw[fL hc];exact hq⟩
  ·exact .inr ⟨z,List.mem_cons_of_mem _ hz,hq⟩
variable{β:Type}
theorem mO: ∀{kv:List (Int×β)},aB kv i≠none↔i∈kv.map (·.1)
 |[]=>by simp[aB]
 |p::kv=>by
  simp only[aB,List.map_cons,List.mem_cons]
  split
  ·rename_i e;simp[e]
  ·rename_i e;rw[mO (kv:=kv)];constructor
   ·exact λh=> .inr h
   ·rintro(h|h)
    ·exact absurd h.symm e
    ·exact h
structure AO(kc:List (Int×Cl))(on:List (Int×Int))(ka:List (Int×MB))(A:Int→Prop):Prop where
 ast:qs kc (on.map (·.1)) A
 fo:rG kc A (kx ka)
 nd:(on.map (·.1)).Nodup
variable{A:Int→Prop}
theorem uC(h:AO kc on ka A)(h0:i≠0):fA on ka i=true↔A i:=by
 have e:fA on ka i=true↔aB on i≠none∨kx ka i≠[]:=by
  unfold fA;rw[Bool.or_eq_true,Option.isSome_iff_ne_none,decide_eq_true_eq,gt_iff_lt,List.length_pos_iff]
 rw[e,mO,y9];constructor
 ·rintro(h3|⟨r,h3⟩)
  ·exact h.ast.ons i h3
  ·obtain⟨h4,h5⟩:=((h.fo i).2 r).1 h3
   rcases h.ast.up r h4 with h6|h6
   ·exact absurd (h5.symm.trans h6) h0
   ·rw[h5] at h6;exact h6
 ·intro h3
  rcases h.ast.sup i h3 with h4|⟨r,h4,h5⟩
  ·exact .inl h4
  ·exact .inr ⟨r,((h.fo i).2 r).2 ⟨h4,h5⟩⟩
theorem o8(hL:cB kc)(h:aB kc i≠none):i≠0:=λe=>h (by rw[e];exact lO hL)
theorem xu(h:eA kc i=true):aB kc i≠none:=by obtain⟨c,h1,-⟩:=kR h;rw[h1];simp
variable{kv:List (Int×β)}{c:Int}
theorem rY{v:β}:i∈(aJ kv c v).map (·.1)↔i=c∨i∈kv.map (·.1):=by
 rw[←mO,←mO,ed];split
 ·rename_i e;simp[e]
 ·rename_i e;simp[show¬i=c from λh=>e h.symm]
theorem tj(hn:(kv.map (·.1)).Nodup):i∈(aW kv c).map (·.1)↔i≠c∧i∈kv.map (·.1):=by
 rw[←mO,←mO,gP hn];split
 ·rename_i e;simp[e]
 ·rename_i e;simp[show¬i=c from λh=>e h.symm]
variable{er:Int}
open Classical in
theorem GP(hL:cB kc)(h:AO kc on ka A)(hr:rF (eu kc) on ka c on' ka' l er)(hs:eA kc c=true)(hl:(aK kc c).hl=true)(hn: ¬A c):
  ∃A',AO kc on' ka' A'∧(∀q,A' q↔A q∨q∈bE kc c)∧(∀i,i∈on'.map (·.1)↔i=c∨i∈on.map (·.1))∧l=(bE kc c).filter (λq=>decide (¬A q)):=by
 have h0:=o8 hL<|xu hs
 have hf:jT (eu kc) c=true:=by rw[xQ,hs,hl];rfl
 have hi:fA on ka c=false:=by rw[Bool.eq_false_iff];exact λe=>hn<|(uC h h0).1 e
 rcases hr with⟨-,-,-,hl2,rfl,hk⟩|⟨h1|h1,-⟩
 ·have hW:GM kc ((aJ on c<|bU (eu kc) c).map (·.1)) A c:={
   sh:=h.ast.sh,up:=λq hq=>(h.ast.up q hq).imp id .inl,sup:=λq hq=>(h.ast.sup q hq).imp (λe=>rY.2<|.inr e) id,me:= .inl (rY.2<|.inl rfl),mysh:=hs,no:=hn
   ons:=λq hq=>(rY.1 hq).symm.imp (h.ast.ons q) id,lf:=λq hq=>by
    rcases rY.1 hq with rfl|hq
    ·exact hl
    ·exact h.ast.lf q hq}
  obtain⟨A',a1,a2,-,a3,-⟩:=LN hL 40 c A (kx ka) hW h.fo<|we hL c
  rw[←hk] at a2
  refine⟨A',⟨a1,a2,mn h.nd _ _⟩,λq=>?_,λi=>rY,hl2.trans a3⟩
  rw[pS hL a1,pS hL h.ast];constructor
  ·rintro⟨m,h1,h2⟩
   rcases rY.1 h1 with rfl|h1
   ·exact .inr h2
   ·exact .inl ⟨m,h1,h2⟩
  ·rintro(⟨m,h1,h2⟩|h2)
   ·exact⟨m,rY.2<|.inr h1,h2⟩
   ·exact⟨c,rY.2<|.inl rfl,h2⟩
 ·rw[hf] at h1;cases h1
 ·rw[hi] at h1;cases h1
open Classical in
theorem L9(hL:cB kc)(h:AO kc on ka A)(hr:vr (eu kc) on ka c on' ka' l er)(hc:c∈on.map (·.1)):
  ∃A',AO kc on' ka' A'∧l=(bE kc c).filter (λq=>decide (¬A' q))∧(∀q,A q↔A' q∨q∈bE kc c)∧ ∀i,i∈on'.map (·.1)↔i≠c∧i∈on.map (·.1):=by
 have hA:=h.ast.ons c hc
 have hs:=h.ast.sh c hA
 have hl:=h.ast.lf c hc
 have h0:=o8 hL<|xu hs
 have hf:jT (eu kc) c=true:=by rw[xQ,hs,hl];rfl
 have hi:fA on ka c=true:=(uC h h0).2 hA
 rcases hr with⟨-,-,-,rfl,rfl,hk⟩|⟨h1|h1,-⟩
 ·have hW:FM kc ((aW on c).map (·.1)) A c:={
   sh:=h.ast.sh,up:=h.ast.up,sup:=λq hq hne=>(h.ast.sup q hq).imp (λe=>(tj h.nd).2 ⟨hne,e⟩) id,me:=hA,no:=λe=>((tj h.nd).1 e).1 rfl
   lone:=λr hr e=>by
    rcases uB hL (h.ast.sh r hr) with h1|h1
    ·exact h0<|e.symm.trans h1
    ·rw[e,hl] at h1;exact Bool.noConfusion h1.2
   ons:=λq hq=>h.ast.ons q ((tj h.nd).1 hq).2,lf:=λq hq=>h.ast.lf q ((tj h.nd).1 hq).2}
  obtain⟨A',a1,a2,-,a4⟩:=Jf hL 40 c A (kx ka) hW h.fo<|we hL c
  rw[←hk] at a2
  refine⟨A',⟨a1,a2,lX h.nd _⟩,a4.trans<|List.filter_congr λq _=>decide_eq_decide.2 Iff.rfl,λq=>?_,λi=>tj h.nd⟩
  rw[pS hL a1,pS hL h.ast];constructor
  ·rintro⟨m,h1,h2⟩
   by_cases e:m=c
   ·subst e;exact .inr h2
   ·exact .inl ⟨m,(tj h.nd).2 ⟨e,h1⟩,h2⟩
  ·rintro(⟨m,h1,h2⟩|h2)
   ·exact⟨m,((tj h.nd).1 h1).2,h2⟩
   ·exact⟨c,hc,h2⟩
 ·rw[hf] at h1;cases h1
 ·rw[hi] at h1;cases h1
theorem zw{f g:Int→Nat}(h: ∀j,j≠i→g j=f j): ∀{l:Wx},l.Nodup→i∈l→(l.map g).sum+f i=(l.map f).sum+g i
 |[],_,hi=>by cases hi
 |a::l,hn,hi=>by
  obtain⟨h1,h2⟩:=List.nodup_cons.1 hn
  have hs: ∀l:Wx,i∉l→(l.map g).sum=(l.map f).sum:=λl hl=>by
   congr 1;exact List.map_congr_left λj hj=>h j λe=>hl<|e▸hj
  rcases List.mem_cons.1 hi with e|hi
  ·subst e;simp only[List.map_cons,List.sum_cons];rw[hs l h1];omega
  ·have:=zw h h2 hi
   have e:a≠i:=λe=>h1<|e▸hi
   simp only[List.map_cons,List.sum_cons];rw[h a e];omega
theorem zx{f:Int→Nat}: ∀{l k:Wx},l.Nodup→(∀i∈l,f i≠0→i∈k)→(l.map f).sum≤(k.map f).sum
 |[],_,_,_=>by simp
 |a::l,k,hn,h=>by
  obtain⟨h1,h2⟩:=List.nodup_cons.1 hn
  by_cases e:f a=0
  ·have:=zx (k:=k) h2 λi hi=>h i<|List.mem_cons_of_mem _ hi
   simp only[List.map_cons,List.sum_cons];omega
  ·have hk:=h a (List.mem_cons_self ..) e
   have hp:(k.map f).sum=((a::k.erase a).map f).sum:=((List.perm_cons_erase hk).map f).sum_nat
   rw[hp]
   have:=zx (f:=f) (k:=k.erase a) h2 λi hi hf=>(List.mem_erase_of_ne<|λe=>h1 (by rw[←e];exact hi)).2 (h i (List.mem_cons_of_mem _ hi) hf)
   simp only[List.map_cons,List.sum_cons];omega
def vw(m:En):Cl×Option Nat×Qu:=(m.ec,m.qb,m.q)
def KQ(kb kb':List (Int×En)):Prop:= ∀j,(aB kb' j).map vw=(aB kb j).map vw
theorem qU:KQ kb kb:=λ_=>rfl
theorem xF{a b c:hV En}(h:KQ a b)(g:KQ b c):KQ a c:=λj=>(g j).trans (h j)
theorem xh{m':En}(hm:aB kb i=some m)(e:vw m'=vw m):KQ kb (aJ kb i m'):=λj=>by
 rw[ed];by_cases q:i=j
 ·rw[if_pos q];subst q;rw[hm];simp[e]
 ·rw[if_neg q]
def qk(kb:List (Int×En))(i:Int):List Pk:=((aB kb i).map λm:En=>qC m.q).getD []
theorem kj(h:aB kb i=some m):qk kb i=qC m.q:=by unfold qk;rw[h];rfl
theorem GQ(h:KQ kb kb'){j:Int}(hm:aB kb' j=some m): ∃n,aB kb j=some n∧m.ec=n.ec∧m.qb=n.qb∧m.q=n.q:=by
 have h1:=h j;rw[hm] at h1
 cases e:aB kb j with
 |none=>rw[e] at h1;cases h1
 |some n=>rw[e] at h1;simp[vw] at h1;exact⟨n,rfl,h1⟩
theorem NL(h:KQ kb kb'){j:Int}(hm:aB kb' j=none):aB kb j=none:=by
 have h1:=h j;rw[hm] at h1
 cases e:aB kb j with
 |none=>rfl
 |some n=>rw[e] at h1;cases h1
theorem NM(h:KQ kb kb')(j:Int):qk kb' j=qk kb j:=by
 cases e:aB kb' j with
 |none=>unfold qk;rw[e,NL h e]
 |some m=>obtain⟨n,h1,-,-,h2⟩:=GQ h e;rw[kj e,kj h1,h2]
theorem BZ(h:KQ kb kb')(hB:eW kc kb):eW kc kb':=λj=>by
 cases e:aB kb' j with
 |none=>have:=(hB j).1;rw[NL h e] at this;exact⟨this,λm h=>by cases h⟩
 |some m=>
  obtain⟨n,h1,h2,h3,h4⟩:=GQ h e
  have:=hB j;rw[h1] at this
  exact⟨by rw[←this.1];simp[h2],λm' h=>by cases h;exact LR (this.2 n rfl) h2 h3 h4⟩
theorem FX(j:Int):qk (aJ kb i m) j=if i=j then qC m.q else qk kb j:=by
 unfold qk;rw[ed];split<;>rfl
theorem EV(n:Int): ∀(L:Wx)(kb:hV En),KQ kb<|ky n L kb
 |[],kb=>qU
 |i::L,kb=>by
  unfold ky;cases e:aB kb i with
  |none=>exact EV n L kb
  |some m=>exact xF (xh (m':=vu n m) e rfl)<|EV n L _
theorem FY(kk:hV Vt)(now:Int): ∀(L:Wx)(kb:hV En),KQ kb<|kL kk now L kb
 |[],kb=>qU
 |i::L,kb=>by
  unfold kL;cases e:aB kb i with
  |none=>exact FY kk now L kb
  |some m=>exact xF (xh (m':=ou kk now m) e rfl)<|FY kk now L _
variable{sn:Int}{br:Bool}{et et':T}{ek ek':hV It}
theorem Vm(hm:aB kb i=some m)(h:uT i m sn br kb et ek kb' et' ek'):KQ kb kb':=by
 rcases h with⟨-,d,rfl,-⟩|⟨-,rfl,-⟩
 ·exact xh hm rfl
 ·exact qU
theorem Xf(h:qt kb kb'):KQ kb kb':=λj=>by
 have:=congrArg (Option.map vw)<|h.1 j
 rw[Option.map_map,Option.map_map] at this;exact this
def oJ(l:List Pk):Int:=(l.map (·.qn)).sum
def QI(m:En):Prop:=m.q.rm=m.ec.hq∧(m.q.sx.length:Int)=m.ec.hk∧m.q.bs=oJ (qC m.q)
def QV(kb:List (Int×En)):Prop:= ∀i m,aB kb i=some m→m.ec.hl=true→QI m
theorem GR(h:KQ kb kb')(hq:QV kb):QV kb':=λj m hm hl=>by
 obtain⟨n,h1,h2,-,h4⟩:=GQ h hm
 have:=hq j n h1 (by rw[←h2];exact hl)
 unfold QI at this⊢;rw[h2,h4];exact this
theorem FZ(h:QV kb)(hm:m.ec.hl=true→QI m):QV (aJ kb i m):=λj x hx hl=>by
 rw[ed] at hx;split at hx
 ·cases hx;exact hm hl
 ·exact h j x hx hl
theorem zM: ∀{l:List Pk},(∀p∈l,1≤p.qn∧p.qn≤16384)→0≤oJ l∧oJ l≤16384*l.length
 |[],_=>by simp[oJ]
 |p::l,h=>by
  have h1:=h p<|List.mem_cons_self ..
  have h2:=zM λq hq=>h q<|List.mem_cons_of_mem _ hq
  unfold oJ at h2⊢;simp only[List.map_cons,List.sum_cons,List.length_cons];omega
theorem EW(h:0≤x∧x≤4611686018427387904):IntKind.i64.wrap x=x:=nB (by constructor<;>omega)
theorem Vn{q:Qu}{x:Pk}(h:QI m)(hk: ∀p∈qC m.q,1≤p.qn∧p.qn≤16384)(hp:yB m.q x q):QI {m with q:=q}:=by
 obtain⟨h1,h2,h3,h4,h5⟩:=hp
 have hr:=zM (l:=qC q) λp hp=>hk p (by rw[h2];exact List.mem_cons_of_mem _ hp)
 have hn:(qC q).length≤64:=by rw[nl];have:=h1;unfold mE at this;omega
 refine⟨h3.trans h.1,by rw[←h.2.1];exact congrArg _ h4,?_⟩
 show q.bs=oJ (qC q)
 have e:m.q.bs-x.qn=oJ (qC q):=by rw[h.2.2,h2];unfold oJ;simp only[List.map_cons,List.sum_cons];omega
 rw[h5,e,EW (by constructor<;>omega)]
theorem Jr{q:Qu}{x:Pk}(h:QI m)(hk: ∀p∈qC m.q,1≤p.qn∧p.qn≤16384)(hx:1≤x.qn∧x.qn≤16384∨er≠0)(hp:nI m.q x q er):QI {m with q:=q}:=by
 obtain⟨h1,h3,h4,h5⟩:=hp
 refine⟨h3.trans h.1,by rw[←h.2.1];exact congrArg _ h4,?_⟩
 show q.bs=oJ (qC q)
 rcases h5 with⟨-,h0,h5,h6⟩|⟨-,-,h5,h6⟩
 ·have hx:=hx.resolve_right λh=>h h0
  have hr:=zM (l:=qC q) λp hp=>by
   rw[h5,List.mem_append] at hp
   rcases hp with hp|hp
   ·exact hk p hp
   ·rw[List.mem_singleton] at hp;subst hp;exact hx
  have hn:(qC q).length≤64:=by rw[nl];have:=h1;unfold mE at this;omega
  have e:m.q.bs+x.qn=oJ (qC q):=by rw[h.2.2,h5];simp[oJ]
  rw[h6,e,EW (by constructor<;>omega)]
 ·rw[h6,h5,h.2.2]
def s9(s:Sh):Prop:=s.sq2≤gh∧s.sq6≤gh∧s.sq11≤gh
def RG(kb:List (Int×En)):Prop:= ∀i m,aB kb i=some m→s9 m.sh
theorem Nq:s9 lF:=by simp[s9,lF,gh]
theorem uD(h:RG kb)(hs:s9 m.sh):RG (aJ kb i m):=λj x hx=>by
 rw[ed] at hx;split at hx
 ·cases hx;exact hs
 ·exact h j x hx
theorem Js(x:Int):IntKind.u64.wrap x≤gh:=by
 have:=uw_lt x;unfold gh;omega
where
 uw_lt (x:Int):IntKind.u64.wrap x<18446744073709551616:=by
  have h:IntKind.u64.bits=64:=rfl
  simp only[IntKind.wrap,h];simp;omega
theorem tm{a b:Int}(h:a≤gh)(g:b≤gh):bV a b≤gh:=by unfold bV;split<;>assumption
theorem sR:(0:Int)≤gh:=by decide
theorem IG(l:Ln)(a:Nm):iT l a≤gh:=by
 unfold iT;split
 ·exact sR
 ·split
  ·decide
  ·exact Js _
theorem IH(r:Rn)(a:Nm):i8 r a≤gh:=by
 unfold i8;split<;>exact tm (tm sR<|IG _ _)<|IG _ _
def uZ(r:Rn):Prop:=r.rq1≤gh∧r.rq5≤gh
theorem Iu{r:Rn}(h:uZ r)(x:Int):jN r x≤gh:=by
 unfold jN;split
 ·exact tm (tm (tm sR<|IH _ _) h.2) h.1
 ·exact tm (tm sR<|IH _ _) h.2
theorem Qy{l:Sh}(h:s9 l)(x:Int):s9 (jo l x):=by
 unfold jo;split
 ·exact⟨h.1,h.2.1,Iu ⟨h.1,h.2.1⟩ x⟩
 ·exact h
variable{c:Cv}
theorem II{y:Nm}(h:x≤gh):uZ (bI c x y):=by
 unfold bI;split
 ·exact⟨sR,h⟩
 ·split
  ·exact⟨h,h⟩
  ·exact⟨sR,h⟩
theorem IJ{y:Nm}(h:x≤gh):uZ (aS c x y):=by
 unfold aS;split
 ·exact⟨(II h).1,Js _⟩
 ·exact II h
theorem IK{l m:Ln}(h:l.lq1≤gh)(g:m.lq1≤gh):(dP l m).lq1≤gh:=by unfold dP;split<;>assumption
theorem Qz{a b:Rn}(h:uZ a)(g:uZ b):uZ (cH a b):=by
 refine⟨?_,IK (l:=cK a) (m:=cK b) h.2 g.2⟩
 show(if a.rq9 then dP (ep a) (ep b) else nP).lq1≤gh
 split
 ·exact IK (l:=ep a) (m:=ep b) h.1 g.1
 ·exact sR
theorem RA{l:Sh}(h:s9 l){y:Int}(hx:x≤gh):s9 (jO l c x y):=by
 have hr:uZ (bG l.sq1 (eS l)<|aS c x<|aH y 65536):=by
  unfold bG;split
  ·exact Qz ⟨h.1,h.2.1⟩<|IJ hx
  ·exact IJ hx
 exact⟨hr.1,hr.2,Iu hr _⟩
theorem EX(n:Int): ∀(L:Wx)(kb:hV En),RG kb→RG (ky n L kb)
 |[],kb,h=>h
 |i::L,kb,h=>by
  unfold ky;cases e:aB kb i with
  |none=>exact EX n L kb h
  |some m=>exact EX n L _<|uD (m:=vu n m) h<|Qy (h i m e) _
theorem Vo(h:RG kb)(hm:aB kb i=some m)(hd:uT i m sn br kb et ek kb' et' ek'):RG kb':=by
 rcases hd with⟨-,d,rfl,-⟩|⟨-,rfl,-⟩
 ·exact uD h<|h i m hm
 ·exact h
theorem Xg(h:RG kb)(hs:qt kb kb'):RG kb':=λj m hm=>by
 rcases hs.2 j m hm with e|⟨n,h1,h2⟩
 ·rw[e];exact Nq
 ·rw[h2];exact h j n h1
def gf(kb:List (Int×En)):Prop:= ∀i m,aB kb i=some m→kC (ot m.ec)≤1∧m.li=rB
def ZK(kc:List (Int×Cl))(kk:List (Int×Vt)):Prop:= ∀p v,kZ kc p→aB kk p=some v→ ∀i y,aB v.kv i=some y→y.va=0
theorem uE{m':En}(h:gf kb)(hm:aB kb i=some m)(e:m'.ec=m.ec)(hl:m'.li=rB):gf (aJ kb i m'):=λj x hx=>by
 rw[ed] at hx;split at hx
 ·cases hx;exact⟨by rw[e];exact(h i m hm).1,hl⟩
 ·exact h j x hx
theorem EY(n:Int): ∀(L:Wx)(kb:hV En),gf kb→gf (ky n L kb)
 |[],kb,h=>h
 |i::L,kb,h=>by
  unfold ky;cases e:aB kb i with
  |none=>exact EY n L kb h
  |some m=>exact EY n L _<|uE (m':=vu n m) h e rfl (by show jU m.li _=rB;rw[(h i m e).2];rfl)
theorem F2(kk:hV Vt)(now:Int): ∀(L:Wx)(kb:hV En),gf kb→gf (kL kk now L kb)
 |[],kb,h=>h
 |i::L,kb,h=>by
  unfold kL;cases e:aB kb i with
  |none=>exact F2 kk now L kb h
  |some m=>exact F2 kk now L _<|uE (m':=ou kk now m) h e rfl (if_pos (h i m e).1)
theorem Vp(h:gf kb)(hm:aB kb i=some m)(hd:uT i m sn br kb et ek kb' et' ek'):gf kb':=by
 rcases hd with⟨-,d,rfl,-⟩|⟨-,rfl,-⟩
 ·exact uE h hm rfl (h i m hm).2
 ·exact h
theorem Xh(h:gf kb)(hs:qt kb kb'):gf kb':=λj m hm=>by
 have h1:=hs.1 j;rw[hm] at h1
 cases e:aB kb j with
 |none=>rw[e] at h1;cases h1
 |some n=>
  rw[e] at h1;simp only[Option.map_some,Option.some.injEq,En.mk.injEq] at h1
  obtain⟨-,-,-,h2,-,-,-,h3⟩:=h1
  rw[h2,h3];exact h j n e
variable{L:List It}{y:It}
theorem DO{n:Int}(h:eC n L=some y):y∈L∧ ∀z∈L,z.ka≤n→y.va≤z.va:=by
 obtain⟨h1,h2⟩:=Hv h
 exact⟨(List.mem_filter.1 h1).1,λz hz hn=>h2 z<|List.mem_filter.2 ⟨hz,by simpa using hn⟩⟩
theorem Dc: ∀(L:List It)(v:It),gA (some v) L≠none
 |[],v,h=>by simp[gA] at h
 |y::L,v,h=>Dc L (aZ v y) h
theorem H9(hr: ∀y∈L,y.ka≤gh)(hL:L≠[]): ∃y,eC 18446744073709551615 L=some y:=by
 have hb:bl 18446744073709551615 L=L:=by unfold bl;rw[List.filter_eq_self];intro y hy;have:=hr y hy;unfold gh at this;simpa using this
 cases e:eC 18446744073709551615 L with
 |some y=>exact⟨y,rfl⟩
 |none=>
  exfalso;unfold eC at e;rw[hb] at e
  cases L with
  |nil=>exact hL rfl
  |cons y L=>exact Dc L y e
theorem La(hr: ∀y∈L,y.ka≤gh)(hz: ∀y∈L,y.va=0)(hL:L≠[]):im L=0:=by
 obtain⟨y,h⟩:=H9 hr hL
 unfold im;rw[if_neg hL,h]
 simp[hz y (DO h).1,cF,qf]
theorem rZ{kv:hV It}(h:dX t kv)(hy:y∈t.toL):aB kv y.ki=some y:=(h.mem y).1 hy
theorem TO(h:KT kc A kk E){p:Int}(hp:kZ kc p):iq kk p≤gh:=by
 obtain⟨v,h1,h2⟩:=h p hp
 unfold iq;rw[h1];simp only[Option.map_some,Option.getD_some]
 cases e:v.t.toL with
 |nil=>exact sR
 |cons y L=>exact h2.rng _ y<|rZ h2.er (by rw[e];exact List.mem_cons_self ..)
structure Iv(c:Ss)(d:Sd):Prop where
 lt1:1≤c.lt∧c.lt≤65536
 lm1:1≤c.lm∧c.lm≤16384
 laid:cB d.kc
 aok:oP d.kc
 by_:eW d.kc d.kb
 nd:Bc d
 ym:d.a.ym=eu d.kc
 ac: ∃A,AO d.kc d.on d.ka A∧KT d.kc A d.kk (λq=>q=0)
 onk: ∀i,i∈d.on.map (·.1)↔eA d.kc i=true∧(aK d.kc i).hl=true∧qk d.kb i≠[]
 el:dX d.et d.ek
 ekk: ∀i,aB d.ek i≠none→qk d.kb i≠[]∧ib (aK d.kc i)=true
 pk: ∀i,∀p∈qk d.kb i,1≤p.qn∧p.qn≤16384
 rg:RG d.kb
 qv:QV d.kb
theorem Jt{k:Wx}(hn:l.Nodup)(h: ∀i∈l,i∈k):l.length≤k.length:=by
 have e: ∀l:Wx,(l.map λ_=>1).sum=l.length:=λl=>by induction l with|nil=>rfl|cons a l ih=>simp only[List.map_cons,List.sum_cons,List.length_cons,ih];omega
 have:=zx (f:=λ_=>1) hn λi hi _=>h i hi
 rwa[e,e] at this
theorem vT(hL:cB kc){ol:Wx}(h:qs kc ol A)(hi:A i)(hl:(aK kc i).hl=true):i∈ol:=by
 rcases h.sup i hi with h1|⟨r,h2,h3⟩
 ·exact h1
 ·rcases uB hL (h.sh r h2) with h4|h4
  ·exact absurd (h3.symm.trans h4)<|o8 hL<|xu<|h.sh i hi
  ·rw[h3,hl] at h4;exact absurd h4.2<|by simp
theorem nu(hB:eW kc kb)(h:qk kb i≠[]): ∃m,aB kb i=some m∧aB kc i=some m.ec∧m.ec.hl=true∧aK kc i=m.ec:=by
 cases e:aB kb i with
 |none=>exact absurd (by unfold qk;rw[e];rfl) h
 |some m=>
  have hc:=jP hB e
  have ho:=(hB i).2 m e
  refine⟨m,rfl,hc,ho.lf.2 ?_,fL hc⟩
  rw[kj e] at h
  cases q:m.qb with
  |some b=>rfl
  |none=>exact absurd (List.eq_nil_of_length_eq_zero (by rw[nl];exact ho.no q)) h
theorem xT(hL:cB kc){c:Cl}(h:aB kc i=some c):kZ kc c.hp:=by
 rcases hL.par i c h with h1|⟨p,h1,h2⟩
 ·exact .inl h1
 ·exact .inr ⟨p,h1,h2⟩
theorem Xi(hL:cB kc)(hA: ∀i,A i→eA kc i=true)(h:KT kc A kk E):kF kc 600 kk:=λp hp=>by
 obtain⟨v,h1,h2⟩:=h p hp
 refine⟨v,h1,h2.er,?_⟩
 have h3:=Jt (l:=v.kv.map (·.1)) (k:=kc.map (·.1)) h2.er.nd λi hi=>mO.1<|xu<|hA i ((h2.key i).1 (mO.2 hi)).1
 have h4:=hL.len
 simp at h3;omega
theorem Pn{n:Int}(h:dc n L=some y):y∈L∧y.va≤n:=by
 unfold dc at h
 exact⟨List.mem_of_find?_eq_some h,by simpa using List.find?_some h⟩
variable{now:Int}
theorem zy(h:KT kc A kk E)(hi:kZ kc i)(hy:mU kk now i=some y): ∃v,aB kk i=some v∧aB v.kv y.ki=some y∧A y.ki∧(aK kc y.ki).hp=i∧y.va≤cF now 9223372036854775807:=by
 obtain⟨v,h1,h2⟩:=h i hi
 unfold mU at hy;rw[h1] at hy;simp only[Option.map_some,Option.getD_some] at hy
 obtain⟨h3,h4⟩:=Pn hy
 have h5:=rZ h2.er h3
 have h6:=(h2.key y.ki).1 (by rw[h5];simp)
 exact⟨v,h1,h5,h6.1,h6.2,h4⟩
theorem Ju(hL:cB kc)(hB:eW kc kb)(hA: ∀i,A i→eA kc i=true)(h:KT kc A kk E)(now:Int): ∀(f:Nat)(i:Int),kZ kc i→17≤dep kc i+f→qY kb kk now f i
 |0,i,hi,hd=>by have:=hL.dep i;omega
 |f+1,i,hi,hd=>by
  obtain⟨v,h1,h2⟩:=h i hi
  refine⟨⟨v,h1,h2.er⟩,λy hy=>?_⟩
  obtain⟨v',-,-,h3,h4,-⟩:=zy h hi hy
  obtain⟨c,h5,h6⟩:=kR<|hA _ h3
  obtain⟨m,h7,h8,-⟩:=oe hB h5
  refine⟨m,h7,?_⟩
  cases hl:m.ec.hl with
  |true=>exact .inl rfl
  |false=>exact .inr<|Ju hL hB hA h now f _ (.inr ⟨c,h5,by rw[←h8];exact hl⟩) (by rw[iM hL h5,←h6,h4];omega)
theorem F3(hL:cB kc)(hB:eW kc kb)(hA: ∀i,A i→eA kc i=true)(h:KT kc A kk E)(now:Int): ∀(f:Nat)(i j:Int),kZ kc i→jQ kb kk now f i=some j→A j∧(aK kc j).hl=true
 |0,i,j,hi,hd=>by simp[jQ] at hd
 |f+1,i,j,hi,hd=>by
  unfold jQ at hd
  split at hd
  ·cases hd
  ·rename_i y hy
   obtain⟨v',-,-,h3,h4,-⟩:=zy h hi hy
   obtain⟨c,h5,h6⟩:=kR<|hA _ h3
   obtain⟨m,h7,h8,-⟩:=oe hB h5
   have hlf:qh kb y.ki=c.hl:=by unfold qh;rw[h7];simp[h8]
   split at hd
   ·rename_i hl;cases hd;exact⟨h3,by rw[h6,←hlf];exact hl⟩
   ·rename_i hl
    exact F3 hL hB hA h now f _ j (.inr ⟨c,h5,by rw[←hlf];simpa using hl⟩) hd
variable{c:Ss}
theorem Nb(h:Iv c d)(hc:(dm d.et d.kb d.kk now).2.2=true):qk d.kb (dm d.et d.kb d.kk now).1≠[]:=by
 unfold dm at hc⊢
 split
 ·rename_i y hy
  exact(h.ekk _ (by rw[rZ h.el (DO hy).1];simp)).1
 ·rename_i hy
  rw[hy] at hc
  obtain⟨A,hA,hK⟩:=h.ac
  cases e:jQ d.kb d.kk now 17 0 with
  |none=>rw[e] at hc;cases hc
  |some j=>
   obtain⟨h1,h2⟩:=F3 h.laid h.by_ hA.ast.sh hK now 17 0 j (.inl rfl) e
   exact((h.onk j).1 (vT h.laid hA.ast h1 h2)).2.2
theorem Ax(h:Iv c d):ql c d:=by
 obtain⟨A,hA,hK⟩:=h.ac
 refine{lt1:=h.lt1,lm1:=h.lm1,laid:=h.laid,aok:=h.aok,by_:=h.by_,nb:=h.nd.1,kd:=Xi h.laid hA.ast.sh hK,ym:=h.ym,el:=h.el,len:= ?_,desc:=λnow=>Ju h.laid h.by_ hA.ast.sh hK now 17 0 (.inl rfl)<|by omega,pk:=λi m hm=>by rw[←kj hm];exact h.pk i,ch:=λnow hc=>?_}
 ·have h3:=Jt (l:=d.ek.map (·.1)) (k:=d.kc.map (·.1)) h.el.nd λi hi=>by
   obtain⟨m,-,h2,-⟩:=nu h.by_ (h.ekk i<|mO.2 hi).1
   exact mO.1 (by rw[h2];simp)
  have h4:=h.laid.len
  simp at h3;omega
 ·have h1:=Nb h hc
  obtain⟨m,h2,-⟩:=nu h.by_ h1
  exact⟨m,h2,by rw[←kj h2];exact h1⟩
theorem Az(hL:cB kc): ∀(n:Nat)(i z:Int),dep kc i≤n→z∈bE kc i→(aK kc z).hp∈bE kc i∨(aK kc z).hp=0
 |0,i,z,hn,hz=>by unfold bE at hz;rw[show dep kc i=0 by omega] at hz;simp[fb] at hz
 |n+1,i,z,hn,hz=>by
  cases e:aB kc i with
  |none=>rw[lL e] at hz;cases hz
  |some c=>
   rw[iM hL e] at hn
   rw[i6 hL e] at hz⊢
   rcases List.mem_cons.1 hz with rfl|hz
   ·rw[fL e];exact(ET hL e).imp (List.mem_cons_of_mem _) id
   ·exact(Az hL n _ z (by omega) hz).imp (List.mem_cons_of_mem _) id
theorem Jv(hn:(ek.map (·.1)).Nodup){d:Du}(j:Int):aB (yH ek i d) j=if i=j then some ⟨d.dq21,i,d.dq22,i⟩ else aB ek j:=by
 unfold yH;rw[ed];split
 ·rfl
 ·rename_i e;rw[gP hn,if_neg e]
theorem Vq(hn:(ek.map (·.1)).Nodup)(i:Int)(d:Du):((yH ek i d).map (·.1)).Nodup:=mn (lX hn _) _ _
theorem F4(hL:cB kc)(hB:eW kc kb)(hR: ∀i m,aB kb i=some m→m.sh.sq11≤gh)(hLi: ∀i m,aB kb i=some m→m.li=rB)(hA: ∀q,aB kc q≠none→(fA on ka q=true↔A' q))
  (hsup: ∀q,A' q→(aK kc q).hl=false→ ∃r d,A' r∧aB kc r=some d∧d.hp=q):
  ∀(n:Nat)(i:Int)(B:Int→Prop)(kk kk':hV Vt),dep kc i≤n→ku on ka kb (bE kc i) kk kk'→KT kc B kk (λq=>q∈bE kc i∨q=0)→(∀q,B q→A' q)→(∀q,A' q→B q∨q∈bE kc i)→ZK kc kk→ZK kc kk'
 |n,i,B,kk,kk',hn,hS,hK,hBA,hAB,hZ=>by
  cases e:aB kc i with
  |none=>rw[lL e] at hS;cases hS;exact hZ
  |some c=>
   cases n with
   |zero=>rw[iM hL e] at hn;omega
   |succ n=>
    have hdi:=iM hL e
    rw[i6 hL e] at hS hK hAB
    rcases hS with⟨h1,hS⟩|⟨h1,m,v,t,hm,hv,he,hS⟩
    ·have hni: ¬A' i:=λh=>by have:=(hA i (by rw[e];simp)).2 h;rw[h1] at this;cases this
     refine F4 hL hB hR hLi hA hsup n c.hp B kk kk' (by omega) hS (rX hK λq hq h=>?_) hBA (λq hq=>?_) hZ
     ·rcases h with h|h
      ·rcases List.mem_cons.1 h with rfl|h
       ·exact absurd (hBA _ hq) hni
       ·exact .inl h
      ·exact .inr h
     ·rcases hAB q hq with h|h
      ·exact .inl h
      ·exact .inr<|(List.mem_cons.1 h).resolve_left λe=>hni<|e▸hq
    ·have hi:=(hA i (by rw[e];simp)).1 h1
     have hec:m.ec=c:=by have:=jP hB hm;rw[e] at this;cases this;rfl
     have hf:mZ on ka kk m=0:=by
      unfold mZ;split
      ·rw[hLi i m hm];rfl
      ·rename_i hx
       have hl:c.hl=false:=by rw[←hec];cases q:m.ec.hl with|false=>rfl|true=>exact absurd (.inl q) hx
       have hid:m.ec.hi=i:=by rw[hec];exact(hL.key i c e).1
       obtain⟨r,d,h2,h3,h4⟩:=hsup i hi (by rw[fL e];exact hl)
       have hr:B r:=by
        refine(hAB r h2).resolve_right λh=>?_
        have h5:=rW hL _ i r (Nat.le_refl _) (by rw[i6 hL e];exact h)
        rw[iM hL h3,h4] at h5;omega
       obtain⟨w,h6,h7⟩:=hK i<|.inr ⟨c,e,hl⟩
       have h8:=(h7.key r).2 ⟨hr,by rw[fL h3];exact h4⟩
       have h9:im w.t.toL=0:=by
        refine La (λy hy=>h7.rng _ y<|rZ h7.er hy) (λy hy=>hZ i w (.inr ⟨c,e,hl⟩) h6 _ y<|rZ h7.er hy) λh=>?_
        have:=h7.er.len;rw[h] at this
        have:=List.eq_nil_of_length_eq_zero this.symm
        rw[this] at h8;exact h8 rfl
       rw[hLi i m hm,hid,h6];simp only[Option.map_some,Option.getD_some];rw[h9];rfl
     rw[hec] at hv hS
     have h2:=L6 (E':=λq=>q∈bE kc c.hp∨q=0) hL hK e hec hv h1 (hR i m hm) he (λq h=>by
      rcases h with h|h
      ·rcases List.mem_cons.1 h with h|h
       ·exact .inl h
       ·exact .inr<|.inl h
      ·exact .inr<|.inr h)<|ET hL e
     refine F4 hL hB hR hLi hA hsup n c.hp _ _ kk' (by omega) hS h2 (λq h=>by rcases h with h|h;exact hBA q h;rw[h];exact hi) (λq hq=>?_) λp w hpi hw j y hy=>?_
     ·rcases hAB q hq with h|h
      ·exact .inl<|.inl h
      ·exact(List.mem_cons.1 h).imp (λe=> .inr e) id
     ·rw[ed] at hw;split at hw
      ·cases hw
       change aB (aJ v.kv i _) j=some y at hy
       rw[ed] at hy;split at hy
       ·cases hy;exact hf
       ·exact hZ _ v (xT hL e) hv j y hy
      ·exact hZ p w hpi hw j y hy
theorem Lc(hL:cB kc): ∀(l:Wx)(B E:Int→Prop)(kk kk':hV Vt),KT kc B kk E→og kc l kk kk'→ZK kc kk→ZK kc kk'
 |[],B,E,kk,kk',h,hd,hZ=>by cases hd;exact hZ
 |i::l,B,E,kk,kk',h,⟨c,v,t,hc,hv,he,hd⟩,hZ=>by
  refine Lc hL l _ _ _ _ (L8 hL h hc hv he) hd λp w hpi hw j y hy=>?_
  rw[ed] at hw;split at hw
  ·cases hw
   change aB (aW v.kv i) j=some y at hy
   obtain⟨v2,h1,h2⟩:=h c.hp<|xT hL hc
   rw[hv] at h1;cases h1
   rw[gP h2.er.nd] at hy;split at hy
   ·cases hy
   ·exact hZ _ v (xT hL hc) hv j y hy
  ·exact hZ p w hpi hw j y hy
theorem Vr(hL:cB kc)(hA:AO kc on ka A): ∀q,A q→(aK kc q).hl=false→ ∃r d,A r∧aB kc r=some d∧d.hp=q:=λq hq hl=>by
 rcases hA.ast.sup q hq with h|⟨r,h1,h2⟩
 ·have:=hA.ast.lf q h;rw[hl] at this;cases this
 ·obtain⟨d,h3,h4⟩:=kR<|hA.ast.sh r h1
  exact⟨r,d,h1,h3,by rw[←h4];exact h2⟩
theorem EZ(hL:cB kc)(hB:eW kc kb)(hR:RG kb)(hA:AO kc on ka A)(hS:ku on ka kb (bE kc i) kk kk')(hK:KT kc B kk (λq=>q∈bE kc i∨q=0))
  (hBA: ∀q,B q→A q)(hAB: ∀q,A q→B q∨q∈bE kc i):KT kc A kk' (λq=>q=0)∧(gf kb→ZK kc kk→ZK kc kk'):=by
 refine⟨?_,λhLi hZ=>F4 hL hB (λj m hm=>(hR j m hm).2.2) (λj m hm=>(hLi j m hm).2) (λq hq=>uC hA<|o8 hL hq) (Vr hL hA) _ i B kk kk' (Nat.le_refl _) hS hK hBA hAB hZ⟩
 have h:=EU hL hB (λj m hm=>(hR j m hm).2.2) (A':=A) (λq hq=>uC hA<|o8 hL hq) _ i B kk kk' (Nat.le_refl _) hS hK hBA
 have:(λq=>B q∨(q∈bE kc i∧A q))=A:=by
  funext q;apply propext;constructor
  ·rintro(h|h);exact hBA q h;exact h.2
  ·intro h;exact(hAB q h).imp id λh2=>⟨h2,h⟩
 rw[this] at h;exact h
variable{d':Sd}{z:Pd}{ok:Bool}
theorem vA(h:Iv c d)(ht:oh d now z ok d'):Iv c d'∧(∀i,qk d.kb i=(if ok=true∧z.gq1=i then[nQ z] else[])++qk d'.kb i)∧(ok=true→qk d.kb z.gq1≠[])∧(gf d.kb∧ZK d.kc d.kk→gf d'.kb∧ZK d'.kc d'.kk):=by
 obtain⟨⟨hbt,hmc,hkc,ha,hnd⟩,hck,hac,hR⟩:=ht
 obtain⟨bt',mc',kc',kb',a',on',ka',et',ek',kk',ck',ac'⟩:=d'
 dsimp only at hbt hmc hkc ha hck hac hR⊢
 subst hbt hmc hkc ha hck hac
 rcases hR with⟨hc,rfl,rfl,rfl,rfl,rfl,rfl,rfl⟩|⟨hc,rfl,hz1,hz8,m,q,hm,hP,m2,kb2,kb3,kk2,hkb2,hm2,hqb,hq,hec,hD,hS,hSet⟩
 ·exact⟨⟨h.lt1,h.lm1,h.laid,h.aok,h.by_,hnd,h.ym,h.ac,h.onk,h.el,h.ekk,h.pk,h.rg,h.qv⟩,λi=>by simp,λe=>(by cases e),id⟩
 ·have hq0:=Nb h hc
  rw[←hz1] at hm hkb2 hm2 hD hS hSet hq0
  generalize z.gq1=i at*
  obtain⟨m',h1,hci,hl,hg⟩:=nu h.by_ hq0
  rw[hm] at h1;cases h1
  have hL:=h.laid
  have hid:m.ec.hi=i:=BY hL h.by_ hm
  have hqd:qk d.kb i=nQ z::qC q:=by rw[kj hm,hP.2.1]
  obtain⟨b,hb⟩:=Option.isSome_iff_exists.1<|((h.by_ i).2 m hm).lf.1 hl
  have hB1:=ES h.by_ hm hb hP.1
  have hG1:RG (aJ d.kb i {m with q:=q}):=uD h.rg<|h.rg i m hm
  have k2:=EV z.gq3 (bE d.kc i)<|aJ d.kb i {m with q:=q}
  have hG2:=EX z.gq3 (bE d.kc i) _ hG1
  rw[←hkb2] at k2 hG2
  have k3:=Vm hm2 hD
  have hG3:=Vo hG2 hm2 hD
  have hk:KQ kb3 kb'∧RG kb'∧(gf kb3→gf kb'):=by
   rcases hS with⟨-,rfl,-⟩|⟨-,l,er,-,hSh,-⟩
   ·exact⟨qU,hG3,id⟩
   ·exact⟨Xf hSh,Xg hG3 hSh,λh=>Xh h hSh⟩
  have hli:gf d.kb→gf kb':=λhl=>hk.2.2<|Vp (by rw[hkb2];exact EY _ _ _<|uE hl hm rfl (hl i m hm).2) hm2 hD
  have k:=xF (xF k2 k3) hk.1
  have hB':=BZ k hB1
  have hqk: ∀j,qk kb' j=if i=j then qC q else qk d.kb j:=λj=>by rw[NM k,FX]
  have hqi:qk kb' i=qC q:=by rw[hqk,if_pos rfl]
  have hne: ∀j,qk kb' j≠[]→qk d.kb j≠[]:=λj hj=>by
   rw[hqk] at hj;split at hj
   ·rename_i e;subst e;exact hq0
   ·exact hj
  obtain⟨A,hA,hK⟩:=h.ac
  have hrl:ib m.ec=ib (aK d.kc i):=by rw[hg]
  have hAK:((∃A',AO d.kc on' ka' A'∧KT d.kc A' kk' (λq=>q=0))∧ ∀j,j∈on'.map (·.1)↔eA d.kc j=true∧(aK d.kc j).hl=true∧qk kb' j≠[])∧(gf kb'→ZK d.kc d.kk→ZK d.kc kk'):=by
   have same:kk2=d.kk→on'=d.on→ka'=d.ka→(qC q≠[]∨i∉d.on.map (·.1))→((∃A',AO d.kc on' ka' A'∧KT d.kc A' kk' (λq=>q=0))∧ ∀j,j∈on'.map (·.1)↔eA d.kc j=true∧(aK d.kc j).hl=true∧qk kb' j≠[])∧(gf kb'→ZK d.kc d.kk→ZK d.kc kk'):=by
    rintro rfl rfl rfl hx
    obtain⟨s1,s2⟩:=EZ hL hB' hk.2.1 hA hSet (rX hK λq _ h=> .inr h) (λ_ h=>h) λ_ h=> .inl h
    refine⟨⟨⟨A,hA,s1⟩,λj=>?_⟩,s2⟩
    rw[h.onk,hqk];by_cases e:i=j
    ·subst e;rw[if_pos rfl]
     rcases hx with hx|hx
     ·simp[hx,hq0]
     ·rw[h.onk] at hx;constructor
      ·exact λh=>absurd h hx
      ·exact λh=>absurd ⟨h.1,h.2.1,hq0⟩ hx
    ·rw[if_neg e]
   rcases hS with⟨h1,-,h2,h3,h4⟩|⟨h1,l,er,hO,-,-,hDr,-⟩
   ·exact same h4 h2 h3<|.inl h1
   ·rw[h.ym] at hO
    by_cases hi:i∈d.on.map (·.1)
    ·obtain⟨A',hA',hl',hAA,hon⟩:=L9 hL hA hO hi
     have hup: ∀z∈l,z∈bE d.kc i:=λz hz=>by rw[hl'] at hz;exact(List.mem_filter.1 hz).1
     have hK2:=Jq hL l A _ d.kk kk2 hK hDr
     have e:(λq=>A q∧q∉l)=A':=by
      funext q;apply propext
      rw[hl',hAA q];simp only[List.mem_filter,decide_eq_true_eq]
      constructor
      ·rintro⟨h5|h5,h6⟩
       ·exact h5
       ·exact Classical.byContradiction λh7=>h6 ⟨h5,h7⟩
      ·exact λh5=>⟨.inl h5,λh6=>h6.2 h5⟩
     rw[e] at hK2
     have hz2:=Lc hL l _ _ d.kk kk2 hK hDr
     obtain⟨s1,s2⟩:=EZ hL hB' hk.2.1 hA' hSet (rX hK2 λq _ h=>by
      rcases h with h|⟨z,hz,rfl⟩
      ·exact .inr h
      ·exact Az hL _ i z (Nat.le_refl _)<|hup z hz) (λ_ h=>h) λ_ h=> .inl h
     refine⟨⟨⟨A',hA',s1⟩,λj=>?_⟩,λl1 l2=>s2 l1<|hz2 l2⟩
     ·rw[hon,h.onk,hqk];by_cases e:i=j
      ·subst e;rw[if_pos rfl];simp[h1]
      ·rw[if_neg e];simp[show¬j=i from λh=>e h.symm]
    ·rcases hO with⟨-,h2,-⟩|⟨-,-,rfl,h2,h3⟩
     ·exact absurd (vT hL hA.ast ((uC hA<|o8 hL (by rw[hci];simp)).1 h2) (by rw[hg];exact hl)) hi
     ·exact same hDr h2 h3<|.inr hi
  refine⟨?_,λj=>?_,λ_=>hq0,λhz=>⟨hli hz.1,hAK.2 (hli hz.1) hz.2⟩⟩
  ·have hEk:dX et' ek'∧ ∀j,aB ek' j≠none→qk kb' j≠[]∧ib (aK d.kc j)=true:=by
    have hgo: ∀j,i≠j→aB d.ek j≠none→qk kb' j≠[]∧ib (aK d.kc j)=true:=λj hj h1=>by
     rw[hqk,if_neg hj];exact h.ekk j h1
    rcases hD with⟨h1,d0,-,h2,h3⟩|⟨h1,-,rfl,rfl⟩
    ·rw[hec] at h1 h3;rw[hid,hq] at h3
     refine⟨h2,λj hj=>?_⟩
     rcases h3 with⟨h3,rfl⟩|⟨h3,rfl⟩
     ·rw[Jv h.el.nd] at hj
      by_cases e:i=j
      ·subst e;exact⟨by rw[hqi];exact h3,by rw[←hrl];exact h1⟩
      ·rw[if_neg e] at hj;exact hgo j e hj
     ·rw[gP<|Vq h.el.nd _ _] at hj
      by_cases e:i=j
      ·rw[if_pos e] at hj;exact absurd rfl hj
      ·rw[if_neg e,Jv h.el.nd,if_neg e] at hj;exact hgo j e hj
    ·rw[hec] at h1
     refine⟨h.el,λj hj=>?_⟩
     by_cases e:i=j
     ·subst e;have:=(h.ekk i hj).2;rw[←hrl,h1] at this;cases this
     ·exact hgo j e hj
   have hpk: ∀j,∀p∈qk kb' j,1≤p.qn∧p.qn≤16384:=λj p hp=>by
    rw[hqk] at hp;split at hp
    ·exact h.pk i p (by rw[hqd];exact List.mem_cons_of_mem _ hp)
    ·exact h.pk j p hp
   exact⟨h.lt1,h.lm1,hL,h.aok,hB',hnd,h.ym,hAK.1.1,hAK.1.2,hEk.1,hEk.2,hpk,hk.2.1,GR k<|FZ h.qv λ_=>Vn (h.qv i m hm hl) (by rw[←kj hm];exact h.pk i) hP⟩
  ·show qk d.kb j=_++qk kb' j
   rw[hqk];by_cases e:i=j
   ·subst e;simp[hqd]
   ·simp[e]
theorem NN{c:Cl}(h:aK kc i=c):qJ c=eA kc i:=by rw[←h];rfl
theorem E0(hL:cB kc)(hl: ∀p,kZ kc p→iq kk p≤gh): ∀(L:Wx)(kb:hV En),eW kc kb→RG kb→RG (kL kk now L kb)
 |[],kb,hB,h=>h
 |i::L,kb,hB,h=>by
  unfold kL;cases e:aB kb i with
  |none=>exact E0 hL hl L kb hB h
  |some m=>exact E0 hL hl L _ (BZ (xh (m':=ou kk now m) e rfl) hB)<|uD (m:=ou kk now m) h<|RA (h i m e)<|hl _<|xT hL<|jP hB e
variable{ci:Int}{p:Pk}
theorem vU(h:Iv c d)(ht:oH c d now ci p er d'):Iv c d'∧(∀i,qk d'.kb i=qk d.kb i++(if er=0∧ci=i then[p] else[]))∧(er=0→ci∈d.kc.map (·.1))∧(gf d.kb∧ZK d.kc d.kk→gf d'.kb∧ZK d'.kc d'.kk):=by
 obtain⟨⟨hbt,hmc,hkc,ha,hnd⟩,hck,hR⟩:=ht
 obtain⟨bt',mc',kc',kb',a',on',ka',et',ek',kk',ck',ac'⟩:=d'
 dsimp only at hbt hmc hkc ha hck hR⊢
 subst hbt hmc hkc ha hck
 have hL:=h.laid
 rcases hR with⟨he,-,-,hkb,rfl,rfl,rfl,rfl,rfl,-⟩|⟨rfl,-,m,q,hO,hP,hR⟩
 ·have hk:eW d.kc kb'∧RG kb'∧(∀i,qk kb' i=qk d.kb i)∧(gf d.kb→gf kb')∧QV kb':=by
   rcases hkb with rfl|⟨m,q,e,hm,hP,h0,rfl⟩
   ·exact⟨h.by_,h.rg,λ_=>rfl,id,h.qv⟩
   ·obtain⟨h1,-,-,⟨-,h2,-⟩|⟨-,-,h3,-⟩⟩:=id hP
    ·exact absurd h2 h0
    ·have ho:=(h.by_ ci).2 m hm
     refine⟨Au h.by_ hm rfl ⟨ho.lf,λhb=>?_,λ_=>h1⟩,uD h.rg<|h.rg ci m hm,λi=>?_,λhl=>uE hl hm rfl (hl ci m hm).2,FZ h.qv λhl=>Jr (h.qv ci m hm hl) (by rw[←kj hm];exact h.pk ci) (.inr h0) hP⟩
     ·have h4:=congrArg List.length h3
      rw[nl,nl,ho.no hb] at h4;exact h4
     ·rw[FX];split
      ·rename_i e;subst e;rw[kj hm];exact h3
      ·rfl
  refine⟨⟨h.lt1,h.lm1,hL,h.aok,hk.1,hnd,h.ym,h.ac,λi=>?_,h.el,λi hi=>?_,λi q hq=>?_,hk.2.1,hk.2.2.2.2⟩,λi=>?_,λe=>absurd e he,λhz=>⟨hk.2.2.2.1 hz.1,hz.2⟩⟩
  ·show i∈d.on.map (·.1)↔_
   rw[h.onk,←hk.2.2.1 i]
  ·show qk kb' i≠[]∧_
   rw[hk.2.2.1];exact h.ekk i hi
  ·exact h.pk i q (by rw[←hk.2.2.1];exact hq)
  ·rw[if_neg<|λe=>he e.1,List.append_nil];exact hk.2.2.1 i
 ·obtain⟨hm,hl,hp1,hp2,-,-⟩:=hO
  have hci:=jP h.by_ hm
  have hg:=fL hci
  have hid:m.ec.hi=ci:=BY hL h.by_ hm
  have hqi:QV (aJ d.kb ci {m with q:=q}):=FZ h.qv λ_=>Jr (h.qv ci m hm hl) (by rw[←kj hm];exact h.pk ci) (.inl ⟨hp1,Int.le_trans hp2 h.lm1.2⟩) hP
  obtain⟨hqo,-,-,⟨-,-,hqq,-⟩|⟨-,h0,-⟩⟩:=hP
  rotate_left
  ·exact absurd h0<|by decide
  obtain⟨b,hb⟩:=Option.isSome_iff_exists.1<|((h.by_ ci).2 m hm).lf.1 hl
  have hB1:=ES h.by_ hm hb hqo
  have hG1:RG (aJ d.kb ci {m with q:=q}):=uD h.rg<|h.rg ci m hm
  have hl1:gf d.kb→gf (aJ d.kb ci {m with q:=q}):=λhl=>uE hl hm rfl (hl ci m hm).2
  have hm1:aB (aJ d.kb ci {m with q:=q}) ci=some {m with q:=q}:=ie _ _ _
  obtain⟨A,hA,hK⟩:=h.ac
  have hqn:qC q≠[]:=by rw[hqq];simp
  have fin: ∀{kb'},KQ (aJ d.kb ci {m with q:=q}) kb'→ ∀i,qk kb' i=qk d.kb i++(if ci=i then[p] else[]):=λ{kb'}k i=>by
   rw[NM k,FX];split
   ·rename_i e;subst e;rw[kj hm,hqq]
   ·simp
  have hpk: ∀{kb'},KQ (aJ d.kb ci {m with q:=q}) kb'→ ∀i,∀p∈qk kb' i,1≤p.qn∧p.qn≤16384:=λ{kb'}k i x hx=>by
   rw[fin k,List.mem_append] at hx
   rcases hx with hx|hx
   ·exact h.pk i x hx
   ·split at hx
    ·rw[List.mem_singleton] at hx;subst hx;exact⟨hp1,Int.le_trans hp2 h.lm1.2⟩
    ·cases hx
  have hek: ∀{kb'},KQ (aJ d.kb ci {m with q:=q}) kb'→ ∀i,aB d.ek i≠none→qk kb' i≠[]∧ib (aK d.kc i)=true:=λ{kb'}k i hi=>by
   rw[fin k];exact⟨by have:=(h.ekk i hi).1;simp[this],(h.ekk i hi).2⟩
  have hck:ci∈d.kc.map (·.1):=mO.1 (by rw[hci];simp)
  rcases hR with⟨h1,kbw,hD,hW⟩|⟨h1,rfl,rfl,rfl,rfl,rfl,rfl⟩
  ·have hq0:qC m.q=[]:=by rw[hqq] at h1;simpa using h1
   have hq00:qk d.kb ci=[]:=by rw[kj hm,hq0]
   have hkw:KQ (aJ d.kb ci {m with q:=q}) kbw∧RG kbw∧dX et' ek'∧(gf d.kb→gf kbw):=by
    rcases hD with⟨-,rfl,-,h3⟩|⟨-,rfl,rfl,rfl⟩
    ·exact⟨xh hm1 rfl,uD hG1<|h.rg ci m hm,h3,λhl=>uE (hl1 hl) hm1 rfl (hl ci m hm).2⟩
    ·exact⟨qU,hG1,h.el,hl1⟩
   have hek': ∀{kb'},KQ (aJ d.kb ci {m with q:=q}) kb'→ ∀i,aB ek' i≠none→qk kb' i≠[]∧ib (aK d.kc i)=true:=λ{kb'}k i hi=>by
    rcases hD with⟨h2,-,rfl,-⟩|⟨-,-,rfl,-⟩
    ·rw[ed] at hi
     change ib m.ec=true at h2
     by_cases e:m.ec.hi=i
     ·rw[hid] at e;subst e;exact⟨by rw[fin k,if_pos rfl];simp,by rw[hg];exact h2⟩
     ·rw[if_neg e,gP h.el.nd,if_neg e] at hi;exact hek k i hi
    ·exact hek k i hi
   change(qJ m.ec=true∧ ∃l er,rF d.a.ym d.on d.ka m.ec.hi on' ka' l er∧kb'=kL d.kk ck' l kbw∧ku on' ka' kb' (bE d.kc m.ec.hi) d.kk kk')∨(qJ m.ec=false∧kb'=kbw∧on'=d.on∧ka'=d.ka∧kk'=d.kk) at hW
   rw[hid,NN hg] at hW
   have hBw:=BZ hkw.1 hB1
   rcases hW with⟨hs,l,er,hO,hkb,hS⟩|⟨hs,rfl,rfl,rfl,rfl⟩
   ·rw[h.ym] at hO
    have hn: ¬A ci:=λha=>((h.onk ci).1 (vT hL hA.ast ha (by rw[hg];exact hl))).2.2 hq00
    obtain⟨A',hA',hAA,hon,-⟩:=GP hL hA hO hs (by rw[hg];exact hl) hn
    have k:=xF hkw.1<|FY d.kk ck' l kbw
    have hG':=E0 hL (λp hp=>TO hK hp) l kbw hBw hkw.2.1 (now:=ck')
    rw[←hkb] at k hG'
    have hB':=BZ k hB1
    obtain⟨s1,s2⟩:=EZ hL hB' hG' hA' hS (rX hK λq _ h=> .inr h) (λq h=>(hAA q).2 (.inl h)) λq h=>(hAA q).1 h
    have hl':gf d.kb→gf kb':=λhl=>by rw[hkb];exact F2 _ _ _ _<|hkw.2.2.2 hl
    refine⟨⟨h.lt1,h.lm1,hL,h.aok,hB',hnd,h.ym,⟨A',hA',s1⟩,λj=>?_,hkw.2.2.1,hek' k,hpk k,hG',GR k hqi⟩,λi=>by rw[fin k];simp,λ_=>hck,λhz=>⟨hl' hz.1,s2 (hl' hz.1) hz.2⟩⟩
    show j∈on'.map (·.1)↔eA d.kc j=true∧(aK d.kc j).hl=true∧qk kb' j≠[]
    rw[hon,fin k,h.onk];by_cases e:ci=j
    ·subst e;simp[hs,hg,hl]
    ·simp[e,show¬j=ci from λh=>e h.symm]
   ·refine⟨⟨h.lt1,h.lm1,hL,h.aok,hBw,hnd,h.ym,⟨A,hA,hK⟩,λj=>?_,hkw.2.2.1,hek' hkw.1,hpk hkw.1,hkw.2.1,GR hkw.1 hqi⟩,λi=>by rw[fin hkw.1];simp,λ_=>hck,λhz=>⟨hkw.2.2.2 hz.1,hz.2⟩⟩
    show j∈d.on.map (·.1)↔eA d.kc j=true∧(aK d.kc j).hl=true∧qk kb' j≠[]
    rw[fin hkw.1,h.onk];by_cases e:ci=j
    ·subst e;simp[hs]
    ·simp[e]
  ·have hq0:qk d.kb ci≠[]:=by
    rw[kj hm];intro e;rw[hqq,e] at h1;exact h1 rfl
   refine⟨⟨h.lt1,h.lm1,hL,h.aok,hB1,hnd,h.ym,⟨A,hA,hK⟩,λj=>?_,h.el,hek qU,hpk qU,hG1,hqi⟩,λi=>by rw[fin qU];simp,λ_=>hck,λhz=>⟨hl1 hz.1,hz.2⟩⟩
   show j∈d.on.map (·.1)↔eA d.kc j=true∧(aK d.kc j).hl=true∧qk (aJ d.kb ci {m with q:=q}) j≠[]
   rw[fin qU,h.onk];by_cases e:ci=j
   ·subst e;simp[hq0]
   ·simp[e]
theorem Df(h:now≤4611686018427387904):cF now 9223372036854775807=now:=by unfold cF;split<;>omega
theorem PI(hr: ∀y∈L,y.ka≤gh)(h:im L≤now)(hn:now≤4611686018427387904): ∃y,dc now L=some y:=by
 unfold im at h
 split at h
 ·unfold qf at h;omega
 ·rename_i hL
  obtain⟨y,e⟩:=H9 hr hL
  obtain⟨h1,-⟩:=DO e
  have h2:y.va≤now:=by rw[e] at h;simp only[Option.getD_some] at h;unfold cF qf at h;split at h<;>omega
  have:(dc now L).isSome:=by unfold dc;rw[List.find?_isSome];exact⟨y,h1,by simpa using h2⟩
  exact Option.isSome_iff_exists.1 this
theorem Iw(hL:cB kc)(hB:eW kc kb)(hA: ∀i,A i→eA kc i=true)(h:KT kc A kk (λq=>q=0))(hn:now≤4611686018427387904): ∀(f:Nat)(i:Int),kZ kc i→17≤dep kc i+f→oI kk i≤now→ ∃j,jQ kb kk now f i=some j
 |0,i,hi,hd,_=>by have:=hL.dep i;omega
 |f+1,i,hi,hd,hf=>by
  obtain⟨v,h1,h2⟩:=h i hi
  unfold oI at hf;rw[h1] at hf;simp only[Option.map_some,Option.getD_some] at hf
  obtain⟨y,hy⟩:=PI (λy hy=>h2.rng _ y<|rZ h2.er hy) hf hn
  have hp:mU kk now i=some y:=by unfold mU;rw[h1,Df hn];exact hy
  obtain⟨v',h1',h5,h3,h4,h6⟩:=zy h hi hp
  rw[h1] at h1';cases h1'
  rw[Df hn] at h6
  obtain⟨c,h7,h8⟩:=kR<|hA _ h3
  obtain⟨m,h9,h10,-⟩:=oe hB h7
  have hlf:qh kb y.ki=c.hl:=by unfold qh;rw[h9];simp[h10]
  unfold jQ;rw[hp];dsimp only
  cases e:c.hl with
  |true=>rw[if_pos<|hlf.trans e];exact⟨_,rfl⟩
  |false=>
   rw[if_neg (by rw[hlf,e];simp)]
   refine Iw hL hB hA h hn f _ (.inr ⟨c,h7,e⟩) (by rw[iM hL h7,←h8,h4];omega) ?_
   have:=h2.fit _ y h5 (by rw[h8];exact e)<|o8 hL (by rw[h7];simp)
   omega
theorem NP(h:Iv c d)(hd:lT d.et d.kk≤now)(hn:now≤4611686018427387904)(ht:oh d now z ok d'):ok=true:=by
 obtain⟨-,-,-,⟨hc,-⟩|⟨-,h2,-⟩⟩:=ht
 rotate_left
 ·exact h2
 exfalso
 have hch:(dm d.et d.kb d.kk now).2.2=true:=by
  unfold dm
  split
  ·rfl
  ·rename_i hb
   obtain⟨A,hA,hK⟩:=h.ac
   have hf:oI d.kk 0≤now:=by
    unfold lT cF at hd
    split at hd
    ·exact hd
    ·exfalso
     rename_i hlt
     unfold od at hd hlt
     cases e:d.et.toL with
     |nil=>rw[e,if_pos rfl] at hd;unfold qf at hd;omega
     |cons y L=>
      rw[e] at hd;simp only[List.head?_cons,Option.getD_some,reduceCtorEq,if_false] at hd
      have h1:y.ka≤now:=by unfold cF qf at hd;split at hd<;>omega
      rw[Df hn,e] at hb
      unfold eC bl at hb
      rw[List.filter_cons_of_pos<|by simpa using h1] at hb
      exact Dc _ y hb
   obtain⟨j,hj⟩:=Iw h.laid h.by_ hA.ast.sh hK hn 17 0 (.inl rfl) (by omega) hf
   rw[hj];rfl
 rw[hch] at hc;cases hc
structure oR where
 bs:Nat
 mc:Nat
 mr:Nat
def yI(s:oR)(cv:List (Int×SL))(rv:List (Int×SR)):List V.aI:=[aA s.bs [.map<|some s.mc,.map<|some s.mr] 157,bH (λk:Int=>i_ k) V.kH s.mc cv,fF 40 iO cv,bH (λk:Int=>i_ k) (λy:SR=>(.agg #[u_ y.sp,u_ y.sb,u_ y.sr,u_ y.sw,u_ y.sg])) s.mr rv]
def fP(s:oR)(cv:List (Int×SL))(rv:List (Int×SR)):V.aI:=co<|yI s cv rv
def gi(n:Nat)(cv:List (Int×SL)):Prop:= ∀k,((aB cv k).getD af).sx.length≤n
theorem Xj(w:World)(hs:HS w (aN []) [] w):Calls Tryz.prog 44 #[] w λe w'=> ∃zz:oR,e= .returned (p_ zz.bs)∧True∧Turn [] [fP zz [] []] w w':=by
 refine(VV w hs).mono ?_
 rintro e w' ⟨⟨bs,mc,mr⟩,h1,-,h3⟩
 exact⟨⟨bs,mc,mr⟩,h1,trivial,Turn.coR (Y:=[]) (by rw[List.append_nil];exact h3)⟩
theorem Vs(s:oR)(cv:hV SL)(rv:hV SR)(n:Nat)(ci a:Int)(hn:gi n cv)(h:n≤100000)(w:World)(hs:HS w (aN [fP s cv rv]) [fP s cv rv] w):Calls Tryz.prog 77 #[p_ s.bs,i_ ci,u_ a] w λe w'=> ∃zz:hV SL,e= .returned (i_ 0)∧gi (n+1) zz∧Turn [fP s cv rv] [fP s zz rv] w w':=by
 refine(S9 s.bs s.mc s.mr cv rv ci a (Nat.le_trans (hn ci) h) w<|HS.coS hs).mono ?_
 rintro e w' ⟨zc,h1,⟨A,c,h2⟩,h3⟩
 refine⟨zc,h1,λk=>?_,Turn.coS h3⟩
 rw[h2,ed];by_cases e:ci=k
 ·rw[if_pos e];have:=hn ci;simp;omega
 ·rw[if_neg e];have:=hn k;omega
theorem Vu(s:oR)(cv:hV SL)(rv:hV SR)(n:Nat)(ci dn nb:Int)(rl:Bool)(hn:gi n cv)(w:World)(hs:HS w (aN [fP s cv rv]) [fP s cv rv] w):Calls Tryz.prog 116 #[p_ s.bs,i_ ci,u_ dn,i_ nb,b_ rl] w λe w'=> ∃zz:Int×hV SL×hV SR,e= .returned (i_ zz.1)∧gi n zz.2.1∧Turn [fP s cv rv] [fP s zz.2.1 zz.2.2] w w':=by
 have hf:=HS.coS hs
 by_cases hw:nt cv ci dn nb=0
 ·refine(Si s.bs s.mc s.mr cv rv ci dn nb rl hw w hf).mono ?_
  rintro e w' ⟨_,h1,-,h3⟩
  refine⟨(0,_,_),h1,λk=>?_,Turn.coS h3⟩
  rw[ed];by_cases e:ci=k
  ·rw[if_pos e];have:=hn ci;simp[xp];omega
  ·rw[if_neg e];exact hn k
 ·refine(Oi s.bs s.mc s.mr cv rv ci dn nb rl hw w (hf.all _<|by simp[yI]) (hf.all _<|by simp[yI]) (hf.all _<|by simp[yI])<|hf.all _<|by simp[yI]).mono ?_
  rintro e w' ⟨rfl,h2⟩
  exact⟨(_,cv,rv),rfl,hn,Turn.of (hs.kept h2)<|.refl _⟩
structure Ru where
 bt:Nat
 ar:Option Addr
 cr:Nat
 mb:Nat
 am:Option Addr
 cm:Nat
 rl:List Rl
def yJ(r:Ru):List V.aI:=[aA r.bt [.slice r.ar r.rl.length r.cr,.map<|some r.mb,.slice r.am (bC r.rl r.rl.length).length r.cm] 150,sl r.ar r.rl.length r.cr 86 9<|V.aP f9 r.rl,bH ip (λx:Int=>i_ x) r.mb<|cg r.rl r.rl.length,sl r.am (bC r.rl r.rl.length).length r.cm 3 1 (V.aP iW<|bC r.rl r.rl.length)]
def gj(r:Ru):V.aI:=co<|yJ r
structure mD(l:List Rl):Prop where
 len:l.length≤32
 good: ∀x∈l,x.good=true
 rng: ∀x∈l,kq x
theorem Vv(r:Ru)(h:Hd)(ho:mD r.rl)(hh:ko h)(w:World)(hr:(gj r).holds w):Calls Tryz.prog 75 #[p_ r.bt,.agg #[w_ h.ha,w_ h.hb,w_ h.hc,w_ h.hd]] w λe w'=>e= .returned (.tuple #[i_<|fB r.rl h,i_<|nK<|fB r.rl h])∧Fr [] w w':=
 S8 r.bt r.ar r.rl r.cr r.mb r.am r.cm h ho.len ho.rng hh ho.good w (hr _<|by simp[yJ]) (hr _<|by simp[yJ]) (tq<|hr (sl r.ar r.rl.length r.cr 86 9<|V.aP f9 r.rl)<|by simp[yJ]) (tq<|hr (sl r.am (bC r.rl r.rl.length).length r.cm 3 1 (V.aP iW<|bC r.rl r.rl.length))<|by simp[yJ])
theorem Ld(al:k0)(l:List Rl)(cl:Nat)(ho:mD l)(w:World)(ha:dR w al (V.aP f9 l))(hs:HS w (aN []) [] w):Calls Tryz.prog 43 #[.slice al l.length cl] w λe w'=> ∃zz:Ru,e= .returned (.tuple #[p_ zz.bt,i_ 0])∧zz.rl=l∧Turn [] [gj zz] w w':=by
 refine(VU al l cl ho.len ho.good ho.rng w ha hs).mono ?_
 rintro e w' ⟨⟨bt,ar,cr,mb,am,cm⟩,h1,-,h3⟩
 exact⟨⟨bt,ar,cr,mb,am,cm,l⟩,h1,rfl,Turn.coR (Y:=[]) (by rw[List.append_nil];exact h3)⟩
def kM(l:List Rl):Int:=if l.length≤32 then 1 else 2
theorem Vw(l:List Rl):kM l≠0:=by unfold kM;split<;>decide
theorem Vx(al:k0)(l:List Rl)(cl:Nat)(hR: ∀x∈l,kq x)(ho: ¬mD l)(w:World)(ha:dR w al (V.aP f9 l)):Calls Tryz.prog 43 #[.slice al l.length cl] w λe w'=>e= .returned (.tuple #[n_,i_<|kM l])∧Fr [] w w':=by
 by_cases hl:l.length≤32
 ·rw[show kM l=1 from if_pos hl];exact S1 al l cl hl (λh=>ho ⟨hl,h,hR⟩) hR w ha
 ·rw[show kM l=2 from if_neg hl];exact Q9 al l cl (by omega) w ha
structure Rs where
 wq1:Int
 wq2:Int
 wq3:Int
 deriving Inhabited,DecidableEq
def jD(x:Rs):List Value:=[(i_ x.wq1),(i_ x.wq2),(i_ x.wq3)]
theorem Po(x:Rs):(jD x).length=3:=rfl
theorem Pq(x:Rs):(jD x).all Value.oneCell'=true:=rfl
structure Ev where
 vq1:Int
 vq2:Bool
 vq3:Bool
 vq4:Int
 vq5:Int
 vq6:Int
 vq7:Int
 vq8:Int
 vq9:Int
 vq10:Int
 vq11:Int
 vq12:Int
 deriving Inhabited,DecidableEq
def gw(x:Ev):List Value:=[(i_ x.vq1),(b_ x.vq2),(b_ x.vq3),(u_ x.vq4),(u_ x.vq5),(i_ x.vq6),(u_ x.vq7),(i_ x.vq8),(w_ x.vq9),(w_ x.vq10),(w_ x.vq11),(w_ x.vq12)]
theorem lK(x:Ev):(gw x).length=12:=rfl
theorem IL(x:Ev):(gw x).all Value.oneCell'=true:=rfl
abbrev gQ(A:k0)(xs:List Ev)(c:Nat):V.aI:=sl A xs.length c 52 12<|V.aP gw xs
def se(x:Ev)(o:Int):Ev:={x with vq1:=o}
def fc(p:Pk):Hd:=⟨p.qa,p.qb,p.qc,p.qd⟩
set_option maxHeartbeats 4000000 in
set_option maxRecDepth 100000 in
theorem Le(x:Ev)(bo bu:Nat)(oo:Int)(A_:k0)(evs:List Ev)(c_:Nat)(hle:evs.length≤1000000):
  CS 45 #[.agg (gw x).toArray,p_ bo,p_ bu] [aA bo [i_ oo] 3,aA bu [vS A_ evs c_] 30,gQ A_ evs c_] (λ((A',c'):(k0)×Nat)=>(.tuple #[])) (λ_=>True) λ(A',c')=>[aA bo [i_ oo] 3,aA bu [vS A' (evs++[se x oo]) c'] 30,gQ A' (evs++[se x oo]) c']:=by
 intro w hs
 refine aU Tryz.func45 rfl hs (aC<|dM [.al] [] (λb1=>[(3,p_ b1)]) (λ_=>[]) (λb1=>aA b1 (gw x) 52) ?_)
 intro b1
 refine aC<|bL [.ld 0,.st 3] [] [(3,aA b1 [i_ oo,b_ x.vq2,b_ x.vq3,u_ x.vq4,u_ x.vq5,i_ x.vq6,u_ x.vq7,i_ x.vq8,w_ x.vq9,w_ x.vq10,w_ x.vq11,w_ x.vq12] 52)]<|aM<|cV [.ld 1,.ld 3] [(6,vS A_ evs c_),(7,.agg #[i_ oo,b_ x.vq2,b_ x.vq3,u_ x.vq4,u_ x.vq5,i_ x.vq6,u_ x.vq7,i_ x.vq8,w_ x.vq9,w_ x.vq10,w_ x.vq11,w_ x.vq12])]<|aG<|eB 8 (e:=52) [i_ oo,b_ x.vq2,b_ x.vq3,u_ x.vq4,u_ x.vq5,i_ x.vq6,u_ x.vq7,i_ x.vq8,w_ x.vq9,w_ x.vq10,w_ x.vq11,w_ x.vq12] (by kernel_rfl) rfl (λ_=>by kernel_rfl) (λb2=>[aA bo [i_ oo] 3,aA bu [vS A_ evs c_] 30,gQ A_ evs c_,aA b1 [i_ oo,b_ x.vq2,b_ x.vq3,u_ x.vq4,u_ x.vq5,i_ x.vq6,u_ x.vq7,i_ x.vq8,w_ x.vq9,w_ x.vq10,w_ x.vq11,w_ x.vq12] 52,aA b2 [i_ oo,b_ x.vq2,b_ x.vq3,u_ x.vq4,u_ x.vq5,i_ x.vq6,u_ x.vq7,i_ x.vq8,w_ x.vq9,w_ x.vq10,w_ x.vq11,w_ x.vq12] 52]) (λ_=>rfl) ?_
 intro b2
 refine aG<|jZ (enc:=gw) (xs:=evs) ([(⟨oo,x.vq2,x.vq3,x.vq4,x.vq5,x.vq6,x.vq7,x.vq8,x.vq9,x.vq10,x.vq11,x.vq12⟩:Ev)]) 2 9 (e:=52) (z:=(.agg #[i_ 0,b_ false,b_ false,u_ 0,u_ 0,i_ 0,u_ 0,i_ 0,w_ 0,w_ 0,w_ 0,w_ 0])) (sz:=12) (by_:=64) (by kernel_rfl) rfl rfl rfl (by kernel_rfl) (by kernel_rfl) (by rfl) (by decide) lK IL rfl (ef (i:=4) rfl) (by first|omega|(simp;omega)|(simp;done)) (λA3 c3=>[aA bo [i_ oo] 3,aA bu [vS A_ evs c_] 30,gQ A3 (evs++([(⟨oo,x.vq2,x.vq3,x.vq4,x.vq5,x.vq6,x.vq7,x.vq8,x.vq9,x.vq10,x.vq11,x.vq12⟩:Ev)])) c3,aA b1 [i_ oo,b_ x.vq2,b_ x.vq3,u_ x.vq4,u_ x.vq5,i_ x.vq6,u_ x.vq7,i_ x.vq8,w_ x.vq9,w_ x.vq10,w_ x.vq11,w_ x.vq12] 52,aA b2 [i_ oo,b_ x.vq2,b_ x.vq3,u_ x.vq4,u_ x.vq5,i_ x.vq6,u_ x.vq7,i_ x.vq8,w_ x.vq9,w_ x.vq10,w_ x.vq11,w_ x.vq12] 52]) (λ_ _=>rfl) ?_
 intro A3 c3
 refine bL [.st 1] [] [(1,aA bu [vS A3 (evs++([(⟨oo,x.vq2,x.vq3,x.vq4,x.vq5,x.vq6,x.vq7,x.vq8,x.vq9,x.vq10,x.vq11,x.vq12⟩:Ev)])) c3] 30)]<|ca 1 (aA bu [vS A3 (evs++[se x oo]) c3] 30) rfl (gx<|cc (congrArg (λz_:List Ev=>Value.slice A3 z_.length c3) (by first|rfl|omega|(simp;done)|grind:evs++([(⟨oo,x.vq2,x.vq3,x.vq4,x.vq5,x.vq6,x.vq7,x.vq8,x.vq9,x.vq10,x.vq11,x.vq12⟩:Ev)])=(evs++[se x oo]))) rfl) (ca 2 (gQ A3 (evs++[se x oo]) c3) rfl (eJ (by first|rfl|omega|(simp;done)|grind:evs++([(⟨oo,x.vq2,x.vq3,x.vq4,x.vq5,x.vq6,x.vq7,x.vq8,x.vq9,x.vq10,x.vq11,x.vq12⟩:Ev)])=(evs++[se x oo]))) (mi [0,0,0] [] (λ_ w r s=>trivial) (A3,c3) ?_ ?_<|by kernel_rfl))
 ·rfl
 ·trivial
def Nc(oo:Int)(z:Pd)(now t:Int):Ev:=⟨oo,false,z.gq8,now,now+z.gq3*t,z.gq1,z.gq2,z.gq3,z.gq4,z.gq5,z.gq6,z.gq7⟩
def sM(d:Sd)(un t oo now:Int)(evs:List Ev)(d':Sd)(un':Int)(evs':List Ev):Prop:=
 (now<un∧d'=d∧un'=un∧evs'=evs)∨(un≤now∧ ∃z ok,oh d now z ok d'∧((ok=false∧un'=un∧evs'=evs)∨(ok=true∧un'=now+z.gq3*t∧evs'=evs++[Nc oo z now t])))
theorem AA(h:ql c d)(ht:oh d now z ok d')(ho:ok=true):1≤z.gq3∧z.gq3≤16384:=by
 obtain⟨-,-,-,⟨-,h2,-⟩|⟨-,-,-,-,m,q,h3,h4,-⟩⟩:=ht
 ·rw[ho] at h2;cases h2
 ·exact h.pk _ m h3 (nQ z) (by rw[h4.2.1];exact List.mem_cons_self ..)
def jH(clk un:Int)(d:Sd):Int:=po clk un<|lT d.et d.kk
abbrev BA(p0)(p1)(p2)(p3)(p4)(p5):=(aA p0 [u_ p1,u_ p2,u_ p3,i_ p4,u_ p5] 146:V.aI)
abbrev BB(p0)(p1:Ss)(p2)(p3:Ru)(p4:oR)(p5)(p6):=(aA p0 [p_ p1.sb,p_ p2,p_ p3.bt,p_ p4.bs,u_ p5,i_ p6] 114:V.aI)
theorem Vy(sy:Nat)(c:Ss)(d:Sd)(bl:Nat)(k1 k2 k3 t un:Int)(r:Ru)(s:oR)(clk no:Int)(hP:ql c d):
  CS 79 #[p_ sy] [BB sy c bl r s clk no,eZ c d,BA bl k1 k2 k3 t un] (λ(zz:Unit)=>(u_<|jH clk un d)) (λ_=>True) λ_=>[BB sy c bl r s clk no,eZ c d,BA bl k1 k2 k3 t un]:=by
 intro w hs
 refine aU Tryz.func79 rfl hs (aE []<|aD<|aE [(4,b_ false)]<|bM<|az<|bY [14] 16<|eR 2 [.ld 0,.ld 0,.cq<|u_ un,.ld 0,.cq<|u_<|lT d.et d.kk] (rg 0 14) [(8,u_ clk),(13,u_ un),(18,u_<|lT d.et d.kk)] (oc (qo<|λw s=>QQ bl k1 k2 k3 t un w<|s.mem (i:=2) rfl)<|o1<|qo<|λw s=>Xd c d ‹_› w (s.mem (i:=1) rfl))<|bF 14 rfl (b0 (some 19) [] (SC clk un<|lT d.et d.kk) ?_))
 rintro⟨⟩-
 refine cb<|cQ 0 [] [15] [(2,u_<|po clk un<|lT d.et d.kk)]<|eN<|aF<|bR [0,0,0] [u_<|po clk un<|lT d.et d.kk] () ?_ ?_
 ·rfl
 trivial
theorem Lh(sy:Nat)(c:Ss)(d:Sd)(bl:Nat)(k1 k2 k3 t un:Int)(r:Ru)(s:oR)(cv:hV SL)(rv:hV SR)(clk no:Int)(bo bu:Nat)(oo:Int)(A_:k0)(evs:List Ev)(c_:Nat)(now:Int)(n:Nat)(hP:ql c d)(hck:d.ck≤now)(hnw:0≤now∧now≤4611686018427387904)(htt:1≤t∧t≤65536)(hle:evs.length≤999999)(hst:gi n cv):
  CS 78 #[p_ sy,u_ now,.func (.func 45) #[] #[p_ bo,p_ bu]] [BB sy c bl r s clk no,eZ c d,BA bl k1 k2 k3 t un,fP s cv rv,aA bo [i_ oo] 3,aA bu [vS A_ evs c_] 30,gQ A_ evs c_] (λ((d',un',q1',q2',q3',cv',rv',evs',A',c'):Sd×Int×Int×Int×Int×(hV SL)×(hV SR)×(List Ev)×(k0)×Nat)=>(.tuple #[])) (λ(d',un',q1',q2',q3',cv',rv',evs',A',c')=>sM d un t oo now evs d' un' evs'∧gi n cv') λ(d',un',q1',q2',q3',cv',rv',evs',A',c')=>[BB sy c bl r s clk no,eZ c d',BA bl q1' q2' q3' t un',fP s cv' rv',aA bo [i_ oo] 3,aA bu [vS A' evs' c'] 30,gQ A' evs' c']:=by
 intro w hs
 refine aU Tryz.func78 rfl hs (aD<|dF [.ld 0,.cq<|b_<|decide (now≥un)] [(16,b_ (!(decide (now≥un))))] (o1<|qo<|λw s=>Dx bl k1 k2 k3 t un now w<|s.mem (i:=2) rfl)<|aL rfl (λe1=>?_) (λe1=>?_))
 ·refine aF<|cP [0,0,0,0,0,0,0] [] (λ_ w r s=>trivial) (d,un,k1,k2,k3,cv,rv,evs,A_,c_) ?_ ?_<|by kernel_rfl
  ·rfl
  exact⟨.inl ⟨by(simp_all;done),rfl,rfl,rfl⟩,hst⟩
 have p1:=e1;try simp only[cR] at p1
 refine aO<|aC<|an 5 [.ld 0] [(21,p_ c.sb),(22,u_ now)]<|aG<|b0 (some 23) [1] (Vl c d now ‹_› ‹_› (by omega)) ?_
 rintro⟨z1,ok2,d'3⟩ hz2
 refine dM [.al,.st 7] [] (λb4=>[(6,p_ b4),(7,b_ ok2)]) (λb4=>[]) (λb4=>aA b4 (GO z1) 235) ?_
 intro b4
 refine aD<|aE [(27,b_ (!ok2))]<|iD (!ok2) (λe3=>?_)<|λe3=>?_
 ·have p3:=e3
  refine aF<|cP [1,0,0,0,0,0,0] [] (λ_ w r s=>trivial) (d'3,un,k1,k2,k3,cv,rv,evs,A_,c_) ?_ ?_<|by kernel_rfl
  ·rfl
  exact⟨.inr ⟨by(simp_all;done),_,_,by assumption,.inl ⟨by(simp_all;done),rfl,rfl⟩⟩,hst⟩
 have p3:=e3
 refine az<|bY [7] 13<|cQ 6 [.ld 1,.ld 7] (rg 0 7) [(32,p_ bl),(33,u_ now),(35,.agg #[u_ z1.gq2,i_ z1.gq3,w_ z1.gq4,w_ z1.gq5,w_ z1.gq6,w_ z1.gq7])]<|bF 7 rfl (b0 (some 36) [2] (SB bl k1 k2 k3 t un now (nQ z1) ‹_› (by exact AA hP ‹_› (by(simp_all;done))) ‹_› ‹_›) ?_)
 rintro⟨z15,z26,z37⟩-
 refine cb<|cQ 0 [] (rg 8 5) [(8,u_<|now+(nQ z1).qn*t)]<|eN<|aD<|bY [12] 13<|cQ 1 [.ld 2,.ld 7,.ld 7,.ld 7] (rg 0 12) [(42,p_ s.bs),(44,i_ z1.gq1),(45,u_<|now+(nQ z1).qn*t),(48,i_ z1.gq3),(50,b_ z1.gq8)]<|bF 12 rfl (b0 (some 51) [3] (Vu s cv rv n z1.gq1 (now+(nQ z1).qn*t) z1.gq3 z1.gq8 ‹_›) ?_)
 rintro⟨zi8,cv'9,rv'10⟩ hz5
 refine dV<|aM<|an 10 [.ld 7,.ld 7,.ld 7] [(52,.func (.func 45) #[] #[p_ bo,p_ bu]),(61,.agg #[i_ 0,b_ false,b_ z1.gq8,u_ now,u_<|now+(nQ z1).qn*t,i_ z1.gq1,u_ z1.gq2,i_ z1.gq3,w_ z1.gq4,w_ z1.gq5,w_ z1.gq6,w_ z1.gq7])]<|aG<|b0 (some 62) [4,4,4] (Le (⟨0,false,z1.gq8,now,now+(nQ z1).qn*t,z1.gq1,z1.gq2,z1.gq3,z1.gq4,z1.gq5,z1.gq6,z1.gq7⟩:Ev) bo bu oo A_ evs c_<|by omega) ?_
 rintro⟨A'11,c'12⟩-
 refine eE<|mi [6,5,4,3,0,0,0] [] (λ_ w r s=>trivial) (d'3,now+(nQ z1).qn*t,z15,z26,z37,cv'9,rv'10,evs++[se (⟨0,false,z1.gq8,now,now+(nQ z1).qn*t,z1.gq1,z1.gq2,z1.gq3,z1.gq4,z1.gq5,z1.gq6,z1.gq7⟩:Ev) oo],A'11,c'12) ?_ ?_<|by kernel_rfl
 ·rfl
 exact⟨.inr ⟨by(simp_all;done),_,_,by assumption,.inr ⟨by(simp_all;done),rfl,rfl⟩⟩,by assumption⟩
structure pd(c:Ss)(I:Sd→Prop)(cnt:Sd→Nat):Prop where
 pre: ∀d,I d→ql c d
 take: ∀d now z ok d',I d→d.ck≤now→oh d now z ok d'→I d'∧cnt d'≤cnt d∧(ok=true→cnt d'+1≤cnt d)
 put: ∀d now ci p er d',I d→d.ck≤now→oH c d now ci p er d'→I d'∧cnt d'≤cnt d+1
 chg: ∀d idle l pl er d',I d→(∀z∈l,iQ z)→uz c d idle l pl er d'→I d'∧cnt d'≤cnt d
 go: ∀d now z ok d',I d→lT d.et d.kk≤now→now≤4611686018427387904→oh d now z ok d'→ok=true
variable{I:Sd→Prop}{cnt:Sd→Nat}{un:Int}{evs evs':List Ev}
theorem xG(hW:pd c I cnt){t oo un':Int}(hI:I d)(h1:d.ck≤now)(h:sM d un t oo now evs d' un' evs'):I d'∧evs'.length+cnt d'≤evs.length+cnt d∧d'.ck≤now:=by
 rcases h with⟨-,rfl,-,rfl⟩|⟨-,z,ok,ht,h⟩
 ·exact⟨hI,Nat.le_refl _,h1⟩
 ·obtain⟨a1,a2,a3⟩:=hW.take d now z ok d' hI h1 ht
  have hc:d'.ck=now:=ht.2.1
  rcases h with⟨-,-,rfl⟩|⟨e,-,rfl⟩
  ·exact⟨a1,by omega,by omega⟩
  ·have:=a3 e;exact⟨a1,by simp;omega,by omega⟩
theorem xU{clk fin:Int}(h:jH clk un d≤fin)(hf:fin≤4611686018427387904):clk≤jH clk un d∧un≤jH clk un d∧lT d.et d.kk≤jH clk un d:=by
 unfold jH po s5 cF at*;grind
theorem Pv(hW:pd c I cnt){clk t oo un' fin:Int}(hI:I d)(h1:d.ck≤clk)(hx:jH clk un d≤fin)(hf:fin≤4611686018427387904)(h:sM d un t oo (jH clk un d) evs d' un' evs'):cnt d'<cnt d:=by
 obtain⟨b1,b2,b3⟩:=xU hx hf
 rcases h with⟨h2,-⟩|⟨-,z,ok,ht,h⟩
 ·omega
 ·have:=(hW.take d _ z ok d' hI (by omega) ht).2.2 (hW.go d _ z ok d' hI b3 (by omega) ht);omega
inductive ow(t oo fin:Int):Int→Sd→Int→List Ev→Sd→Int→List Ev→Prop
 |stop {clk:Int} {d:Sd} {un:Int} {evs:List Ev}:fin<jH clk un d→ow t oo fin clk d un evs d un evs
 |step {clk:Int} {d d1 d2:Sd} {un un1 un2:Int} {evs evs1 evs2:List Ev}:jH clk un d≤fin→sM d un t oo (jH clk un d) evs d1 un1 evs1→ow t oo fin (jH clk un d) d1 un1 evs1 d2 un2 evs2→ow t oo fin clk d un evs d2 un2 evs2
def rs(e p k:Int):Rs:=⟨e,p,k⟩
def wE(oo clk k:Int)(p:Pk):Ev:=⟨oo,true,false,clk,0,k,p.qi,p.qn,p.qa,p.qb,p.qc,p.qd⟩
def AB(c:Ss)(rl:List Rl)(d:Sd)(un t oo clk:Int)(p:Pk)(evs:List Ev)(x:Rs)(d':Sd)(un':Int)(evs':List Ev):Prop:=
 (nK (fB rl<|fc p)≠0∧x=rs (nK<|fB rl<|fc p) 0 0∧d'=d∧un'=un∧evs'=evs)∨
 (nK (fB rl<|fc p)=0∧ ∃er d1,oH c d clk (fB rl<|fc p) p er d1∧((er≠0∧x=rs er 0 (fB rl<|fc p)∧d'=d1∧un'=un∧evs'=evs)∨(er=0∧x=rs 0 0 (fB rl<|fc p)∧sM d1 un t oo clk (evs++[wE oo clk (fB rl<|fc p) p]) d' un' evs')))
def Ix(d:Sd)(un t oo clk tk:Int)(evs:List Ev)(x:Rs)(clk':Int)(d':Sd)(un':Int)(evs':List Ev):Prop:=
 (4611686018427387904-clk<tk∧x=rs 27 0 0∧clk'=clk∧d'=d∧un'=un∧evs'=evs)∨(tk≤4611686018427387904-clk∧x=rs 0 0 0∧clk'=clk+tk∧ow t oo (clk+tk) clk d un evs d' un' evs')
theorem tV{n m:Nat}{cv:hV SL}(h:gi n cv)(hn:n≤m):gi m cv:=λk=>Nat.le_trans (h k) hn
theorem Lj(h:oH c d now ci p er d'):d'.ck≤now:=by have:=h.2.1;omega
theorem TP(hW:pd c I cnt){e:Ev}(hI:I d)(h1:d.ck≤now)(hle:evs.length+cnt d≤900000)(h:oH c d now ci p er d'):(evs++[e]).length≤999999:=by simp;omega
abbrev BC(p0:Ru)(p1):=(i_ (nK<|fB p0.rl<|fc p1):Value)
theorem RB(sy:Nat)(c:Ss)(d:Sd)(bl:Nat)(k1 k2 k3 t un:Int)(r:Ru)(s:oR)(cv:hV SL)(rv:hV SR)(clk no:Int)(bo bu:Nat)(oo:Int)(A_:k0)(evs:List Ev)(c_:Nat)(p:Pk)(n:Nat)(I:Sd→Prop)(cnt:Sd→Nat)(hW:pd c I cnt)(hI:I d)(hck:d.ck≤clk)(hnw:0≤clk∧clk≤4611686018427387904)(htt:1≤t∧t≤65536)(hle:evs.length+cnt d≤900000)(hst:gi n cv)(hn:n≤90000)(hr:mD r.rl)(hp:ko (fc p)):
  CS 48 #[p_ sy,.agg (gm p).toArray,.func (.func 45) #[] #[p_ bo,p_ bu]] [aA sy [p_ c.sb,p_ bl,p_ r.bt,p_ s.bs,u_ clk,i_ no] 114,eZ c d,aA bl [u_ k1,u_ k2,u_ k3,i_ t,u_ un] 146,fP s cv rv,aA bo [i_ oo] 3,aA bu [vS A_ evs c_] 30,gQ A_ evs c_,gj r] (λ((x,d',un',q1',q2',q3',cv',rv',evs',A',c'):Rs×Sd×Int×Int×Int×Int×(hV SL)×(hV SR)×(List Ev)×(k0)×Nat)=>(.agg (jD x).toArray)) (λ(x,d',un',q1',q2',q3',cv',rv',evs',A',c')=>AB c r.rl d un t oo clk p evs x d' un' evs'∧gi (n+1) cv') λ(x,d',un',q1',q2',q3',cv',rv',evs',A',c')=>[aA sy [p_ c.sb,p_ bl,p_ r.bt,p_ s.bs,u_ clk,i_ no] 114,eZ c d',aA bl [u_ q1',u_ q2',u_ q3',i_ t,u_ un'] 146,fP s cv' rv',aA bo [i_ oo] 3,aA bu [vS A' evs' c'] 30,gQ A' evs' c',gj r]:=by
 intro w hs
 refine aU Tryz.func48 rfl hs (aC<|iK [.al,.al] [] (λb1 b2=>[(4,p_ b1),(6,p_ b2)]) (λb1 b2=>[aA b1 (gm p) 45,aA b2 [i_ 0,i_ 0,i_ 0] 49]) ?_)
 intro b1 b2
 refine aD<|jw [.ld 0,.ld 8,.cq<|.tuple #[i_<|fB r.rl<|fc p,BC r p]] (rg 0 12) [] [(7,i_<|fB r.rl<|fc p),(8,BC r p)] (o1<|qo<|λw s=>Vv r (fc p) ‹_› ‹_› w (s.mem (i:=7) rfl))<|aD<|aE [(20,b_<|(nK<|fB r.rl<|fc p)!=0)]<|aL rfl (λe1=>?_) (λe1=>?_)
 ·have p1:=e1;try simp only[cR] at p1
  refine aC<|bL [.st 9] [] [(9,aA b2 [BC r p,i_ 0,i_ 0] 49)]<|aF<|cP [0,0,0,0,0,0,0,0] [.agg #[BC r p,i_ 0,i_ 0]] (λ_ w r s=>⟨dS 9 r s,trivial⟩) ((⟨nK<|fB r.rl<|fc p,0,0⟩:Rs),d,un,k1,k2,k3,cv,rv,evs,A_,c_) ?_ ?_<|by kernel_rfl
  ·rfl
  exact⟨.inl ⟨‹_›,rfl,rfl,rfl,rfl⟩,tV hst<|by omega⟩
 have p1:=e1;try simp only[cR] at p1
 refine az<|aD<|bY [10] 12<|cQ 2 [.ld 0,.ld 0,.ld 8] (rg 0 10) [(26,p_ c.sb),(30,u_ clk),(31,i_<|fB r.rl<|fc p),(32,.agg (gm p).toArray)]<|bF 10 rfl (b0 (some 33) [1] (Xc c d clk (fB r.rl<|fc p) p (hW.pre _ hI) ‹_› (by omega)) ?_)
 rintro⟨er3,d'4⟩ hz2
 refine cb<|cQ 0 [] [11] [(8,i_ er3)]<|eN<|aE [(35,b_<|er3 !=0)]<|aL rfl (λe3=>?_) (λe3=>?_)
 ·have p3:=e3;try simp only[cR] at p3
  refine aC<|bL [.st 9] [] [(9,aA b2 [i_ er3,i_ 0,i_<|fB r.rl<|fc p] 49)]<|aF<|cP [1,0,0,0,0,0,0,0] [.agg #[i_ er3,i_ 0,i_<|fB r.rl<|fc p]] (λ_ w r s=>⟨dS 9 r s,trivial⟩) ((⟨er3,0,fB r.rl<|fc p⟩:Rs),d'4,un,k1,k2,k3,cv,rv,evs,A_,c_) ?_ ?_<|by kernel_rfl
  ·rfl
  exact⟨.inr ⟨‹_›,_,_,by assumption,.inl ⟨‹_›,rfl,rfl,rfl,rfl⟩⟩,tV hst<|by omega⟩
 have p3:=e3;try simp only[cR] at p3
 refine az<|bY [9] 10<|cQ 1 [.ld 1,.ld 1] (rg 0 9) [(42,p_ s.bs),(43,i_<|fB r.rl<|fc p),(47,u_ clk)]<|bF 9 rfl (b0 (some 48) [3] (Vs s cv rv n (fB r.rl<|fc p) clk ‹_› (by omega)) ?_)
 rintro cv'5 hz4
 refine dV<|aD<|bY [8] 9<|cQ 1 [.ld 2,.ld 8] (rg 0 8) [(49,.func (.func 45) #[] #[p_ bo,p_ bu]),(56,.agg #[i_ 0,b_ true,b_ false,u_ clk,u_ 0,i_<|fB r.rl<|fc p,u_ p.qi,i_ p.qn,w_ p.qa,w_ p.qb,w_ p.qc,w_ p.qd])]<|bF 8 rfl (b0 (some 57) [4,4,4] (Le (⟨0,true,false,clk,0,fB r.rl<|fc p,p.qi,p.qn,p.qa,p.qb,p.qc,p.qd⟩:Ev) bo bu oo A_ evs c_<|by omega) ?_)
 rintro⟨A'6,c'7⟩-
 refine dV<|aC<|an 6 [.ld 5] [(58,p_ sy),(62,u_ clk),(63,.func (.func 45) #[] #[p_ bo,p_ bu])]<|aG<|b0 (some 64) [5,4,4,3,0,0,0] (Lh sy c d'4 bl k1 k2 k3 t un r s cv'5 rv clk no bo bu oo A'6 (evs++[se (⟨0,true,false,clk,0,fB r.rl<|fc p,p.qi,p.qn,p.qa,p.qb,p.qc,p.qd⟩:Ev) oo]) c'7 clk (n+1) (hW.pre _ (hW.put _ _ _ _ _ _ hI hck ‹_›).1) (Lj ‹_›) ‹_› ‹_› (TP hW hI hck hle ‹_›) ‹_›) ?_
 rintro⟨d'9,un'10,q1'11,q2'12,q3'13,cv'14,rv'15,evs'16,A'17,c'18⟩ hz6
 refine eE<|aC<|bL [.st 9] [] [(9,aA b2 [i_ 0,i_ 0,i_<|fB r.rl<|fc p] 49)]<|aF<|cP [0,0,0,0,0,0,0,0] [.agg #[i_ 0,i_ 0,i_<|fB r.rl<|fc p]] (λ_ w r s=>⟨dS 9 r s,trivial⟩) ((⟨0,0,fB r.rl<|fc p⟩:Rs),d'9,un'10,q1'11,q2'12,q3'13,cv'14,rv'15,evs'16,A'17,c'18) ?_ ?_<|by kernel_rfl
 ·rfl
 exact⟨.inr ⟨‹_›,_,_,by assumption,.inr ⟨‹_›,rfl,(by assumption:_∧gi _ _).1⟩⟩,(by assumption:_∧gi _ _).2⟩
theorem Xk(sy:Nat)(c:Ss)(d:Sd)(bl:Nat)(k1 k2 k3 t un:Int)(r:Ru)(s:oR)(cv:hV SL)(rv:hV SR)(clk no:Int)(bo bu:Nat)(oo:Int)(A_:k0)(evs:List Ev)(c_:Nat)(tk:Int)(n:Nat)(I:Sd→Prop)(cnt:Sd→Nat)(hW:pd c I cnt)(hI:I d)(hck:d.ck≤clk)(hnw:0≤clk∧clk≤4611686018427387904)(htt:1≤t∧t≤65536)(hle:evs.length+cnt d≤900000)(hst:gi n cv)(hn:n≤90000)(htk:0≤tk):
  CS 49 #[p_ sy,u_ tk,.func (.func 45) #[] #[p_ bo,p_ bu]] [aA sy [p_ c.sb,p_ bl,p_ r.bt,p_ s.bs,u_ clk,i_ no] 114,eZ c d,aA bl [u_ k1,u_ k2,u_ k3,i_ t,u_ un] 146,fP s cv rv,aA bo [i_ oo] 3,aA bu [vS A_ evs c_] 30,gQ A_ evs c_] (λ((x,clk',d',un',q1',q2',q3',cv',rv',evs',A',c'):Rs×Int×Sd×Int×Int×Int×Int×(hV SL)×(hV SR)×(List Ev)×(k0)×Nat)=>(.agg (jD x).toArray)) (λ(x,clk',d',un',q1',q2',q3',cv',rv',evs',A',c')=>Ix d un t oo clk tk evs x clk' d' un' evs'∧gi n cv') λ(x,clk',d',un',q1',q2',q3',cv',rv',evs',A',c')=>[aA sy [p_ c.sb,p_ bl,p_ r.bt,p_ s.bs,u_ clk',i_ no] 114,eZ c d',aA bl [u_ q1',u_ q2',u_ q3',i_ t,u_ un'] 146,fP s cv' rv',aA bo [i_ oo] 3,aA bu [vS A' evs' c'] 30,gQ A' evs' c']:=by
 intro w hs
 refine aU Tryz.func49 rfl hs (aC<|dL [.al] [] (λb1=>[(6,p_ b1)]) (λb1=>aA b1 [i_ 0,i_ 0,i_ 0] 49) ?_)
 intro b1
 refine aD<|dF [.ld 0,.w<|4611686018427387904-clk] [(15,b_<|decide (tk>(4611686018427387904-clk)))] (o1<|wv (4611686018427387904-clk)<|by omega)<|aL rfl (λe1=>?_) (λe1=>?_)
 ·have p1:=Zg e1
  refine aC<|bL [.st 7] [] [(7,aA b1 [i_ 27,i_ 0,i_ 0] 49)]<|aF<|cP [0,0,0,0,0,0,0] [.agg #[i_ 27,i_ 0,i_ 0]] (λ_ w r s=>⟨dS 7 r s,trivial⟩) ((⟨27,0,0⟩:Rs),clk,d,un,k1,k2,k3,cv,rv,evs,A_,c_) ?_ ?_<|by kernel_rfl
  ·rfl
  exact⟨.inl ⟨by omega,rfl,rfl,rfl,rfl,rfl⟩,hst⟩
 have p1:=Zh e1
 refine aO<|dF [.ld 0,.w<|clk+tk] [(7,u_<|clk+tk)] (o1<|wv (clk+tk)<|by omega)<|aR<|iC (σ:=Int×Sd×Int×Int×Int×Int×(hV SL)×(hV SR)×(List Ev)×(k0)×Nat) [] (λ(clkk,dk,unk,j1,j2,j3,cvk,rvk,evsk,Ak,cck)=>[]) [0,0,0,0,0,0,0] (λ(clkk,dk,unk,j1,j2,j3,cvk,rvk,evsk,Ak,cck)=>[aA sy [p_ c.sb,p_ bl,p_ r.bt,p_ s.bs,u_ clkk,i_ no] 114,eZ c dk,aA bl [u_ j1,u_ j2,u_ j3,i_ t,u_ unk] 146,fP s cvk rvk,aA bo [i_ oo] 3,aA bu [vS Ak evsk cck] 30,gQ Ak evsk cck]) (λ(clkk,dk,unk,j1,j2,j3,cvk,rvk,evsk,Ak,cck)=>(I dk)∧(dk.ck≤clkk)∧(clk≤clkk∧clkk≤clk+tk)∧(evsk.length+cnt dk≤900000)∧(gi n cvk)∧(∀d2 un2 evs2,ow t oo (clk+tk) clkk dk unk evsk d2 un2 evs2→ow t oo (clk+tk) clk d un evs d2 un2 evs2)) (λ(clkk,dk,unk,j1,j2,j3,cvk,rvk,evsk,Ak,cck)=>cnt dk) (clk,d,un,k1,k2,k3,cv,rv,evs,A_,c_) ⟨hI,hck,(by(constructor<;>omega)),hle,hst,(λ_ _ _ h=>h)⟩ ?_ ?_
 ·exact cX [0,0,0,0,0,0,0,0]
 rintro⟨clkk,dk,unk,j1,j2,j3,cvk,rvk,evsk,Ak,cck⟩ ⟨hIk,hckk,hbk,hlk,hsk,hA⟩
 refine aR<|aC<|cV [.p] [(23,p_ sy)]<|aG<|b0 (some 24) [0,0,0] (Vy sy c dk bl j1 j2 j3 t unk r s clkk no<|hW.pre _ hIk) ?_
 rintro⟨⟩-
 refine aQ [(8,u_<|jH clkk unk dk)]<|aD<|aE [(27,b_<|decide ((jH clkk unk dk)>(clk+tk)))]<|aL rfl (λe3=>?_) (λe3=>?_)
 ·have p3:=Zg e3
  refine aC<|bL [.st 0] [] [(0,aA sy [p_ c.sb,p_ bl,p_ r.bt,p_ s.bs,u_<|clk+tk,i_ no] 114)]<|aC<|bL [.st 7] [] []<|aF<|cP [0,0,0,0,0,0,0] [.agg #[i_ 0,i_ 0,i_ 0]] (λ_ w r s=>⟨dS 7 r s,trivial⟩) ((⟨0,0,0⟩:Rs),clk+tk,dk,unk,j1,j2,j3,cvk,rvk,evsk,Ak,cck) ?_ ?_<|by kernel_rfl
  ·rfl
  exact⟨.inr ⟨by omega,rfl,rfl,hA _ _ _<|.stop<|by omega⟩,hsk⟩
 have p3:=Zh e3
 refine az ?_
 have hnl:=xU (clk:=clkk) (un:=unk) (d:=dk) (fin:=clk+tk) (by omega)<|by omega
 refine aM<|bL [.st 0] [] [(0,aA sy [p_ c.sb,p_ bl,p_ r.bt,p_ s.bs,u_<|jH clkk unk dk,i_ no] 114)]<|aM<|an 3 [] [(37,p_ sy),(38,u_<|jH clkk unk dk),(39,.func (.func 45) #[] #[p_ bo,p_ bu])]<|aG<|b0 (some 40) [0,0,0,0,0,0,0] (Lh sy c dk bl j1 j2 j3 t unk r s cvk rvk (jH clkk unk dk) no bo bu oo Ak evsk cck (jH clkk unk dk) n (hW.pre _ hIk) (by omega) (by omega) ‹_› (by omega) ‹_›) ?_
 rintro⟨d'2,un'3,q1'4,q2'5,q3'6,cv'7,rv'8,evs'9,A'10,c'11⟩ hz4
 refine eE<|bN ((jH clkk unk dk),d'2,un'3,q1'4,q2'5,q3'6,cv'7,rv'8,evs'9,A'10,c'11) ⟨((xG hW hIk (now:=jH clkk unk dk) (by omega) (by assumption:_∧gi _ _).1).1),((xG hW hIk (now:=jH clkk unk dk) (by omega) (by assumption:_∧gi _ _).1).2.2),(by(constructor<;>omega)),(by(have h_:=(xG hW hIk (now:=jH clkk unk dk) (by omega) (by assumption:_∧gi _ _).1).2.1;omega)),((by assumption:_∧gi _ _).2),(λ_ _ _ h=>hA _ _ _<|.step (by omega) (by assumption:_∧gi _ _).1 h)⟩ (by(show cnt _<cnt dk;exact Pv hW (un:=unk) hIk hckk (fin:=clk+tk) (by omega) (by omega) (by assumption:_∧gi _ _).1)) ?_
 exact cX [0,0,0,0,0,0,0,0]
def yK(c:Ss)(t kd:Int)(l:List Zc)(lr:List Rl)(p:Pk)(tk:Int)(no:Int)(d:Sd)(un clk:Int)(rl:List Rl)(x:Rs)(evs':List Ev)(d':Sd)(un' clk':Int)(rl':List Rl):Prop:=
 (kd=1∧(∃er pl,uz c d (decide (clk≥un)) l pl er d'∧x=rs er pl 0)∧un'=un∧clk'=clk∧rl'=rl∧evs'=[])∨
 (kd=2∧d'=d∧un'=un∧clk'=clk∧evs'=[]∧((mD lr∧rl'=lr∧x=rs 0 0 0)∨(¬mD lr∧rl'=rl∧x=rs (kM lr) 0 0)))∨
 (kd=3∧clk'=clk∧rl'=rl∧AB c rl d un t no clk p [] x d' un' evs')∨
 (kd=4∧rl'=rl∧Ix d un t no clk tk [] x clk' d' un' evs')∨
 ((kd≠1∧kd≠2∧kd≠3∧kd≠4)∧x=rs 1 0 0∧d'=d∧un'=un∧clk'=clk∧rl'=rl∧evs'=[])
theorem YY(sy:Nat)(c:Ss)(d:Sd)(bl:Nat)(k1 k2 k3 t un:Int)(r:Ru)(s:oR)(cv:hV SL)(rv:hV SR)(clk no:Int)(W:World)(kd:Int)(za:k0)(zl:List Zc)(zc:Nat)(ra:k0)(rl:List Rl)(rc:Nat)(p:Pk)(tk:Int)(n:Nat)(I:Sd→Prop)(cnt:Sd→Nat)(hza:dR W za (V.aP gv zl))(hra:dR W ra (V.aP f9 rl))(hz: ∀z∈zl,iQ z)(hNR:kd=1→fw d.kc zl=0→fg (bQ d.kc zl)=[])(hrl: ∀x∈rl,kq x)(hp:ko (fc p))(htk:0≤tk)(hno:0≤no∧no≤90000)(hr:mD r.rl)(hW:pd c I cnt)(hI:I d)(hck:d.ck≤clk)(hnw:0≤clk∧clk≤4611686018427387904)(htt:1≤t∧t≤65536)(hst:gi n cv)(hn:n≤90000)(hcd:cnt d≤900000):
  CS 32 #[p_ sy,.agg #[i_ kd,vS za zl zc,vS ra rl rc,u_ p.qi,i_ p.qn,w_ p.qa,w_ p.qb,w_ p.qc,w_ p.qd,u_ tk]] [aA sy [p_ c.sb,p_ bl,p_ r.bt,p_ s.bs,u_ clk,i_ no] 114,eZ c d,aA bl [u_ k1,u_ k2,u_ k3,i_ t,u_ un] 146,fP s cv rv,gj r,eT W] (λ((x,clk',d',un',q1',q2',q3',cv',rv',r',evs',A',c'):Rs×Int×Sd×Int×Int×Int×Int×(hV SL)×(hV SR)×Ru×(List Ev)×(k0)×Nat)=>(.tuple #[.agg (jD x).toArray,vS A' evs' c'])) (λ(x,clk',d',un',q1',q2',q3',cv',rv',r',evs',A',c')=>yK c t kd zl rl p tk no d un clk r.rl x evs' d' un' clk' r'.rl∧gi (n+1) cv'∧mD r'.rl) λ(x,clk',d',un',q1',q2',q3',cv',rv',r',evs',A',c')=>[aA sy [p_ c.sb,p_ bl,p_ r'.bt,p_ s.bs,u_ clk',i_<|no+1] 114,eZ c d',aA bl [u_ q1',u_ q2',u_ q3',i_ t,u_ un'] 146,fP s cv' rv',gj r',eT W,gQ A' evs' c']:=by
 intro w hs
 refine aU Tryz.func32 rfl hs (aC<|iK [.al,.al] [] (λb1 b2=>[(3,p_ b1),(4,p_ b2)]) (λb1 b2=>[aA b1 [i_ kd,vS za zl zc,vS ra rl rc,u_ p.qi,i_ p.qn,w_ p.qa,w_ p.qb,w_ p.qc,w_ p.qd,u_ tk] 47,aA b2 [i_ 0,i_ 0,i_ 0] 49]) ?_)
 intro b1 b2
 refine aD<|aE [(15,b_ false)]<|bM<|aO<|aC<|dL [.al] [] (λb3=>[(6,p_ b3)]) (λb3=>aA b3 [e_] 30) ?_
 intro b3
 refine aC<|dM [.ld 0,.al,.st 9] [] (λb4=>[(7,p_ b4)]) (λb4=>[]) (λb4=>aA b4 [i_ no] 3) ?_
 intro b4
 refine aE [(8,.func (.func 45) #[] #[p_ b4,p_ b3])]<|aC<|gJ [.ld 0,.w<|no+1,.st 0] [] [] [(0,aA sy [p_ c.sb,p_ bl,p_ r.bt,p_ s.bs,u_ clk,i_<|no+1] 114)] (o1<|wj (no+1)<|by omega)<|aC<|dM [.al,.st 10] [] (λb5=>[(9,p_ b5)]) (λb5=>[]) (λb5=>aA b5 [i_ 1,i_ 0,i_ 0] 49) ?_
 intro b5
 refine bS<|bB [.ld 6] [(31,i_ kd)]<|aR<|aE [(32,b_<|kd==1)]<|iD (kd==1) (λe1=>?_)<|λe1=>?_
 ·have p1:=e1;try simp only[cR] at p1
  refine aD<|bY [15] 21<|eR 6 [.ld 0,.ld 0,.ld 0,.cq<|b_<|decide (clk≥un),.ld 6] (rg 0 15) [(38,p_ c.sb),(47,b_<|decide (clk≥un)),(49,vS za zl zc)] (o1<|qo<|λw s=>Dx bl k1 k2 k3 t un clk w<|s.mem (i:=2) rfl)<|bF 15 rfl (b0 (some 50) [1,4] (Qx c d W (decide (clk≥un)) za zl zc (hW.pre _ hI) ‹_› ‹_› (hNR<|by assumption)) ?_)
  rintro⟨pl6,er7,d'8⟩ hz2
  refine cb<|cQ 0 [] (rg 16 5) [(10,i_ pl6),(11,i_ er7)]<|eN<|aM<|bL [.st 10] [] [(10,aA b5 [i_ er7,i_ pl6,i_ 0] 49)]<|(aD<|jx [2] 4 [eZ c d'8,eT W,aA sy [p_ c.sb,p_ bl,p_ r.bt,p_ s.bs,u_ clk,i_<|no+1] 114,aA bl [u_ k1,u_ k2,u_ k3,i_ t,u_ un] 146,fP s cv rv,gj r,aA b1 [i_ kd,vS za zl zc,vS ra rl rc,u_ p.qi,i_ p.qn,w_ p.qa,w_ p.qb,w_ p.qc,w_ p.qd,u_ tk] 47,aA b3 [e_] 30,aA b4 [i_ no] 3,aA b5 [i_ er7,i_ pl6,i_ 0] 49]<|iL 2 [.ld 9,.ld 7] [0,1] [(4,p_ b2),(86,.agg #[i_ er7,i_ pl6,i_ 0]),(87,e_)] (sd [7])<|gR 2 rfl (oV 7 (vs:=[i_ er7,i_ pl6,i_ 0]) [eZ c d'8,eT W,aA sy [p_ c.sb,p_ bl,p_ r.bt,p_ s.bs,u_ clk,i_<|no+1] 114,aA bl [u_ k1,u_ k2,u_ k3,i_ t,u_ un] 146,fP s cv rv,gj r,aA b1 [i_ kd,vS za zl zc,vS ra rl rc,u_ p.qi,i_ p.qn,w_ p.qa,w_ p.qb,w_ p.qc,w_ p.qd,u_ tk] 47,aA b2 [i_ er7,i_ pl6,i_ 0] 49,aA b3 [e_] 30,aA b4 [i_ no] 3,aA b5 [i_ er7,i_ pl6,i_ 0] 49] (by kernel_rfl) rfl rfl rfl rfl (by kernel_rfl) rfl rfl (by kernel_rfl) rfl (gI (sd [7])<|iL 0 [] [3] [(4,p_ b2),(5,e_)] (sd [7])<|je<|aF<|gW 52 12 [eZ c d'8,eT W,aA sy [p_ c.sb,p_ bl,p_ r.bt,p_ s.bs,u_ clk,i_<|no+1] 114,aA bl [u_ k1,u_ k2,u_ k3,i_ t,u_ un] 146,fP s cv rv,gj r,aA b1 [i_ kd,vS za zl zc,vS ra rl rc,u_ p.qi,i_ p.qn,w_ p.qa,w_ p.qb,w_ p.qc,w_ p.qd,u_ tk] 47,aA b2 [i_ er7,i_ pl6,i_ 0] 49,aA b3 [e_] 30,aA b4 [i_ no] 3,aA b5 [i_ er7,i_ pl6,i_ 0] 49,gQ none ([]:List Ev) 0] rfl (cP [2,0,1,1,1,0,5] [.agg #[i_ er7,i_ pl6,i_ 0],e_] (λ_ w r s=>⟨dS 7 r s,cw r rfl,trivial⟩) ((⟨er7,pl6,0⟩:Rs),clk,d'8,un,k1,k2,k3,cv,rv,r,([]:List Ev),none,0) ?_ ?_<|by kernel_rfl))))
  ·rfl
  exact⟨.inl ⟨by omega,⟨_,_,by assumption,rfl⟩,rfl,rfl,rfl,rfl⟩,tV hst<|by omega,hr⟩
 have p1:=e1;try simp only[cR] at p1
 refine aE [(56,b_<|kd==2)]<|iD (kd==2) (λe3=>?_)<|λe3=>?_
 ·have p3:=e3;try simp only[cR] at p3
  refine aD ?_
  by_cases hru:mD rl
  ·refine aM<|an 2 [.ld 6] [(60,vS ra rl rc)]<|aG<|dH (some 61) [] (λw s h=>Ld ra rl rc ‹_› w ((uy (i:=5) rfl hra) w s) h) ?_
   rintro r10 hz4
   refine aQ [(12,p_ r10.bt),(13,i_ 0)]<|aD<|aE [(65,b_ true)]<|dU<|aM<|bL [.st 1] [] [(1,aA sy [p_ c.sb,p_ bl,p_ r10.bt,p_ s.bs,u_ clk,i_<|no+1] 114)]<|aM<|bL [.st 11] [] [(11,aA b5 [i_ 0,i_ 0,i_ 0] 49)]<|(aD<|jx [2] 4 [gj r10,aA sy [p_ c.sb,p_ bl,p_ r10.bt,p_ s.bs,u_ clk,i_<|no+1] 114,eZ c d,aA bl [u_ k1,u_ k2,u_ k3,i_ t,u_ un] 146,fP s cv rv,gj r,eT W,aA b1 [i_ kd,vS za zl zc,vS ra rl rc,u_ p.qi,i_ p.qn,w_ p.qa,w_ p.qb,w_ p.qc,w_ p.qd,u_ tk] 47,aA b2 [i_ 0,i_ 0,i_ 0] 49,aA b3 [e_] 30,aA b4 [i_ no] 3,aA b5 [i_ 0,i_ 0,i_ 0] 49]<|iL 2 [.ld 11,.ld 9] [0,1] [(4,p_ b2),(86,.agg #[i_ 0,i_ 0,i_ 0]),(87,e_)] (.refl _)<|gR 2 rfl (oV 8 (vs:=[i_ 0,i_ 0,i_ 0]) [gj r10,aA sy [p_ c.sb,p_ bl,p_ r10.bt,p_ s.bs,u_ clk,i_<|no+1] 114,eZ c d,aA bl [u_ k1,u_ k2,u_ k3,i_ t,u_ un] 146,fP s cv rv,gj r,eT W,aA b1 [i_ kd,vS za zl zc,vS ra rl rc,u_ p.qi,i_ p.qn,w_ p.qa,w_ p.qb,w_ p.qc,w_ p.qd,u_ tk] 47,aA b2 [i_ 0,i_ 0,i_ 0] 49,aA b3 [e_] 30,aA b4 [i_ no] 3,aA b5 [i_ 0,i_ 0,i_ 0] 49] (by kernel_rfl) rfl rfl rfl rfl (by kernel_rfl) rfl rfl (by kernel_rfl) rfl (gI (.refl _)<|iL 0 [] [3] [(4,p_ b2),(5,e_)] (.refl _)<|je<|aF<|gW 52 12 [gj r10,aA sy [p_ c.sb,p_ bl,p_ r10.bt,p_ s.bs,u_ clk,i_<|no+1] 114,eZ c d,aA bl [u_ k1,u_ k2,u_ k3,i_ t,u_ un] 146,fP s cv rv,gj r,eT W,aA b1 [i_ kd,vS za zl zc,vS ra rl rc,u_ p.qi,i_ p.qn,w_ p.qa,w_ p.qb,w_ p.qc,w_ p.qd,u_ tk] 47,aA b2 [i_ 0,i_ 0,i_ 0] 49,aA b3 [e_] 30,aA b4 [i_ no] 3,aA b5 [i_ 0,i_ 0,i_ 0] 49,gQ none ([]:List Ev) 0] rfl (cP [1,1,1,1,0,1,6] [.agg #[i_ 0,i_ 0,i_ 0],e_] (λ_ w r s=>⟨dS 8 r s,cw r rfl,trivial⟩) ((⟨0,0,0⟩:Rs),clk,d,un,k1,k2,k3,cv,rv,r10,([]:List Ev),none,0) ?_ ?_<|by kernel_rfl))))
   ·rfl
   exact⟨.inr<|.inl ⟨by omega,rfl,rfl,rfl,rfl,.inl ⟨by assumption,by assumption,rfl⟩⟩,tV hst<|by omega,by(simp_all;done)⟩
  refine aM<|aj [.ld 6,.cq<|.tuple #[n_,i_<|kM rl]] [(12,n_),(13,i_<|kM rl)] (o1<|qo<|λw s=>Vx ra rl rc ‹_› ‹_› w ((uy (i:=5) rfl hra) w s))<|aD<|aE [(65,b_<|(kM rl)==0)]<|aL rfl (λe5=>?_) (λe5=>?_)
  ·exact absurd e5<|by(intro h_;simp at h_;exact Vw _ h_)
  have p5:=e5;try simp only[cR] at p5
  refine aO<|aM<|bL [.st 10] [] [(10,aA b5 [i_<|kM rl,i_ 0,i_ 0] 49)]<|(aD<|jx [2] 4 [aA sy [p_ c.sb,p_ bl,p_ r.bt,p_ s.bs,u_ clk,i_<|no+1] 114,eZ c d,aA bl [u_ k1,u_ k2,u_ k3,i_ t,u_ un] 146,fP s cv rv,gj r,eT W,aA b1 [i_ kd,vS za zl zc,vS ra rl rc,u_ p.qi,i_ p.qn,w_ p.qa,w_ p.qb,w_ p.qc,w_ p.qd,u_ tk] 47,aA b3 [e_] 30,aA b4 [i_ no] 3,aA b5 [i_<|kM rl,i_ 0,i_ 0] 49]<|iL 2 [.ld 9,.ld 7] [0,1] [(4,p_ b2),(86,.agg #[i_<|kM rl,i_ 0,i_ 0]),(87,e_)] (sd [7])<|gR 2 rfl (oV 7 (vs:=[i_<|kM rl,i_ 0,i_ 0]) [aA sy [p_ c.sb,p_ bl,p_ r.bt,p_ s.bs,u_ clk,i_<|no+1] 114,eZ c d,aA bl [u_ k1,u_ k2,u_ k3,i_ t,u_ un] 146,fP s cv rv,gj r,eT W,aA b1 [i_ kd,vS za zl zc,vS ra rl rc,u_ p.qi,i_ p.qn,w_ p.qa,w_ p.qb,w_ p.qc,w_ p.qd,u_ tk] 47,aA b2 [i_<|kM rl,i_ 0,i_ 0] 49,aA b3 [e_] 30,aA b4 [i_ no] 3,aA b5 [i_<|kM rl,i_ 0,i_ 0] 49] (by kernel_rfl) rfl rfl rfl rfl (by kernel_rfl) rfl rfl (by kernel_rfl) rfl (gI (sd [7])<|iL 0 [] [3] [(4,p_ b2),(5,e_)] (sd [7])<|je<|aF<|gW 52 12 [aA sy [p_ c.sb,p_ bl,p_ r.bt,p_ s.bs,u_ clk,i_<|no+1] 114,eZ c d,aA bl [u_ k1,u_ k2,u_ k3,i_ t,u_ un] 146,fP s cv rv,gj r,eT W,aA b1 [i_ kd,vS za zl zc,vS ra rl rc,u_ p.qi,i_ p.qn,w_ p.qa,w_ p.qb,w_ p.qc,w_ p.qd,u_ tk] 47,aA b2 [i_<|kM rl,i_ 0,i_ 0] 49,aA b3 [e_] 30,aA b4 [i_ no] 3,aA b5 [i_<|kM rl,i_ 0,i_ 0] 49,gQ none ([]:List Ev) 0] rfl (cP [0,0,0,0,0,0,5] [.agg #[i_<|kM rl,i_ 0,i_ 0],e_] (λ_ w r s=>⟨dS 7 r s,cw r rfl,trivial⟩) ((⟨kM rl,0,0⟩:Rs),clk,d,un,k1,k2,k3,cv,rv,r,([]:List Ev),none,0) ?_ ?_<|by kernel_rfl))))
  ·rfl
  exact⟨.inr<|.inl ⟨by omega,rfl,rfl,rfl,rfl,.inr ⟨by assumption,rfl,rfl⟩⟩,tV hst<|by omega,hr⟩
 have p3:=e3;try simp only[cR] at p3
 refine aE [(72,b_<|kd==3)]<|iD (kd==3) (λe6=>?_)<|λe6=>?_
 ·have p6:=e6;try simp only[cR] at p6
  refine aM<|an 4 [.ld 6] [(74,p_ sy),(76,.agg (gm p).toArray),(77,.func (.func 45) #[] #[p_ b4,p_ b3])]<|gW 52 12 [aA sy [p_ c.sb,p_ bl,p_ r.bt,p_ s.bs,u_ clk,i_<|no+1] 114,eZ c d,aA bl [u_ k1,u_ k2,u_ k3,i_ t,u_ un] 146,fP s cv rv,gj r,eT W,aA b1 [i_ kd,vS za zl zc,vS ra rl rc,u_ p.qi,i_ p.qn,w_ p.qa,w_ p.qb,w_ p.qc,w_ p.qd,u_ tk] 47,aA b2 [i_ 0,i_ 0,i_ 0] 49,aA b3 [e_] 30,aA b4 [i_ no] 3,aA b5 [i_ 1,i_ 0,i_ 0] 49,gQ none ([]:List Ev) 0] rfl (aG<|b0 (some 78) [0,0,0,0,5,4,5,0] (RB sy c d bl k1 k2 k3 t un r s cv rv clk (no+1) b4 b3 no none ([]:List Ev) 0 p n I cnt ‹_› ‹_› ‹_› ‹_› ‹_› (by(simp;omega)) ‹_› ‹_› ‹_› ‹_›) ?_)
  rintro⟨x14,d'15,un'16,q1'17,q2'18,q3'19,cv'20,rv'21,evs'22,A'23,c'24⟩ hz7
  refine bL [.st 11] [] [(11,aA b5 (jD x14) 49)]<|(aD<|jx [2] 4 [aA sy [p_ c.sb,p_ bl,p_ r.bt,p_ s.bs,u_ clk,i_<|no+1] 114,eZ c d'15,aA bl [u_ q1'17,u_ q2'18,u_ q3'19,i_ t,u_ un'16] 146,fP s cv'20 rv'21,aA b4 [i_ no] 3,aA b3 [vS A'23 evs'22 c'24] 30,gQ A'23 evs'22 c'24,gj r,eT W,aA b1 [i_ kd,vS za zl zc,vS ra rl rc,u_ p.qi,i_ p.qn,w_ p.qa,w_ p.qb,w_ p.qc,w_ p.qd,u_ tk] 47,aA b5 (jD x14) 49]<|iL 2 [.ld 10,.ld 5] [0,1] [(4,p_ b2),(86,.agg (jD x14).toArray),(87,vS A'23 evs'22 c'24)] (sd [10])<|gR 2 rfl (oV 10 (vs:=(jD x14)) [aA sy [p_ c.sb,p_ bl,p_ r.bt,p_ s.bs,u_ clk,i_<|no+1] 114,eZ c d'15,aA bl [u_ q1'17,u_ q2'18,u_ q3'19,i_ t,u_ un'16] 146,fP s cv'20 rv'21,aA b4 [i_ no] 3,aA b3 [vS A'23 evs'22 c'24] 30,gQ A'23 evs'22 c'24,gj r,eT W,aA b1 [i_ kd,vS za zl zc,vS ra rl rc,u_ p.qi,i_ p.qn,w_ p.qa,w_ p.qb,w_ p.qc,w_ p.qd,u_ tk] 47,aA b2 (jD x14) 49,aA b5 (jD x14) 49] (by kernel_rfl) rfl rfl rfl rfl (by kernel_rfl) rfl rfl (by kernel_rfl) rfl (gI (sd [10])<|iL 0 [] [3] [(4,p_ b2),(5,vS A'23 evs'22 c'24)] (sd [10])<|je<|aF<|cP [0,0,0,0,3,3,2] [.agg (jD x14).toArray,vS A'23 evs'22 c'24] (λ_ w r s=>⟨dS 10 r s,cw r rfl,trivial⟩) (x14,clk,d'15,un'16,q1'17,q2'18,q3'19,cv'20,rv'21,r,evs'22,A'23,c'24) ?_ ?_<|by kernel_rfl)))
  ·rfl
  exact⟨.inr<|.inr<|.inl ⟨by omega,rfl,rfl,(by assumption:_∧gi _ _).1⟩,(by assumption:_∧gi _ _).2,hr⟩
 have p6:=e6;try simp only[cR] at p6
 refine aE [(79,b_<|kd==4)]<|iD (kd==4) (λe8=>?_)<|λe8=>?_
 ·have p8:=e8;try simp only[cR] at p8
  refine aM<|an 4 [.ld 6] [(81,p_ sy),(83,u_ tk),(84,.func (.func 45) #[] #[p_ b4,p_ b3])]<|gW 52 12 [aA sy [p_ c.sb,p_ bl,p_ r.bt,p_ s.bs,u_ clk,i_<|no+1] 114,eZ c d,aA bl [u_ k1,u_ k2,u_ k3,i_ t,u_ un] 146,fP s cv rv,gj r,eT W,aA b1 [i_ kd,vS za zl zc,vS ra rl rc,u_ p.qi,i_ p.qn,w_ p.qa,w_ p.qb,w_ p.qc,w_ p.qd,u_ tk] 47,aA b2 [i_ 0,i_ 0,i_ 0] 49,aA b3 [e_] 30,aA b4 [i_ no] 3,aA b5 [i_ 1,i_ 0,i_ 0] 49,gQ none ([]:List Ev) 0] rfl (aG<|b0 (some 85) [0,0,0,0,5,4,5] (Xk sy c d bl k1 k2 k3 t un r s cv rv clk (no+1) b4 b3 no none ([]:List Ev) 0 tk n I cnt ‹_› ‹_› ‹_› ‹_› ‹_› (by(simp;omega)) ‹_› ‹_› ‹_›) ?_)
  rintro⟨x27,clk'28,d'29,un'30,q1'31,q2'32,q3'33,cv'34,rv'35,evs'36,A'37,c'38⟩ hz9
  refine bL [.st 11] [] [(11,aA b5 (jD x27) 49)]<|(aD<|jx [2] 4 [aA sy [p_ c.sb,p_ bl,p_ r.bt,p_ s.bs,u_ clk'28,i_<|no+1] 114,eZ c d'29,aA bl [u_ q1'31,u_ q2'32,u_ q3'33,i_ t,u_ un'30] 146,fP s cv'34 rv'35,aA b4 [i_ no] 3,aA b3 [vS A'37 evs'36 c'38] 30,gQ A'37 evs'36 c'38,gj r,eT W,aA b1 [i_ kd,vS za zl zc,vS ra rl rc,u_ p.qi,i_ p.qn,w_ p.qa,w_ p.qb,w_ p.qc,w_ p.qd,u_ tk] 47,aA b5 (jD x27) 49]<|iL 2 [.ld 10,.ld 5] [0,1] [(4,p_ b2),(86,.agg (jD x27).toArray),(87,vS A'37 evs'36 c'38)] (sd [10])<|gR 2 rfl (oV 10 (vs:=(jD x27)) [aA sy [p_ c.sb,p_ bl,p_ r.bt,p_ s.bs,u_ clk'28,i_<|no+1] 114,eZ c d'29,aA bl [u_ q1'31,u_ q2'32,u_ q3'33,i_ t,u_ un'30] 146,fP s cv'34 rv'35,aA b4 [i_ no] 3,aA b3 [vS A'37 evs'36 c'38] 30,gQ A'37 evs'36 c'38,gj r,eT W,aA b1 [i_ kd,vS za zl zc,vS ra rl rc,u_ p.qi,i_ p.qn,w_ p.qa,w_ p.qb,w_ p.qc,w_ p.qd,u_ tk] 47,aA b2 (jD x27) 49,aA b5 (jD x27) 49] (by kernel_rfl) rfl rfl rfl rfl (by kernel_rfl) rfl rfl (by kernel_rfl) rfl (gI (sd [10])<|iL 0 [] [3] [(4,p_ b2),(5,vS A'37 evs'36 c'38)] (sd [10])<|je<|aF<|cP [0,0,0,0,3,3,2] [.agg (jD x27).toArray,vS A'37 evs'36 c'38] (λ_ w r s=>⟨dS 10 r s,cw r rfl,trivial⟩) (x27,clk'28,d'29,un'30,q1'31,q2'32,q3'33,cv'34,rv'35,r,evs'36,A'37,c'38) ?_ ?_<|by kernel_rfl)))
  ·rfl
  exact⟨.inr<|.inr<|.inr<|.inl ⟨by omega,rfl,(by assumption:_∧gi _ _).1⟩,tV (by assumption:_∧gi _ _).2 (by omega),hr⟩
 have p8:=e8;try simp only[cR] at p8
 refine aO<|aD<|jx [2] 4 [aA sy [p_ c.sb,p_ bl,p_ r.bt,p_ s.bs,u_ clk,i_<|no+1] 114,eZ c d,aA bl [u_ k1,u_ k2,u_ k3,i_ t,u_ un] 146,fP s cv rv,gj r,eT W,aA b1 [i_ kd,vS za zl zc,vS ra rl rc,u_ p.qi,i_ p.qn,w_ p.qa,w_ p.qb,w_ p.qc,w_ p.qd,u_ tk] 47,aA b3 [e_] 30,aA b4 [i_ no] 3,aA b5 [i_ 1,i_ 0,i_ 0] 49]<|iL 2 [.ld 9,.ld 7] [0,1] [(4,p_ b2),(86,.agg #[i_ 1,i_ 0,i_ 0]),(87,e_)] (sd [7])<|gR 2 rfl (oV 7 (vs:=[i_ 1,i_ 0,i_ 0]) [aA sy [p_ c.sb,p_ bl,p_ r.bt,p_ s.bs,u_ clk,i_<|no+1] 114,eZ c d,aA bl [u_ k1,u_ k2,u_ k3,i_ t,u_ un] 146,fP s cv rv,gj r,eT W,aA b1 [i_ kd,vS za zl zc,vS ra rl rc,u_ p.qi,i_ p.qn,w_ p.qa,w_ p.qb,w_ p.qc,w_ p.qd,u_ tk] 47,aA b2 [i_ 1,i_ 0,i_ 0] 49,aA b3 [e_] 30,aA b4 [i_ no] 3,aA b5 [i_ 1,i_ 0,i_ 0] 49] (by kernel_rfl) rfl rfl rfl rfl (by kernel_rfl) rfl rfl (by kernel_rfl) rfl (gI (sd [7])<|iL 0 [] [3] [(4,p_ b2),(5,e_)] (sd [7])<|je<|aF<|gW 52 12 [aA sy [p_ c.sb,p_ bl,p_ r.bt,p_ s.bs,u_ clk,i_<|no+1] 114,eZ c d,aA bl [u_ k1,u_ k2,u_ k3,i_ t,u_ un] 146,fP s cv rv,gj r,eT W,aA b1 [i_ kd,vS za zl zc,vS ra rl rc,u_ p.qi,i_ p.qn,w_ p.qa,w_ p.qb,w_ p.qc,w_ p.qd,u_ tk] 47,aA b2 [i_ 1,i_ 0,i_ 0] 49,aA b3 [e_] 30,aA b4 [i_ no] 3,aA b5 [i_ 1,i_ 0,i_ 0] 49,gQ none ([]:List Ev) 0] rfl (cP [0,0,0,0,0,0,5] [.agg #[i_ 1,i_ 0,i_ 0],e_] (λ_ w r s=>⟨dS 7 r s,cw r rfl,trivial⟩) ((⟨1,0,0⟩:Rs),clk,d,un,k1,k2,k3,cv,rv,r,([]:List Ev),none,0) ?_ ?_<|by kernel_rfl)))
 ·rfl
 exact⟨.inr<|.inr<|.inr<|.inr ⟨by omega,rfl,rfl,rfl,rfl,rfl,rfl⟩,tV hst<|by omega,hr⟩
end Go.Proofs.YtobgjpigngoggaaGreat
namespace Go.Proofs.YtobgjpigngoggaaGreat.V
open Go
section
variable{P:Program}{n:Nat}{env:aT}{w0:World}{S:E6}{H Hs:List aI}{ops:Zb}{o:Oper}{K:Wy}{f:Nat}{listed:Array Bool}
def ParH(P:Program)(n:Nat)(env:aT)(w0:World)(S:List Nat)(H Hs:List aI)(ops:Array Oper)(K:Act→World→Prop)(f:Nat)(listed:Array Bool):List Nat→Prop
 |[]=>True
 |i::l=>(∃o,ops[i]? =some o∧A n env w0 S H (cz P ops o<|λa w=>HS w0 S Hs w∧U P ops K (HS w0 S Hs) f (listed.setIfInBounds i true) a w))∧ParH P n env w0 S H Hs ops K f listed l
theorem ParH.at: ∀{l:E6}{i:Nat},ParH P n env w0 S H Hs ops K f listed l→i∈l→ ∃o,ops[i]? =some o∧A n env w0 S H (cz P ops o<|λa w=>HS w0 S Hs w∧U P ops K (HS w0 S Hs) f (listed.setIfInBounds i true) a w)
 |j::l,i,h,hi=>by
  rcases List.mem_cons.1 hi with rfl|hi
  ·exact h.1
  ·exact ParH.at h.2 hi
theorem j7(is:E6)(hr:(Region.ready .any ops listed,is.isEmpty)=(is,false))(h:ParH P n env w0 S H Hs ops K f listed is):A n env w0 S H (U P ops K (HS w0 S Hs) (f+1) listed):=by
 intro a w r s
 simp only[Prod.mk.injEq] at hr
 refine⟨λh0=>(by rw[hr.1] at h0;rw[h0] at hr;cases hr.2),λj hj w' hf=>?_⟩
 rw[hr.1] at hj
 obtain⟨o,ho,h1⟩:=h.at hj
 have h1:=h1 a w' r<|s.kept hf
 unfold cz at h1
 unfold wpOp
 simp only[ho]
 split
 ·rename_i hw;rw[if_pos hw] at h1;exact .inl h1
 ·rename_i hw;rw[if_neg hw] at h1;exact h1
theorem j0{σ:Type}(env':σ→aT)(H':σ→List aI)(φ:σ→Prop)(f':Nat)(l':Array Bool)(h1: ∀x,φ x→A n (env' x) w0 S (H' x) (U P ops K (HS w0 S Hs) f' l'))
 (h2:(∀x,φ x→A n (env' x) w0 S (H' x) (U P ops K (HS w0 S Hs) f' l'))→A n env w0 S H (U P ops K (HS w0 S Hs) f listed)):A n env w0 S H (U P ops K (HS w0 S Hs) f listed):=h2 h1
theorem fe{σ:Type}{env':σ→aT}{H':σ→List aI}{φ:σ→Prop}{f':Nat}{l':Array Bool}(hn: ∀x,φ x→A n (env' x) w0 S (H' x) (U P ops K (HS w0 S Hs) f' l'))(x:σ)(hx:φ x)(is:E6)(hl:listed=l')(hs:V.sub env (env' x))(hp:(match fh is H with|some x=>some x.1|none=>none)=some (H' x)):
  A n env w0 S H (U P ops K (HS w0 S Hs) f' listed):=by
 subst hl
 exact ei _ hs<|OG is _ hp<|hn x hx
theorem Nz{t:TypeId}{x y z:Operand}(ho:o.op= .insert t x y z)(h:A n env w0 S H (cz P ops {o with op:= .mapUpdate t x y z} K)):A n env w0 S H (cz P ops o K):=by
 intro a w r s
 have h1:=h a w r s
 have he:execOp a.eval o=execOp a.eval {o with op:= .mapUpdate t x y z}:=by simp[execOp,ho]
 unfold cz Oper.wp at*
 rw[he]
 exact h1
end
section
variable{P:Program}{n:Nat}{env:aT}{w0:World}{S:E6}{H H':List aI}{ops:Zb}{o:Oper}{K:Wy}{β:Type}{f:β→List aI}{ek:Int→Value}{ev:β→Value}
theorem IM: ∀(H:List aI)(x:aI),fh [H.length] (H++[x])=some ([x],H)
 |[],x=>rfl
 |y::H,x=>by
  have:=IM H x
  simp only[fh] at this⊢
  simpa using this
theorem lI(f:β→List aI)(ek:Int→Value)(ev:β→Value)(d:Nat){t:TypeId}(hok:ff ops n env o (some d)=true)(ho:o.op= .makeMap t none)(H':Nat→List aI)(hH: ∀b,co [bH ek ev b [],df f []]::H=H' b)
  (h: ∀b,V.A n ((d,.map<|some b)::env) w0 S (H' b) K):V.A n env w0 S H (cz P ops o K):=
 nU ek ev d hok ho (λb=>H++[bH ek ev b []]) (λ_=>rfl) λb=>Yu [H.length] (IM H _) (hH b)<|h b
end
end Go.Proofs.YtobgjpigngoggaaGreat.V
