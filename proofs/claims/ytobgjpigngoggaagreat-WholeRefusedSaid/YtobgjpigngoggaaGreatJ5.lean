/- The functions of the scheduler, layer by layer, proved operation by operation for all arguments, under the conditions that each theorem states: part 5. -/
import Derived.Test.YtobgjpigngoggaaGreatProg
import Derived.Lib.SliceRun
import Derived.Test.YtobgjpigngoggaaGreatJ4
set_option linter.unusedVariables false
set_option linter.unusedSimpArgs false
set_option maxHeartbeats 4000000
set_option maxRecDepth 100000
namespace Go.Proofs.YtobgjpigngoggaaGreat
open Go V
def vD(ek:List (Int×It))(i:Int)(d:Du):List (Int×It):=dC (dJ ek i) i ⟨d.dq21,i,d.dq22,i⟩
def y7(m:En)(sn:Int)(br:Bool):Du:=if br=true then iH m.du sn (eW m.qb m.q) else headD m.du<|eW m.qb m.q
def ot(i:Int)(m:En)(sn:Int)(br:Bool)(kb:List (Int×En))(et:T)(ek:List (Int×It))(kb':List (Int×En))(et':T)(ek':List (Int×It)):Prop:=
 (jK m.ec=true∧ ∃d,kb'=dC kb i {m with du:=d}∧dq et' ek'∧((qC m.q≠[]∧ek'=vD ek m.ec.hi d)∨(qC m.q=[]∧ek'=dJ (vD ek m.ec.hi d) m.ec.hi))∧d=y7 m sn br)∨(jK m.ec=false∧kb'=kb∧et'=et∧ek'=ek)
theorem tz{β:Type}(k:Int): ∀kv:List (Int×β),(dJ kv k).length≤kv.length
 |[]=>by simp[dJ]
 |p::kv=>by unfold dJ;split<;>simp;exact tz k kv
theorem AL(ek:List (Int×It))(i:Int)(d:It):(dC (dJ ek i) i d).length≤ek.length+1:=Nat.le_trans (zZ _ _ _) (by have:=tz i ek;omega)
variable{q:Qu}
theorem tP:((qC q).length:Int)=0↔qC q=[]:=by simp
abbrev Ht(p0)(p1):=(cw p0 [.map<|some p1] 185:V.dB)
abbrev Hu(p0)(p1)(p2)(p3)(p4)(p5:Ac)(p6:Vt)(p7)(p8)(p9):=(cw p0 [i_ p1,i_ p2,p_ p3,.map<|some p4,p_ p5.bs,p_ p6.be,.map<|some p7,u_ p8,u_ p9] 141:V.dB)
theorem Tn(sb:Nat)(lt lm:Int)(bt mc:Nat)(kc:List (Int×Cl))(my:Nat)(kb:List (Int×En))(a:Ac)(on:List (Int×Int))(ka:List (Int×MB))(tl:Vt)(et:T)(ek:List (Int×It))(mk:Nat)(kk:List (Int×Vt))(ck ac:Int)(i:Int)(m:En)(sn:Int)(br:Bool)(hm:cu kb i=some m)(ho:kQ m)(hE:dq et ek)(hl:ek.length≤600):
  CS 156 #[p_ sb,p_ m.eb,i_ sn,b_ br] [Hu sb lt lm bt my a tl mk ck ac,Ht bt mc,dy mc kc,eT my kb,fE a on ka,fY tl et ek,ep mk kk] (fun((kb',et',ek'):(List<|Int×En)×T×(List<|Int×It))=>(.tuple #[])) (fun(kb',et',ek')=>ot i m sn br kb et ek kb' et' ek') fun(kb',et',ek')=>[Hu sb lt lm bt my a tl mk ck ac,Ht bt mc,dy mc kc,eT my kb',fE a on ka,fY tl et' ek',ep mk kk]:=by
 intro w hs
 have hlk:=fun i d=>AL ek i d
 refine A.C Tryz.func156 rfl hs (A.d<|A.c<|A.k [.p,.p,.p,.rd<|dx m.ec,.cq<|b_<|decide (dK m.ec.ra m.ec.rb m.ec.rc>1),.p] [] [(13,b_ (!(decide (dK m.ec.ra m.ec.rb m.ec.rc>1))))] [] (oc (ro ⟨m.eb,1,none⟩ (vs:=(dx m.ec))<|fi (fun w s=>(fy (s.mem (i:=3) rfl) hm:)) rfl)<|o1<|qo<|fun w s=>qg m.ec w)<|A.v rfl (fun e1=>?_) (fun e1=>?_))
 ·refine A.e<|A.aG [0,0,0,0,0,0,0] [] (fun _ w r s=>trivial) (kb,et,ek) ?_ ?_<|by kernel_rfl
  ·rfl
  exact .inr ⟨(by unfold jK;(simp_all;done)),rfl,rfl,rfl⟩
 refine A.p<|A.d<|A.c<|A.g [.p] [3,13] [(14,b_ br)]<|A.cn br (fun e2=>?_)<|fun e2=>?_
 ·refine A.bA 3 rfl hm rfl (A.O [14] 15<|A.pO 1 [.p,.p,.p,.p,.ld 1,.p,.p,.p,.p,.ld 1,.cq<|i_<|eW m.qb m.q,.cq<|.agg (fg<|iH m.du sn<|eW m.qb m.q).toArray,.p,.p] (rg 0 14) [(0,p_ sb),(1,p_ m.eb),(26,.agg (fg<|iH m.du sn<|eW m.qb m.q).toArray),(28,q_ m.eb 16)] [m.eb,m.eb] (oc (qo<|fun w s=>GU my kb i m (qp m.qb) (by rfl) ‹_› w (s.mem (i:=0) rfl))<|o1<|qo<|fun w s=>Rk m.du sn (eW m.qb m.q) w)<|A.F 14 rfl (A.sT 1 (fg<|iH m.du sn<|eW m.qb m.q) rfl (A.E<|A.M<|A.az (m':=({m with du:=(iH m.du sn<|eW m.qb m.q)}:En)) [0,0] rfl hm ⟨rfl,rfl,rfl⟩ rfl rfl ?_)))
  have hk1:=jM kb i ({m with du:=(iH m.du sn<|eW m.qb m.q)}:En)
  refine A.d<|A.O [19] 20<|A.pO 1 [.p,.p,.p,.ld 1,.p,.p,.p,.p,.rd [i_ m.ec.hi],.p,.p,.p,.p,.rd [u_<|(iH m.du sn<|eW m.qb m.q).dq21],.p,.p,.p,.p,.rd [u_<|(iH m.du sn<|eW m.qb m.q).dq22]] (rg 0 19) [(0,p_ sb),(1,p_ m.eb),(45,p_ tl.be),(50,i_ m.ec.hi),(55,u_<|(iH m.du sn<|eW m.qb m.q).dq21),(60,u_<|(iH m.du sn<|eW m.qb m.q).dq22)] [sb] (oc (ro ⟨m.eb,1,none⟩ (vs:=[i_ m.ec.hi])<|fi (fun w s=>(fy (s.mem (i:=0) rfl) hk1:)) rfl)<|oc (ro ⟨m.eb,36,none⟩ (vs:=[u_<|(iH m.du sn<|eW m.qb m.q).dq21])<|fi (fun w s=>(fy (s.mem (i:=0) rfl) hk1:)) rfl)<|o1<|ro ⟨m.eb,37,none⟩ (vs:=[u_<|(iH m.du sn<|eW m.qb m.q).dq22])<|fi (fun w s=>(fy (s.mem (i:=0) rfl) hk1:)) rfl)<|A.F 19 rfl (A.I (some 61) [5] (fun w s h=>CP tl et ek m.ec.hi ((iH m.du sn<|eW m.qb m.q).dq21) ((iH m.du sn<|eW m.qb m.q).dq22) (by assumption) (by omega) w h) ?_)
  rintro zt2 hz3
  refine A.E<|A.M<|A.c<|A.k [.p,.p,.p,.rd [qp m.qb],.cq<|i_ ((qC ({m with du:=(iH m.du sn<|eW m.qb m.q)}:En).q).length:Int),.p] [45,50,55,60,61] [(67,b_<|((qC ({m with du:=(iH m.du sn<|eW m.qb m.q)}:En).q).length:Int)==0)] [] (oc (ro ⟨m.eb,0,none⟩ (vs:=[qp m.qb])<|fi (fun w s=>(fy (s.mem (i:=1) rfl) hk1:)) rfl)<|o1<|qo<|fun w s=>uq my (dC kb i ({m with du:=(iH m.du sn<|eW m.qb m.q)}:En)) i ({m with du:=(iH m.du sn<|eW m.qb m.q)}:En) (qp m.qb) hk1 (by rfl) ⟨ho.lf,ho.no,ho.qu⟩ w<|s.mem (i:=1) rfl)<|A.v rfl (fun e4=>?_) (fun e4=>?_)
  ·refine A.O [9] 10<|A.kd 1 [.p,.p,.p,.ld 2,.p,.p,.p,.p,.rd [i_ m.ec.hi]] (rg 0 9) [0,1,67] [(71,p_ tl.be),(76,i_ m.ec.hi)] [sb] (o1<|ro ⟨m.eb,1,none⟩ (vs:=[i_ m.ec.hi])<|fi (fun w s=>(fy (s.mem (i:=1) rfl) hk1:)) rfl)<|A.F 9 rfl (A.I (some 77) [0] (fun w s h=>Hk tl zt2 (dC (dJ ek m.ec.hi) m.ec.hi ⟨((iH m.du sn<|eW m.qb m.q).dq21),m.ec.hi,(iH m.du sn<|eW m.qb m.q).dq22,m.ec.hi⟩) m.ec.hi ‹_› (Nat.le_trans (AL _ _ _)<|by omega) w h) ?_)
   rintro⟨zi3,zt4⟩ hz5
   refine A.E<|A.M<|A.aN [2,2,2,1,1,0,0] [] (fun _ w r s=>trivial) ((dC kb i ({m with du:=(iH m.du sn<|eW m.qb m.q)}:En)),zt4,dJ (dC (dJ ek m.ec.hi) m.ec.hi ⟨((iH m.du sn<|eW m.qb m.q).dq21),m.ec.hi,(iH m.du sn<|eW m.qb m.q).dq22,m.ec.hi⟩) m.ec.hi) ?_ ?_<|by kernel_rfl
   ·rfl
   exact .inl ⟨(by unfold jK;(simp_all;done)),_,rfl,by assumption,.inr ⟨(by(simp_all[tP];done)),rfl⟩,(if_pos e2).symm⟩
  refine A.p<|A.aN [2,2,2,1,1,0,0] [] (fun _ w r s=>trivial) ((dC kb i ({m with du:=(iH m.du sn<|eW m.qb m.q)}:En)),zt2,dC (dJ ek m.ec.hi) m.ec.hi ⟨((iH m.du sn<|eW m.qb m.q).dq21),m.ec.hi,(iH m.du sn<|eW m.qb m.q).dq22,m.ec.hi⟩) ?_ ?_<|by kernel_rfl
  ·rfl
  exact .inl ⟨(by unfold jK;(simp_all;done)),_,rfl,by assumption,.inl ⟨(by(simp_all[tP];done)),rfl⟩,(if_pos e2).symm⟩
 refine A.bA 3 rfl hm rfl (A.O [13] 14<|A.pO 1 [.p,.p,.p,.p,.ld 1,.p,.p,.p,.ld 1,.cq<|i_<|eW m.qb m.q,.cq<|.agg (fg<|headD m.du<|eW m.qb m.q).toArray,.p,.p] (rg 0 13) [(0,p_ sb),(1,p_ m.eb),(39,.agg (fg<|headD m.du<|eW m.qb m.q).toArray),(41,q_ m.eb 16)] [m.eb,m.eb] (oc (qo<|fun w s=>GU my kb i m (qp m.qb) (by rfl) ‹_› w (s.mem (i:=0) rfl))<|o1<|qo<|fun w s=>Rm m.du (eW m.qb m.q) w)<|A.F 13 rfl (A.sT 1 (fg<|headD m.du<|eW m.qb m.q) rfl (A.E<|A.M<|A.az (m':=({m with du:=(headD m.du<|eW m.qb m.q)}:En)) [0,0] rfl hm ⟨rfl,rfl,rfl⟩ rfl rfl ?_)))
 have hk5:=jM kb i ({m with du:=(headD m.du<|eW m.qb m.q)}:En)
 refine A.d<|A.O [19] 20<|A.pO 1 [.p,.p,.p,.ld 1,.p,.p,.p,.p,.rd [i_ m.ec.hi],.p,.p,.p,.p,.rd [u_<|(headD m.du<|eW m.qb m.q).dq21],.p,.p,.p,.p,.rd [u_<|(headD m.du<|eW m.qb m.q).dq22]] (rg 0 19) [(0,p_ sb),(1,p_ m.eb),(45,p_ tl.be),(50,i_ m.ec.hi),(55,u_<|(headD m.du<|eW m.qb m.q).dq21),(60,u_<|(headD m.du<|eW m.qb m.q).dq22)] [sb] (oc (ro ⟨m.eb,1,none⟩ (vs:=[i_ m.ec.hi])<|fi (fun w s=>(fy (s.mem (i:=0) rfl) hk5:)) rfl)<|oc (ro ⟨m.eb,36,none⟩ (vs:=[u_<|(headD m.du<|eW m.qb m.q).dq21])<|fi (fun w s=>(fy (s.mem (i:=0) rfl) hk5:)) rfl)<|o1<|ro ⟨m.eb,37,none⟩ (vs:=[u_<|(headD m.du<|eW m.qb m.q).dq22])<|fi (fun w s=>(fy (s.mem (i:=0) rfl) hk5:)) rfl)<|A.F 19 rfl (A.I (some 61) [5] (fun w s h=>CP tl et ek m.ec.hi ((headD m.du<|eW m.qb m.q).dq21) ((headD m.du<|eW m.qb m.q).dq22) (by assumption) (by omega) w h) ?_)
 rintro zt6 hz6
 refine A.E<|A.M<|A.c<|A.k [.p,.p,.p,.rd [qp m.qb],.cq<|i_ ((qC ({m with du:=(headD m.du<|eW m.qb m.q)}:En).q).length:Int),.p] [45,50,55,60,61] [(67,b_<|((qC ({m with du:=(headD m.du<|eW m.qb m.q)}:En).q).length:Int)==0)] [] (oc (ro ⟨m.eb,0,none⟩ (vs:=[qp m.qb])<|fi (fun w s=>(fy (s.mem (i:=1) rfl) hk5:)) rfl)<|o1<|qo<|fun w s=>uq my (dC kb i ({m with du:=(headD m.du<|eW m.qb m.q)}:En)) i ({m with du:=(headD m.du<|eW m.qb m.q)}:En) (qp m.qb) hk5 (by rfl) ⟨ho.lf,ho.no,ho.qu⟩ w<|s.mem (i:=1) rfl)<|A.v rfl (fun e7=>?_) (fun e7=>?_)
 ·refine A.O [9] 10<|A.kd 1 [.p,.p,.p,.ld 2,.p,.p,.p,.p,.rd [i_ m.ec.hi]] (rg 0 9) [0,1,67] [(71,p_ tl.be),(76,i_ m.ec.hi)] [sb] (o1<|ro ⟨m.eb,1,none⟩ (vs:=[i_ m.ec.hi])<|fi (fun w s=>(fy (s.mem (i:=1) rfl) hk5:)) rfl)<|A.F 9 rfl (A.I (some 77) [0] (fun w s h=>Hk tl zt6 (dC (dJ ek m.ec.hi) m.ec.hi ⟨((headD m.du<|eW m.qb m.q).dq21),m.ec.hi,(headD m.du<|eW m.qb m.q).dq22,m.ec.hi⟩) m.ec.hi ‹_› (Nat.le_trans (AL _ _ _)<|by omega) w h) ?_)
  rintro⟨zi7,zt8⟩ hz8
  refine A.E<|A.M<|A.aN [2,2,2,1,1,0,0] [] (fun _ w r s=>trivial) ((dC kb i ({m with du:=(headD m.du<|eW m.qb m.q)}:En)),zt8,dJ (dC (dJ ek m.ec.hi) m.ec.hi ⟨((headD m.du<|eW m.qb m.q).dq21),m.ec.hi,(headD m.du<|eW m.qb m.q).dq22,m.ec.hi⟩) m.ec.hi) ?_ ?_<|by kernel_rfl
  ·rfl
  exact .inl ⟨(by unfold jK;(simp_all;done)),_,rfl,by assumption,.inr ⟨(by(simp_all[tP];done)),rfl⟩,(if_neg (by rw[e2];exact Bool.false_ne_true)).symm⟩
 refine A.p<|A.aN [2,2,2,1,1,0,0] [] (fun _ w r s=>trivial) ((dC kb i ({m with du:=(headD m.du<|eW m.qb m.q)}:En)),zt6,dC (dJ ek m.ec.hi) m.ec.hi ⟨((headD m.du<|eW m.qb m.q).dq21),m.ec.hi,(headD m.du<|eW m.qb m.q).dq22,m.ec.hi⟩) ?_ ?_<|by kernel_rfl
 ·rfl
 exact .inl ⟨(by unfold jK;(simp_all;done)),_,rfl,by assumption,.inl ⟨(by(simp_all[tP];done)),rfl⟩,(if_neg (by rw[e2];exact Bool.false_ne_true)).symm⟩
def mB:Sh:=⟨false,0,0,0,0,0,0,0,0,false,0⟩
def qS(kb kb':List (Int×En)):Prop:=(∀j,(cu kb' j).map (fun m:En=>{m with sh:=mB})=(cu kb j).map (fun m:En=>{m with sh:=mB}))∧ ∀j m',cu kb' j=some m'→m'.sh=mB∨ ∃m,cu kb j=some m∧m'.sh=m.sh
variable{kb kb':List (Int×En)}{i:Int}{m:En}
theorem MV{m':En}(h:qS kb kb')(hm:cu kb' i=some m)(e:{m' with sh:=mB}={m with sh:=mB})(e2:m'.sh=mB):qS kb (dC kb' i m'):=by
 refine⟨fun j=>?_,fun j x hx=>?_⟩
 ·rw[←h.1 j,fm];by_cases q:i=j
  ·rw[if_pos q];subst q;rw[hm];simp[e]
  ·rw[if_neg q]
 ·rw[fm] at hx;by_cases q:i=j
  ·rw[if_pos q] at hx;cases hx;exact .inl e2
  ·rw[if_neg q] at hx;exact h.2 j x hx
variable{kc:List (Int×Cl)}
theorem G1(hL:dr kc): ∀(n:Nat)(i:Int)(F:Int→List (Int×Int)),fK kc i=true→ ∀z∈(fp (fO kc) F n i).1,fK kc z=true
 |0,i,F,hs,z,hz=>by simp[fp] at hz;rw[hz];exact hs
 |n+1,i,F,hs,z,hz=>by
  unfold fp at hz
  split at hz
  ·simp at hz;rw[hz];exact hs
  ·rename_i hp
   rcases List.mem_cons.1 hz with rfl|hz
   ·exact hs
   ·refine G1 hL n _ _ ?_ z hz
    rw[uM,if_pos hs] at hp⊢
    rcases rJ hL hs with h0|h0
    ·exact absurd (.inr h0) hp
    ·exact h0.1
variable{on on':List (Int×Int)}{ka ka':List (Int×MB)}{ym:List (Int×Pl)}{l:List Int}
theorem MW{c er:Int}(hL:dr kc)(hy:ym=fO kc)(h:qR ym on ka c on' ka' l er): ∀z∈l,fK kc z=true:=by
 intro z hz
 rcases h with⟨h1,-,-,h2,-⟩|⟨-,-,h2,-⟩
 ·rw[hy] at h1 h2
  rw[h2] at hz
  refine G1 hL 40 c _ ?_ z hz
  rw[uU] at h1;simp at h1;exact h1.1
 ·rw[h2] at hz;cases hz
theorem MX{c er:Int}(h:qR ym on ka c on' ka' l er):l.length≤41:=by
 have: ∀(n:Nat)(i:Int)(F:Int→List (Int×Int)),(fp ym F n i).1.length≤n+1:=fun n=>by
  induction n with
  |zero=>intro i F;simp[fp]
  |succ n ih=>intro i F;unfold fp;split<;>simp;exact ih _ _
 rcases h with⟨-,-,-,h2,-⟩|⟨-,-,h2,-⟩
 ·rw[h2];exact this 40 _ _
 ·rw[h2];simp
def mW(kc:List (Int×Cl)):List Int→List (Int×Vt)→List (Int×Vt)→Prop
 |[],kk,kk'=>kk'=kk
 |i::l,kk,kk'=> ∃c v t,cu kc i=some c∧cu kk c.hp=some v∧dq t (dJ v.kv i)∧mW kc l (dC kk c.hp {v with t:=t,kv:=dJ v.kv i}) kk'
variable{L:List Int}{k:Nat}{v:Vt}{kk kk':List (Int×Vt)}
theorem E3{c:Cl}{t:T}(hk:L[k]? =some i)(hc:cu kc i=some c)(hv:cu kk c.hp=some v)(he:dq t (dJ v.kv i))
  (h:mW kc (L.drop<|k+1) (dC kk c.hp {v with t:=t,kv:=dJ v.kv i}) kk'):mW kc (L.drop k) kk kk':=by
 obtain⟨h1,h2⟩:=List.getElem?_eq_some_iff.1 hk
 rw[List.drop_eq_getElem_cons h1,h2];exact⟨c,v,t,hc,hv,he,h⟩
theorem G2{n:Nat}(h:jg kc n kk){p:Int}(he:dq v.t v.kv)(hl:v.kv.length≤n):jg kc n (dC kk p v):=fun q hq=>by
 rw[fm];by_cases e:p=q
 ·rw[if_pos e];exact⟨v,rfl,he,hl⟩
 ·rw[if_neg e];exact h q hq
theorem JP{f:Cl→Bool}{z:Int}(hB:fH kc kb)(h:(dH kc f)[k]? =some z): ∃m,cu kb z=some m:=by
 have h:=List.mem_of_getElem? h
 unfold dH ga at h;rw[(List.mergeSort_perm _ _).mem_iff,List.mem_map] at h
 obtain⟨p,h1,h2⟩:=h
 cases e:cu kb z with
 |some m=>exact⟨m,rfl⟩
 |none=>
  have h3:=(hB z).1;rw[e] at h3
  have h4:cu kc z≠none:=fun h5=>mget_no h5 p (List.mem_filter.1 h1).1 h2
  exact absurd h3.symm h4
where
 mget_no {kc:List (Int×Cl)} {z:Int} (h:cu kc z=none): ∀p∈kc,p.1≠z:=by
  induction kc with
  |nil=>intro p hp;cases hp
  |cons q kc ih=>
   intro p hp
   simp only[cu] at h
   split at h
   ·cases h
   ·rename_i hq
    rcases List.mem_cons.1 hp with rfl|hp
    ·exact hq
    ·exact ih h p hp
def mn:List Int→List (Int×En)→List (Int×En)
 |[],kb=>kb
 |c::l,kb=>mn l (match cu kb c with|some m=>dC kb c {m with sh:=mB}|none=>kb)
theorem MY(hk:L[k]? =some i)(hm:cu kb i=some m):mn (L.drop<|k+1) (dC kb i {m with sh:=mB})=mn (L.drop k) kb:=by
 obtain⟨h1,h2⟩:=List.getElem?_eq_some_iff.1 hk
 rw[List.drop_eq_getElem_cons h1,h2,mn,hm]
def oa(kc:List (Int×Cl)):List Int→List (Int×En)→List (Int×Vt)→List (Int×En)→Prop
 |[],kb,_,kb'=>kb'=kb
 |i::l,kb,kk,kb'=> ∃c v t,cu kc i=some c∧cu kk c.hp=some v∧oa kc l (if(dJ v.kv i).length=0 then mn (dH kc fun v_=>v_.hp==c.hp) kb else kb) (dC kk c.hp {v with t:=t,kv:=dJ v.kv i}) kb'
theorem EC{c:Cl}{t:T}{kb1:List (Int×En)}(hk:L[k]? =some i)(hc:cu kc i=some c)(hv:cu kk c.hp=some v)(e:(if(dJ v.kv i).length=0 then mn (dH kc fun v_=>v_.hp==c.hp) kb else kb)=kb1)(h:oa kc (L.drop<|k+1) kb1 (dC kk c.hp {v with t:=t,kv:=dJ v.kv i}) kb'):oa kc (L.drop k) kb kk kb':=by
 obtain⟨h1,h2⟩:=List.getElem?_eq_some_iff.1 hk
 rw[List.drop_eq_getElem_cons h1,h2];exact⟨c,v,t,hc,hv,e▸h⟩
def sZ(kc:List (Int×Cl))(i:Int)(kb:List (Int×En))(ym:List (Int×Pl))(on:List (Int×Int))(ka:List (Int×MB))(kk:List (Int×Vt))(kb':List (Int×En))(on':List (Int×Int))(ka':List (Int×MB))(kk':List (Int×Vt)):Prop:=
 ∃l er,qR ym on ka i on' ka' l er∧qS kb kb'∧fH kc kb'∧mW kc l kk kk'∧oa kc l kb kk kb'
abbrev se(p0)(p1):=(cw p0 [.map<|some p1] 185:V.dB)
abbrev sf(p0)(p1)(p2)(p3)(p4)(p5:Ac)(p6:Vt)(p7)(p8)(p9):=(cw p0 [i_ p1,i_ p2,p_ p3,.map<|some p4,p_ p5.bs,p_ p6.be,.map<|some p7,u_ p8,u_ p9] 141:V.dB)
theorem ON(sb:Nat)(lt lm:Int)(bt mc:Nat)(kc:List (Int×Cl))(my:Nat)(kb:List (Int×En))(a:Ac)(on:List (Int×Int))(ka:List (Int×MB))(tl:Vt)(et:T)(ek:List (Int×It))(mk:Nat)(kk:List (Int×Vt))(ck ac:Int)(ci:Int)(hL:dr kc)(hB:fH kc kb)(hK:jg kc 600 kk)(hy:a.ym=fO kc):
  CS 157 #[p_ sb,i_ ci] [sf sb lt lm bt my a tl mk ck ac,se bt mc,dy mc kc,eT my kb,fE a on ka,fY tl et ek,ep mk kk] (fun((kb',on',ka',kk'):(List<|Int×En)×(List<|Int×Int)×(List<|Int×MB)×(List<|Int×Vt))=>(.tuple #[])) (fun(kb',on',ka',kk')=>sZ kc ci kb a.ym on ka kk kb' on' ka' kk') fun(kb',on',ka',kk')=>[sf sb lt lm bt my a tl mk ck ac,se bt mc,dy mc kc,eT my kb',fE a on' ka',fY tl et ek,ep mk kk']:=by
 intro w hs
 have hdp:=fun i=>hy▸uA hL i
 have hkl:=hL.len
 refine A.C Tryz.func157 rfl hs (A.c<|A.hp [.p,.p,.p,.ld 0,.p] [(0,p_ sb),(15,p_ a.bs),(16,i_ ci)] [sb]<|A.j<|A.I (some 17) [4] (fun w s h=>Tf a on ka ci (hdp _) w h) ?_)
 rintro⟨on'1,ka'2,al'3,l'4,cl'5,er6⟩ hz1
 dsimp only at hz1
 refine A.h (ps 5) [(0,p_ sb),(4,vS al'3 l'4 cl'5),(5,i_ er6)] []<|A.d<|A.c<|A.h [.p,.p] [(0,p_ sb),(4,vS al'3 l'4 cl'5),(21,b_<|er6 !=0)] []<|A.v (E:=er6 !=0) rfl (fun e2=>?_) (fun e2=>?_)
 ·refine A.e<|A.aG [2,2,2,2,0,1,1] [] (fun _ w r s=>trivial) (kb,on'1,ka'2,kk) ?_ ?_<|by kernel_rfl
  ·rfl
  exact⟨_,_,by assumption,⟨fun _=>rfl,fun _ _ h_=> .inr ⟨_,h_,rfl⟩⟩,hB,(by(rcases(by assumption:qR _ _ _ _ _ _ _ _) with⟨_,_,h_,_⟩|⟨_,_,h_,_⟩<;>simp_all[mW,oa];done))⟩
 refine A.p<|A.d ?_
 have hmem:=MW hL hy ‹_›
 have hlen:=MX ‹_›
 refine A.s<|A.h (ps 3) [(0,p_ sb),(22,vS al'3 l'4 cl'5),(23,c_ l'4.length),(24,i_ 0)] []<|A.y<|A.aX (fun((k,kbk,kkk):Nat×(List<|Int×En)×(List<|Int×Vt))=>[(0,p_ sb),(22,vS al'3 l'4 cl'5),(23,c_ l'4.length),(24,c_ k)]) (fun((k,kbk,kkk):Nat×(List<|Int×En)×(List<|Int×Vt))=>[eT my kbk,ep mk kkk,fE a on'1 ka'2,sI al'3 l'4 cl'5,sf sb lt lm bt my a tl mk ck ac,se bt mc,dy mc kc,fY tl et ek]) (fun((k,kbk,kkk):Nat×(List<|Int×En)×(List<|Int×Vt))=>(k≤l'4.length)∧(qS kb kbk)∧(fH kc kbk)∧(jg kc 600 kkk)∧(∀kk',mW kc (l'4.drop k) kkk kk'→mW kc l'4 kk kk')∧(∀kb',oa kc (l'4.drop k) kbk kkk kb'→oa kc l'4 kb kk kb')) (fun((k,kbk,kkk):Nat×(List<|Int×En)×(List<|Int×Vt))=>l'4.length-k) (0,kb,kk) ⟨(by omega),⟨fun _=>rfl,fun _ _ h_=> .inr ⟨_,h_,rfl⟩⟩,hB,hK,(fun _ h=>h),(fun _ h=>h)⟩ ?_ ?_
 ·exact A.aI [5,6,0,0,0,0,0,0] ⟨rfl,rfl,rfl,rfl,trivial⟩<|by kernel_rfl
 rintro⟨k,kbk,kkk⟩ ⟨hk,hS,hBk,hKk,hD,hZ⟩
 refine A.aO [(0,p_ sb),(22,vS al'3 l'4 cl'5),(23,c_ l'4.length),(24,c_ k)] [eT my kbk,ep mk kkk,fE a on'1 ka'2,sI al'3 l'4 cl'5,sf sb lt lm bt my a tl mk ck ac,se bt mc,dy mc kc,fY tl et ek] ⟨rfl,rfl,rfl,rfl,trivial⟩ rfl (A.c<|A.h [.p] [(0,p_ sb),(22,vS al'3 l'4 cl'5),(23,c_ l'4.length),(24,c_ k),(25,b_<|decide ((k:Int)<(l'4.length:Int)))] []<|A.d<|A.v (E:=decide ((k:Int)<(l'4.length:Int))) rfl (fun e3=>?_) (fun e3=>?_))
 ·have p3:=of_decide_eq_true e3
  refine A.p<|A.d<|A.y<|A.c<|A.hq [.ix] [(0,p_ sb),(22,vS al'3 l'4 cl'5),(23,c_ l'4.length),(24,c_ k),(26,.pointer<|some<|(dR al'3).add (k*1))] [] (o1<|dW 3 k fD rfl (by omega)) ?_
  obtain⟨x8,hx8⟩: ∃x,(l'4)[k]? =some x:=⟨_,List.getElem?_eq_getElem<|by omega⟩
  refine A.hk [.rd [i_ x8],.p] [(0,p_ sb),(22,vS al'3 l'4 cl'5),(23,c_ l'4.length),(24,c_ k),(7,i_ x8)] [] (o1<|ro ((dR al'3).add (k*1))<|fS (vs:=[i_ x8]) fD (fM (i:=3) rfl) hx8 (Nat.le_of_ble_eq_true rfl) rfl)<|A.c<|A.hp [.p,.p,.p,.ld 4,.p] [(0,p_ sb),(22,vS al'3 l'4 cl'5),(23,c_ l'4.length),(24,c_ k),(7,i_ x8),(31,.map<|some my),(32,i_ x8)] [sb] ?_
  obtain⟨m9,hk9,hEO9⟩:=CX hBk<|hmem _<|List.mem_of_getElem? hx8
  refine A.j<|A.q (some 33) _ (by kernel_rfl) (jr (kt:=3) (et:=167) (k:=x8) (fun w s=>mT<|s.mem (i:=0) rfl) hk9 rfl rfl rfl (by kernel_rfl) (ee<|by kernel_rfl) rfl)<|A.hk [.p,.p,.p,.rd [i_ m9.ec.hp],.p] [(0,p_ sb),(22,vS al'3 l'4 cl'5),(23,c_ l'4.length),(24,c_ k),(7,i_ x8),(8,i_ m9.ec.hp)] [] (o1<|ro ⟨m9.eb,2,none⟩ (vs:=[i_ m9.ec.hp])<|fi (fun w s=>(fy (s.mem (i:=0) rfl) hk9:)) rfl)<|A.d<|A.s<|A.hp [.p,.p,.p,.ld 4,.p] [(0,p_ sb),(22,vS al'3 l'4 cl'5),(23,c_ l'4.length),(24,c_ k),(7,i_ x8),(8,i_ m9.ec.hp),(41,.map<|some mk),(42,i_ m9.ec.hp)] [sb] ?_
  obtain⟨m10,hk10,hE10,hl10⟩:=xT hL hBk hKk ‹_›
  refine A.j<|A.u (some 43) _ (jr (kt:=3) (et:=136) (k:=m9.ec.hp) (fun w s=>oZ<|s.mem (i:=1) rfl) hk10 rfl rfl rfl (by kernel_rfl) (ee<|by kernel_rfl) rfl)<|A.hp [.p] [(0,p_ sb),(22,vS al'3 l'4 cl'5),(23,c_ l'4.length),(24,c_ k),(8,i_ m9.ec.hp),(43,p_ m10.be),(44,i_ x8)] []<|A.j<|A.I (some 45) [1] (fun w s h=>QN mk kkk m9.ec.hp m10 x8 hk10 ‹_› (by omega) w h) ?_
  rintro⟨zi11,zt12⟩ hz4
  dsimp only at hz4
  refine A.aB<|A.d<|A.c<|A.hp [.p,.p,.p,.ld 4,.p] [(0,p_ sb),(22,vS al'3 l'4 cl'5),(23,c_ l'4.length),(24,c_ k),(8,i_ m9.ec.hp),(49,.map<|some mk),(50,i_ m9.ec.hp)] [sb] ?_
  obtain⟨m13,hk13⟩:=(⟨_,jM _ _ _⟩: ∃m_:Vt,cu (dC kkk m9.ec.hp {m10 with t:=zt12,kv:=dJ m10.kv x8}) m9.ec.hp=some m_)
  have hm13:m13.kv=dJ m10.kv x8:=by have h_:=(jM kkk m9.ec.hp {m10 with t:=zt12,kv:=dJ m10.kv x8}).symm.trans hk13;cases h_;rfl
  refine A.j<|A.u (some 51) _ (jr (kt:=3) (et:=136) (k:=m9.ec.hp) (fun w s=>oZ<|s.mem (i:=0) rfl) hk13 rfl rfl rfl (by kernel_rfl) (ee<|by kernel_rfl) rfl)<|A.hk [.cq<|c_ m13.kv.length,.p] [(0,p_ sb),(22,vS al'3 l'4 cl'5),(23,c_ l'4.length),(24,c_ k),(8,i_ m9.ec.hp),(53,b_<|decide ((m13.kv.length:Int)>0))] [] (o1<|qo<|fun w s=>Tc mk (dC kkk m9.ec.hp {m10 with t:=zt12,kv:=dJ m10.kv x8}) m9.ec.hp m13 hk13 w<|s.mem (i:=0) rfl)<|A.v (E:=decide ((m13.kv.length:Int)>0)) rfl (fun e5=>?_) (fun e5=>?_)
  ·have p5:=of_decide_eq_true e5
   refine A.aA<|A.s<|A.hk [.w<|(k:Int)+1,.p] [(0,p_ sb),(22,vS al'3 l'4 cl'5),(23,c_ l'4.length),(24,i_<|(k:Int)+1)] [] (o1<|wj ((k:Int)+1)<|by omega)<|A.Z (k+1,kbk,dC kkk m9.ec.hp {m10 with t:=zt12,kv:=dJ m10.kv x8}) ⟨(by omega),hS,hBk,(G2 hKk ‹_› (Nat.le_trans (tz _ _) ‹_›)),(fun _ h=>hD _<|E3 ‹_› (lP hBk ‹_›) ‹_› ‹_› h),(fun _ h=>hZ _<|EC ‹_› (lP hBk ‹_›) ‹_› (if_neg (by rw[←hm13];omega)) h)⟩ (by(show l'4.length-(k+1)<l'4.length-k;omega)) ?_
   exact A.aI [1,0,0,0,0,0,0,0] ⟨rfl,rfl,rfl,rfl,trivial⟩<|by kernel_rfl
  have p5:=of_decide_eq_false e5
  refine A.p<|A.d ?_
  have hkc:=oN kc (fun v_:Cl=>v_.hp==m9.ec.hp)
  refine A.s<|A.hp [.p,.p,.p,.ld 4,.p] [(0,p_ sb),(22,vS al'3 l'4 cl'5),(23,c_ l'4.length),(24,c_ k),(57,p_ bt),(58,i_ m9.ec.hp)] [sb]<|A.j<|A.I (some 59) [] (fun w s h=>yl bt mc kc m9.ec.hp (by omega) w (s.mem (i:=5) rfl) (s.mem (i:=6) rfl) h) ?_
  rintro⟨al'14,cl'15⟩-
  refine A.h [.p,.p] [(0,p_ sb),(22,vS al'3 l'4 cl'5),(23,c_ l'4.length),(24,c_ k),(59,vS al'14 (dH kc<|fun v_=>v_.hp==m9.ec.hp) cl'15),(60,i_ ((dH kc<|fun v_=>v_.hp==m9.ec.hp).length:Int)),(61,i_ 0)] []<|A.y<|A.aX (fun((j,kbj):Nat×(List<|Int×En))=>[(0,p_ sb),(22,vS al'3 l'4 cl'5),(23,c_ l'4.length),(24,c_ k),(59,vS al'14 (dH kc<|fun v_=>v_.hp==m9.ec.hp) cl'15),(60,i_ ((dH kc<|fun v_=>v_.hp==m9.ec.hp).length:Int)),(61,c_ j)]) (fun((j,kbj):Nat×(List<|Int×En))=>[eT my kbj,sI al'14 (dH kc<|fun v_=>v_.hp==m9.ec.hp) cl'15,ep mk<|dC kkk m9.ec.hp {m10 with t:=zt12,kv:=dJ m10.kv x8},fE a on'1 ka'2,sI al'3 l'4 cl'5,sf sb lt lm bt my a tl mk ck ac,se bt mc,dy mc kc,fY tl et ek]) (fun((j,kbj):Nat×(List<|Int×En))=>(j≤(dH kc<|fun v_=>v_.hp==m9.ec.hp).length)∧(qS kb kbj)∧(fH kc kbj)∧(mn ((dH kc<|fun v_=>v_.hp==m9.ec.hp).drop j) kbj=mn (dH kc<|fun v_=>v_.hp==m9.ec.hp) kbk)) (fun((j,kbj):Nat×(List<|Int×En))=>(dH kc<|fun v_=>v_.hp==m9.ec.hp).length-j) (0,kbk) ⟨(by omega),hS,hBk,rfl⟩ ?_ ?_
  ·exact A.aI [2,0,0,0,0,0,0,0,0] ⟨rfl,rfl,rfl,rfl,rfl,rfl,rfl,trivial⟩<|by kernel_rfl
  rintro⟨j,kbj⟩ ⟨hj,hS2,hBj,hQ⟩
  refine A.aO [(0,p_ sb),(22,vS al'3 l'4 cl'5),(23,c_ l'4.length),(24,c_ k),(59,vS al'14 (dH kc<|fun v_=>v_.hp==m9.ec.hp) cl'15),(60,i_ ((dH kc<|fun v_=>v_.hp==m9.ec.hp).length:Int)),(61,c_ j)] [eT my kbj,sI al'14 (dH kc<|fun v_=>v_.hp==m9.ec.hp) cl'15,ep mk<|dC kkk m9.ec.hp {m10 with t:=zt12,kv:=dJ m10.kv x8},fE a on'1 ka'2,sI al'3 l'4 cl'5,sf sb lt lm bt my a tl mk ck ac,se bt mc,dy mc kc,fY tl et ek] ⟨rfl,rfl,rfl,rfl,rfl,rfl,rfl,trivial⟩ rfl (A.c<|A.h [.p] [(0,p_ sb),(22,vS al'3 l'4 cl'5),(23,c_ l'4.length),(24,c_ k),(59,vS al'14 (dH kc<|fun v_=>v_.hp==m9.ec.hp) cl'15),(60,i_ ((dH kc<|fun v_=>v_.hp==m9.ec.hp).length:Int)),(61,c_ j),(62,b_<|decide ((j:Int)<((dH kc<|fun v_=>v_.hp==m9.ec.hp).length:Int)))] []<|A.d<|A.v (E:=decide ((j:Int)<((dH kc<|fun v_=>v_.hp==m9.ec.hp).length:Int))) rfl (fun e7=>?_) (fun e7=>?_))
  ·have p7:=of_decide_eq_true e7
   refine A.p<|A.d<|A.y<|A.c<|A.hq [.ix] [(0,p_ sb),(22,vS al'3 l'4 cl'5),(23,c_ l'4.length),(24,c_ k),(59,vS al'14 (dH kc<|fun v_=>v_.hp==m9.ec.hp) cl'15),(60,i_ ((dH kc<|fun v_=>v_.hp==m9.ec.hp).length:Int)),(61,c_ j),(63,.pointer<|some<|(dR al'14).add (j*1))] [] (o1<|dW 1 j fD rfl (by omega)) ?_
   obtain⟨x17,hx17⟩: ∃x,((dH kc<|fun v_=>v_.hp==m9.ec.hp))[j]? =some x:=⟨_,List.getElem?_eq_getElem<|by omega⟩
   refine A.hk [.rd [i_ x17],.p] [(0,p_ sb),(22,vS al'3 l'4 cl'5),(23,c_ l'4.length),(24,c_ k),(59,vS al'14 (dH kc<|fun v_=>v_.hp==m9.ec.hp) cl'15),(60,i_ ((dH kc<|fun v_=>v_.hp==m9.ec.hp).length:Int)),(61,c_ j),(10,i_ x17)] [] (o1<|ro ((dR al'14).add (j*1))<|fS (vs:=[i_ x17]) fD (fM (i:=1) rfl) hx17 (Nat.le_of_ble_eq_true rfl) rfl)<|?_
   obtain⟨m18,hk18⟩:=JP hBj ‹_›
   refine A.bA 0 rfl hk18 rfl (A.s<|A.hp [.p,.p,.p,.ld 6,.p] [(0,p_ sb),(22,vS al'3 l'4 cl'5),(23,c_ l'4.length),(24,c_ k),(59,vS al'14 (dH kc<|fun v_=>v_.hp==m9.ec.hp) cl'15),(60,i_ ((dH kc<|fun v_=>v_.hp==m9.ec.hp).length:Int)),(61,c_ j),(68,.map<|some my),(69,i_ x17)] [sb]<|A.j<|A.u (some 70) _ (jr (kt:=3) (et:=167) (k:=x17) (fun w s=>OJ<|s.mem (i:=0) rfl) hk18 rfl rfl rfl (by kernel_rfl) (ee<|by kernel_rfl) rfl)<|A.gT [.p,.p,.p,.st 1] [(0,p_ sb),(22,vS al'3 l'4 cl'5),(23,c_ l'4.length),(24,c_ k),(59,vS al'14 (dH kc<|fun v_=>v_.hp==m9.ec.hp) cl'15),(60,i_ ((dH kc<|fun v_=>v_.hp==m9.ec.hp).length:Int)),(61,c_ j)] [(1,cw m18.eb [qp m18.qb,i_ m18.ec.hi,i_ m18.ec.hp,b_ m18.ec.hl,u_ m18.ec.ra,u_ m18.ec.rb,u_ m18.ec.rc,u_ m18.ec.la,u_ m18.ec.lb,u_ m18.ec.lc,u_ m18.ec.ua,u_ m18.ec.ub,u_ m18.ec.uc,i_ m18.ec.hk,i_ m18.ec.hq,u_ m18.tot,b_ m18.du.dq1,u_ m18.du.dq2,u_ m18.du.dq3,u_ m18.du.dq4,u_ m18.du.dq5,u_ m18.du.dq6,u_ m18.du.dq7,u_ m18.du.dq8,u_ m18.du.dq9,b_ m18.du.dq10,u_ m18.du.dq11,u_ m18.du.dq12,u_ m18.du.dq13,u_ m18.du.dq14,u_ m18.du.dq15,u_ m18.du.dq16,u_ m18.du.dq17,u_ m18.du.dq18,b_ m18.du.dq19,u_ m18.du.dq20,u_ m18.du.dq21,u_ m18.du.dq22,b_ false,u_ 0,u_ 0,u_ 0,u_ 0,u_ 0,u_ 0,u_ 0,u_ 0,b_ false,u_ 0,b_ m18.li.uq1,u_ m18.li.uq2,u_ m18.li.uq3,u_ m18.li.uq4,u_ m18.li.uq5,u_ m18.li.uq6,u_ m18.li.uq7,u_ m18.li.uq8,u_ m18.li.uq9,b_ m18.li.uq10,u_ m18.li.uq11] 225)] [m18.eb]<|A.az (m':=({m18 with sh:=(⟨false,0,0,0,0,0,0,0,0,false,0⟩:Sh)}:En)) [0,0] rfl hk18 ⟨rfl,rfl,rfl⟩ rfl rfl ?_)
   have hk19:=jM kbj x17 ({m18 with sh:=(⟨false,0,0,0,0,0,0,0,0,false,0⟩:Sh)}:En)
   refine(A.s<|A.hk [.w<|(j:Int)+1,.p] [(0,p_ sb),(22,vS al'3 l'4 cl'5),(23,c_ l'4.length),(24,c_ k),(59,vS al'14 (dH kc<|fun v_=>v_.hp==m9.ec.hp) cl'15),(60,i_ ((dH kc<|fun v_=>v_.hp==m9.ec.hp).length:Int)),(61,i_<|(j:Int)+1)] [] (o1<|wj ((j:Int)+1)<|by omega)<|A.Z (j+1,dC kbj x17 ({m18 with sh:=(⟨false,0,0,0,0,0,0,0,0,false,0⟩:Sh)}:En)) ⟨(by omega),(by apply MV hS2<;>first|assumption|rfl),(by apply sH hBj<;>first|assumption|rfl),((MY hx17 hk18).trans hQ)⟩ (by(show(dH kc<|fun v_=>v_.hp==m9.ec.hp).length-(j+1)<(dH kc<|fun v_=>v_.hp==m9.ec.hp).length-j;omega)) ?_)
   exact A.aI [0,0,0,0,0,0,0,0,0] ⟨rfl,rfl,rfl,rfl,rfl,rfl,rfl,trivial⟩<|by kernel_rfl
  have p7:=of_decide_eq_false e7
  refine A.aA<|A.s<|A.hk [.w<|(k:Int)+1,.p] [(0,p_ sb),(22,vS al'3 l'4 cl'5),(23,c_ l'4.length),(24,i_<|(k:Int)+1)] [] (o1<|wj ((k:Int)+1)<|by omega)<|A.Z (k+1,kbj,dC kkk m9.ec.hp {m10 with t:=zt12,kv:=dJ m10.kv x8}) ⟨(by omega),hS2,hBj,(G2 hKk ‹_› (Nat.le_trans (tz _ _) ‹_›)),(fun _ h=>hD _<|E3 ‹_› (lP hBk ‹_›) ‹_› ‹_› h),(fun _ h=>hZ _<|EC ‹_› (lP hBk ‹_›) ‹_› ((if_pos (by rw[←hm13];omega)).trans (hQ.symm.trans (by rw[List.drop_eq_nil_of_le<|by omega];rfl))) h)⟩ (by(show l'4.length-(k+1)<l'4.length-k;omega)) ?_
  exact A.aI [0,1,1,1,1,1,1,1] ⟨rfl,rfl,rfl,rfl,trivial⟩<|by kernel_rfl
 have p3:=of_decide_eq_false e3
 refine A.aA<|A.aN [4,4,4,0,1,2,0] [] (fun _ w r s=>trivial) (kbk,on'1,ka'2,kkk) ?_ ?_<|by kernel_rfl
 ·rfl
 exact⟨_,_,by assumption,hS,hBk,hD _ (by rw[List.drop_eq_nil_of_le<|by omega];rfl),hZ _ (by rw[List.drop_eq_nil_of_le<|by omega];rfl)⟩
structure Pd where
 gq1:Int
 gq2:Int
 gq3:Int
 gq4:Int
 gq5:Int
 gq6:Int
 gq7:Int
 gq8:Bool
 deriving Inhabited,DecidableEq
def CY(x:Pd):List Value:=[(i_ x.gq1),(u_ x.gq2),(i_ x.gq3),(w_ x.gq4),(w_ x.gq5),(w_ x.gq6),(w_ x.gq7),(b_ x.gq8)]
def ns(n:Int)(m:En):En:={m with tot:=IntKind.u64.wrap<|m.tot+IntKind.u64.wrap n,sh:=lS m.sh<|IntKind.u64.wrap<|m.tot+IntKind.u64.wrap n,li:=jI m.li<|IntKind.u64.wrap<|m.tot+IntKind.u64.wrap n}
def kN(n:Int):List Int→List (Int×En)→List (Int×En)
 |[],kb=>kb
 |i::l,kb=>kN n l (match cu kb i with|some m=>dC kb i (ns n m)|none=>kb)
theorem LW{n:Int}(hk:L[k]? =some i)(hm:cu kb i=some m):kN n (L.drop<|k+1) (dC kb i<|ns n m)=kN n (L.drop k) kb:=by
 obtain⟨h1,h2⟩:=List.getElem?_eq_some_iff.1 hk
 rw[List.drop_eq_getElem_cons h1,h2,kN,hm]
def y9(M:En)(i:Int)(kb:List (Int×En)):Prop:= ∃m,cu kb i=some m∧m.eb=M.eb∧m.qb=M.qb∧m.q=M.q∧m.ec=M.ec
theorem OO{M:En}{j:Int}{y y':En}(h:y9 M i kb)(hy:cu kb j=some y)(h1:y'.eb=y.eb)(h2:y'.qb=y.qb)(h3:y'.q=y.q)(h4:y'.ec=y.ec):y9 M i (dC kb j y'):=by
 obtain⟨m,g1,g2⟩:=h
 by_cases e:j=i
 ·subst e;rw[hy] at g1;cases g1
  exact⟨y',jM _ _ _,by rw[h1,h2,h3,h4];exact g2⟩
 ·exact⟨m,by rw[fm,if_neg e];exact g1,g2⟩
variable{ek ek':List (Int×It)}
theorem To{sn:Int}{br:Bool}{et et':T}(hm:cu kb i=some m)(h:ot i m sn br kb et ek kb' et' ek'):y9 m i kb':=by
 rcases h with⟨-,d,rfl,-⟩|⟨-,rfl,-⟩
 ·exact⟨_,jM _ _ _,rfl,rfl,rfl,rfl⟩
 ·exact⟨m,hm,rfl,rfl,rfl,rfl⟩
theorem QR{sn:Int}{br:Bool}{et et':T}(hB:fH kc kb)(hm:cu kb i=some m)(h:ot i m sn br kb et ek kb' et' ek'):fH kc kb':=by
 rcases h with⟨-,d,rfl,-⟩|⟨-,rfl,-⟩
 ·exact sH hB hm rfl rfl rfl
 ·exact hB
theorem G3{n:Nat}: ∀{l:List Int}{kk kk':List (Int×Vt)},jg kc n kk→mW kc l kk kk'→(∀i∈l,True)→jg kc n kk'
 |[],kk,kk',h,hd,_=>by cases hd;exact h
 |i::l,kk,kk',h,⟨c,v,t,hc,hv,he,hd⟩,_=>by
  refine G3 (l:=l) (kk:=dC kk c.hp {v with t:=t,kv:=dJ v.kv i}) (fun q hq=>?_) hd<|fun _ _=>trivial
  rw[fm];by_cases e:c.hp=q
  ·rw[if_pos e];subst e
   obtain⟨v2,h1,h2,h3⟩:=h _ hq
   rw[hv] at h1;cases h1
   exact⟨_,rfl,he,Nat.le_trans (tz _ _) h3⟩
  ·rw[if_neg e];exact h q hq
theorem QS(h:sZ kc i kb ym on ka kk kb' on' ka' kk'):fH kc kb':=by obtain⟨_,_,_,_,h,_⟩:=h;exact h
theorem QT{n:Nat}(hK:jg kc n kk)(h:sZ kc i kb ym on ka kk kb' on' ka' kk'):jg kc n kk':=by obtain⟨l,_,_,_,_,h⟩:=h;exact G3 hK h.1 fun _ _=>trivial
def mC(z:Pd):Pk:=⟨z.gq2,z.gq3,z.gq4,z.gq5,z.gq6,z.gq7⟩
def yQ(kc:List (Int×Cl))(ch:Int×Bool×Bool)(z:Pd)(ok:Bool)(kb:List (Int×En))(ym:List (Int×Pl))(on:List (Int×Int))(ka:List (Int×MB))(et:T)(ek:List (Int×It))(kk:List (Int×Vt))(kb':List (Int×En))(on':List (Int×Int))(ka':List (Int×MB))(et':T)(ek':List (Int×It))(kk':List (Int×Vt)):Prop:=
 (ch.2.2=false∧ok=false∧kb'=kb∧on'=on∧ka'=ka∧et'=et∧ek'=ek∧kk'=kk)∨
 (ch.2.2=true∧ok=true∧z.gq1=ch.1∧z.gq8=ch.2.1∧ ∃m q,cu kb ch.1=some m∧rT m.q (mC z) q∧
  ∃m2 kb2 kb3 kk2,kb2=kN z.gq3 (db kc ch.1) (dC kb ch.1 {m with q:=q})∧cu kb2 ch.1=some m2∧m2.qb=m.qb∧m2.q=q∧m2.ec=m.ec∧ot ch.1 m2 z.gq3 ch.2.1 kb2 et ek kb3 et' ek'∧
   ((qC q≠[]∧kb'=kb3∧on'=on∧ka'=ka∧kk2=kk)∨(qC q=[]∧sZ kc ch.1 kb3 ym on ka kk kb' on' ka' kk2))∧kM on' ka' kb' (db kc ch.1) kk2 kk')
set_option maxHeartbeats 4000000 in
set_option maxRecDepth 100000 in
abbrev u7(p0)(p1)(p2)(p3)(p4)(p5)(p6)(p7)(p8)(p9):=([cw p0 [i_ p1,i_ p2,p_ p3,.map<|some p4,p_ p5,p_ p6,.map<|some p7,u_ p8,u_ p9] 141]:List V.dB)
theorem Hv(sb:Nat)(lt lm:Int)(bt my ab eb mk:Nat)(ck ac now:Int)(hk1:ck≤now)(hk2:now≤4611686018427387904)(w:World)(hs:HI w (u7 sb lt lm bt my ab eb mk ck ac)):
  CV 111 #[p_ sb,u_ now] w (u7 sb lt lm bt my ab eb mk ck ac) (fun(zz:Unit)=>(b_ true)) (fun _=>True) fun _=>(u7 sb lt lm bt my ab eb mk now ac):=by
 refine A.C Tryz.func111 rfl hs (A.aO [(0,p_ sb),(1,u_ now)] (u7 sb lt lm bt my ab eb mk ck ac) ⟨rfl,rfl,trivial⟩ rfl (A.c<|A.h [.p] [(0,p_ sb),(1,u_ now)] []<|A.d<|A.c<|A.h [.p,.p,.p,.p,.ld 0,.p,.p,.o,.p,.p,.cl] [(0,p_ sb),(1,u_ now),(14,b_<|(decide (now<ck))||(decide (now>4611686018427387904)))] [sb]<|A.v (E:=(decide (now<ck))||(decide (now>4611686018427387904))) rfl (fun e1=>?_) (fun e1=>?_)))
 ·exact absurd e1<|by(intro h_;simp at h_;omega)
 ·skip
  refine A.p<|A.c<|A.gO [.p,.p,.p,.p,.st 0] [] (u7 sb lt lm bt my ab eb mk now ac) [sb]<|A.c<|A.h [.p] [(4,b_ true)] []<|A.e<|A.aG [0] [b_ true] (fun _ w r s=>⟨fk r rfl,trivial⟩) () ?_ ?_<|by kernel_rfl
  ·rfl
  ·trivial
abbrev Hw(p0)(p1):=(cw p0 [.map<|some p1] 185:V.dB)
abbrev kF(p0)(p1)(p2)(p3):=(i_ ((eU p0 p1 p2 p3).1):Value)
abbrev sj(p0)(p1)(p2)(p3)(p4):=((54,i_ ((db p0<|(eU p1 p2 p3 p4).1).length:Int)):Nat×Value)
abbrev lu(p0)(p1)(p2)(p3):=(b_ ((eU p0 p1 p2 p3).2.1):Value)
abbrev Hy(p0)(p1)(p2)(p3)(p4)(p5:Ac)(p6:Vt)(p7)(p8)(p9):=(cw p0 [i_ p1,i_ p2,p_ p3,.map<|some p4,p_ p5.bs,p_ p6.be,.map<|some p7,u_ p8,u_ p9] 141:V.dB)
theorem QU(sb:Nat)(lt lm:Int)(bt mc:Nat)(kc:List (Int×Cl))(my:Nat)(kb:List (Int×En))(a:Ac)(on:List (Int×Int))(ka:List (Int×MB))(tl:Vt)(et:T)(ek:List (Int×It))(mk:Nat)(kk:List (Int×Vt))(ck ac:Int)(now:Int)(hL:dr kc)(hB:fH kc kb)(hK:jg kc 600 kk)(hy:a.ym=fO kc)(hE:dq et ek)(hl:ek.length≤600)(hD:o0 kb kk now 17 0)(hCh:(eU et kb kk now).2.2=true→ ∃m,cu kb (eU et kb kk now).1=some m∧qC m.q≠[])(hk1:ck≤now)(hk2:now≤4611686018427387904):
  CS 114 #[p_ sb,u_ now] [Hy sb lt lm bt my a tl mk ck ac,Hw bt mc,dy mc kc,eT my kb,fE a on ka,fY tl et ek,ep mk kk] (fun((z,ok,kb',on',ka',et',ek',kk'):Pd×Bool×(List<|Int×En)×(List<|Int×Int)×(List<|Int×MB)×T×(List<|Int×It)×(List<|Int×Vt))=>(.tuple #[.agg (CY z).toArray,b_ ok])) (fun(z,ok,kb',on',ka',et',ek',kk')=>yQ kc (eU et kb kk now) z ok kb a.ym on ka et ek kk kb' on' ka' et' ek' kk') fun(z,ok,kb',on',ka',et',ek',kk')=>[Hy sb lt lm bt my a tl mk now ac,Hw bt mc,dy mc kc,eT my kb',fE a on' ka',fY tl et' ek',ep mk kk']:=by
 intro w hs
 have hul:=AK hL (eU et kb kk now).1
 refine A.C Tryz.func114 rfl hs (A.c<|A.n1 [.al,.p] [] (fun b1=>[(4,p_ b1)]) (fun b1=>cw b1 [i_ 0,u_ 0,i_ 0,w_ 0,w_ 0,w_ 0,w_ 0,b_ false] 235) ?_)
 intro b1
 refine A.d<|A.c<|A.N (ps 5) [] [(17,b_ false),(18,p_ sb),(19,u_ now)]<|A.j<|A.I (some 20) [0] (fun w s h=>Hv sb lt lm bt my a.bs tl.be mk ck ac now ‹_› ‹_› w h) ?_
 rintro⟨⟩-
 refine A.g [.p,.p] [17,18,19,20] [(22,b_ false)]<|A.cf<|A.p<|A.c<|A.k [.p,.p,.cq<|.tuple #[kF et kb kk now,lu et kb kk now,b_<|(eU et kb kk now).2.2],.p,.p,.p,.p,.p,.p,.p] [1,22] [(6,kF et kb kk now),(7,lu et kb kk now),(8,b_<|(eU et kb kk now).2.2)] [] (o1<|qo<|fun w s=>MU sb lt lm bt mc kc my kb a on ka tl et ek mk kk now ac now ‹_› ‹_› w (s.mem (i:=0) rfl) (s.mem (i:=1) rfl) (s.mem (i:=2) rfl) (s.mem (i:=3) rfl) (s.mem (i:=4) rfl) (s.mem (i:=5) rfl) (s.mem (i:=6) rfl))<|A.d<|A.c<|A.g [.p,.p] [8] [(32,b_ (!((eU et kb kk now).2.2)))]<|A.v rfl (fun e2=>?_) (fun e2=>?_)
 ·refine A.c<|A.gs [.p,.st 7,.p] [0,6,7,32] [(5,b_ false)] [] [b1]<|A.e<|A.aG [0,0,0,0,0,0,0] [.agg #[i_ 0,u_ 0,i_ 0,w_ 0,w_ 0,w_ 0,w_ 0,b_ false],b_ false] (fun _ w r s=>⟨iF 7 r s,fk r rfl,trivial⟩) ((⟨0,0,0,0,0,0,0,false⟩:Pd),false,kb,on,ka,et,ek,kk) ?_ ?_<|by kernel_rfl
  ·rfl
  exact .inl ⟨(by(simp_all;done)),rfl,rfl,rfl,rfl,rfl,rfl,rfl⟩
 refine A.p<|A.c<|A.gm [.p,.p,.p,.ld 0,.p] [32] [(37,.map<|some my),(38,kF et kb kk now)] [sb] ?_
 obtain⟨m2,hk2,h0n2⟩:=hCh<|by(simp_all;done)
 refine A.j<|A.u (some 39) _ (jr (kt:=3) (et:=167) (k:=(eU et kb kk now).1) (fun w s=>mT<|s.mem (i:=3) rfl) hk2 rfl rfl rfl (by kernel_rfl) (ee<|by kernel_rfl) rfl)<|A.g [.p] [37,38,39] [(9,p_ m2.eb)]<|A.c<|A.kp [.p,.p,.p,.rd [qp m2.qb]] [] [(44,qp m2.qb)] [] (o1<|ro ⟨m2.eb,0,none⟩ (vs:=[qp m2.qb])<|fi (fun w s=>(fy (s.mem (i:=3) rfl) hk2:)) rfl)<|A.j<|A.I (some 45) [3] (fun w s h=>Ta my kb ((eU et kb kk now).1) m2 (qp m2.qb) hk2 (by rfl) ((hB _).2 _ ‹_›) ‹_› w h) ?_
 rintro⟨q'3,pp4⟩ hz3
 refine A.g1 [.p,.p,.p,.al,.st 8,.p] [44,45] (fun b5=>[(10,p_ b5)]) (fun b5=>[]) (fun b5=>cw b5 (gn pp4) 45) (fun b5=>[b5]) ?_
 intro b5
 refine A.d<|A.d ?_
 have hk6:=jM kb (eU et kb kk now).1 ({m2 with q:=q'3}:En)
 have hB1:fH kc (dC kb ((eU et kb kk now).1) {m2 with q:=q'3}):=xU hB hk2 rfl ⟨((hB _).2 _ hk2).lf,fun e_=>absurd (((hB _).2 _ hk2).no e_)<|fun e2_=>h0n2<|List.eq_nil_of_length_eq_zero (by rw[kT];exact e2_),fun _=>(by assumption:rT _ _ _).1⟩
 refine A.s<|A.gm [.p,.p,.p,.ld 1,.p] [] [(51,p_ bt),(52,kF et kb kk now)] [sb]<|A.j<|A.I (some 53) [] (fun w s h=>DN bt mc kc ((eU et kb kk now).1) ‹_› w (s.mem (i:=2) rfl) (s.mem (i:=3) rfl) h) ?_
 rintro⟨al'7,cl'8⟩-
 refine A.g [.p,.p] [51,52] [(53,vS al'7 (db kc<|(eU et kb kk now).1) cl'8),(sj kc et kb kk now),(55,i_ 0)]<|A.y<|A.lp (σ:=Nat×(List<|Int×En)) [] (fun(k,kbk)=>[(55,c_ k)]) [1] (fun(k,kbk)=>[eT my kbk]) (fun(k,kbk)=>(k≤(db kc (eU et kb kk now).1).length)∧(kN pp4.qn ((db kc (eU et kb kk now).1).drop k) kbk=kN pp4.qn (db kc (eU et kb kk now).1) (dC kb ((eU et kb kk now).1) {m2 with q:=q'3}))∧(fH kc kbk)∧(y9 ({m2 with q:=q'3}:En) (eU et kb kk now).1 kbk)) (fun(k,kbk)=>(db kc (eU et kb kk now).1).length-k) (0,dC kb ((eU et kb kk now).1) {m2 with q:=q'3}) ⟨(by omega),(by rfl),hB1,⟨_,jM _ _ _,rfl,rfl,rfl,rfl⟩⟩ ?_ ?_
 ·exact A.J [1,0,0,0,0,0,0,0,0,0]
 rintro⟨k,kbk⟩ ⟨hk,hU,hBk,hX⟩
 refine A.c<|A.g [.p] [] [(56,b_<|decide ((k:Int)<((db kc<|(eU et kb kk now).1).length:Int)))]<|A.d<|A.v rfl (fun e5=>?_) (fun e5=>?_)
 ·have p5:=of_decide_eq_true e5
  refine A.p<|A.d<|A.y<|A.c<|A.kp [.ix] [56] [(57,.pointer<|some<|(dR al'7).add (k*1))] [] (o1<|dW 1 k fD rfl (by omega)) ?_
  obtain⟨x10,hx10⟩: ∃x,((db kc<|(eU et kb kk now).1))[k]? =some x:=⟨_,List.getElem?_eq_getElem<|by omega⟩
  refine A.hk [.rd [i_ x10],.p] [(0,p_ sb),(4,p_ b1),(6,kF et kb kk now),(7,lu et kb kk now),(9,p_ m2.eb),(10,p_ b5),(53,vS al'7 (db kc<|(eU et kb kk now).1) cl'8),(sj kc et kb kk now),(55,c_ k),(13,i_ x10)] [] (o1<|ro ((dR al'7).add (k*1))<|fS (vs:=[i_ x10]) fD (fM (i:=1) rfl) hx10 (Nat.le_of_ble_eq_true rfl) rfl)<|A.c<|A.gm [.p,.p,.p,.ld 2,.p] [13] [(62,.map<|some my),(63,i_ x10)] [sb] ?_
  obtain⟨m11,hk11,hEO11⟩:=Hm hL hBk ‹_›
  refine A.j<|A.u (some 64) _ (jr (kt:=3) (et:=167) (k:=x10) (fun ww ss=>mT<|ss.mem (i:=0) rfl) hk11 rfl rfl rfl (by kernel_rfl) (ee<|by kernel_rfl) rfl)<|A.g [.p] [62,63,64] [(14,p_ m11.eb)]<|A.d<|A.bA 0 rfl hk11 rfl ?_
  refine A.O [10] 11 ?_
  refine A.pT 1 [.p,.p,.p,.ld 1,.p,.ld 10,.p,.p,.p,.p] (rg 0 10) [(0,p_ sb),(4,p_ b1),(6,kF et kb kk now),(7,lu et kb kk now),(9,p_ m2.eb),(10,p_ b5),(53,vS al'7 (db kc<|(eU et kb kk now).1) cl'8),(sj kc et kb kk now),(55,c_ k),(14,p_ m11.eb),(72,u_<|IntKind.u64.wrap<|m11.tot+(IntKind.u64.wrap<|pp4.qn)),(74,q_ m11.eb 15)] [m11.eb,b5] ?_
  refine A.F 10 rfl (A.sT 1 [u_<|IntKind.u64.wrap<|m11.tot+(IntKind.u64.wrap<|pp4.qn)] rfl ?_)
  refine A.E ?_
  refine A.M ?_
  refine A.d<|A.O [12] 13 ?_
  refine A.pO 1 [.p,.p,.p,.p,.ld 1,.p,.p,.p,.ld 1,.cq<|.agg (iD<|lS m11.sh<|IntKind.u64.wrap<|m11.tot+(IntKind.u64.wrap<|pp4.qn)).toArray,.p,.p] (rg 0 12) [(0,p_ sb),(4,p_ b1),(6,kF et kb kk now),(7,lu et kb kk now),(9,p_ m2.eb),(10,p_ b5),(53,vS al'7 (db kc<|(eU et kb kk now).1) cl'8),(sj kc et kb kk now),(55,c_ k),(14,p_ m11.eb),(84,.agg (iD<|lS m11.sh<|IntKind.u64.wrap<|m11.tot+(IntKind.u64.wrap<|pp4.qn)).toArray),(86,q_ m11.eb 38)] [m11.eb,m11.eb] (o1<|qo<|fun ww ss=>Rq m11.sh (IntKind.u64.wrap<|m11.tot+(IntKind.u64.wrap<|pp4.qn)) ww) ?_
  refine A.F 12 rfl (A.sT 1 (iD<|lS m11.sh<|IntKind.u64.wrap<|m11.tot+(IntKind.u64.wrap<|pp4.qn)) rfl ?_)
  refine A.E ?_
  refine A.M ?_
  refine A.O [12] 13 ?_
  refine A.pO 1 [.p,.p,.p,.p,.ld 1,.p,.p,.p,.ld 1,.cq<|.agg (gv<|jI m11.li<|IntKind.u64.wrap<|m11.tot+(IntKind.u64.wrap<|pp4.qn)).toArray,.p,.p] (rg 0 12) [(0,p_ sb),(4,p_ b1),(6,kF et kb kk now),(7,lu et kb kk now),(9,p_ m2.eb),(10,p_ b5),(53,vS al'7 (db kc<|(eU et kb kk now).1) cl'8),(sj kc et kb kk now),(55,c_ k),(96,.agg (gv<|jI m11.li<|IntKind.u64.wrap<|m11.tot+(IntKind.u64.wrap<|pp4.qn)).toArray),(98,q_ m11.eb 49)] [m11.eb,m11.eb] (o1<|qo<|fun ww ss=>Bn m11.li (IntKind.u64.wrap<|m11.tot+(IntKind.u64.wrap<|pp4.qn)) ww) ?_
  refine A.F 12 rfl (A.sT 1 (gv<|jI m11.li<|IntKind.u64.wrap<|m11.tot+(IntKind.u64.wrap<|pp4.qn)) rfl ?_)
  refine A.E ?_
  refine A.M ?_
  refine A.az (m':=({m11 with tot:=IntKind.u64.wrap<|m11.tot+(IntKind.u64.wrap<|pp4.qn),sh:=(lS m11.sh<|IntKind.u64.wrap<|m11.tot+(IntKind.u64.wrap<|pp4.qn)),li:=(jI m11.li<|IntKind.u64.wrap<|m11.tot+(IntKind.u64.wrap<|pp4.qn))}:En)) [0,0] rfl hk11 ⟨rfl,rfl,rfl⟩ rfl rfl ?_
  have hk12:=jM kbk x10 ({m11 with tot:=IntKind.u64.wrap<|m11.tot+(IntKind.u64.wrap<|pp4.qn),sh:=(lS m11.sh<|IntKind.u64.wrap<|m11.tot+(IntKind.u64.wrap<|pp4.qn)),li:=(jI m11.li<|IntKind.u64.wrap<|m11.tot+(IntKind.u64.wrap<|pp4.qn))}:En)
  refine A.s<|A.hk [.w<|(k:Int)+1,.p] [(0,p_ sb),(4,p_ b1),(6,kF et kb kk now),(7,lu et kb kk now),(9,p_ m2.eb),(10,p_ b5),(53,vS al'7 (db kc<|(eU et kb kk now).1) cl'8),(sj kc et kb kk now),(55,i_<|(k:Int)+1)] [] (o1<|wj ((k:Int)+1)<|by omega)<|A.Z (k+1,dC kbk x10 ({m11 with tot:=IntKind.u64.wrap<|m11.tot+(IntKind.u64.wrap<|pp4.qn),sh:=(lS m11.sh<|IntKind.u64.wrap<|m11.tot+(IntKind.u64.wrap<|pp4.qn)),li:=(jI m11.li<|IntKind.u64.wrap<|m11.tot+(IntKind.u64.wrap<|pp4.qn))}:En)) ⟨(by omega),((LW ‹_› ‹_›).trans hU),(by apply sH hBk<;>first|assumption|rfl),(by apply OO hX<;>first|assumption|rfl)⟩ (by(show(db kc (eU et kb kk now).1).length-(k+1)<(db kc (eU et kb kk now).1).length-k;omega)) ?_
  exact A.J [0,0,0,0,0,0,0,0,0,0]
 have p5:=of_decide_eq_false e5
 refine A.aA<|A.d ?_
 obtain⟨m13,hk13,he13,hqb13,hqq13,hec13⟩:=hX
 refine A.D 9 (p_ m13.eb) (congrArg (fun z_=>some<|p_ z_) he13.symm) ?_
 have hEO13:=(hBk _).2 _ hk13
 refine A.s<|A.gm [.p,.p,.p,.ld 9,.p] [53,54,55,56] [(100,p_ sb),(101,p_ m13.eb),(103,i_ pp4.qn),(104,lu et kb kk now)] [b5]<|A.j<|A.I (some 105) [2,2,2,0,1,1,1] (fun w s h=>Tn sb lt lm bt mc kc my kbk a on ka tl et ek mk kk now ac ((eU et kb kk now).1) m13 pp4.qn ((eU et kb kk now).2.1) hk13 ‹_› ‹_› ‹_› w h) ?_
 rintro⟨kb'14,et'15,ek'16⟩ hz6
 refine A.aB<|A.d<|A.d ?_
 have hB3:=QR hBk hk13 ‹_›
 obtain⟨m17,hk17,he17,hqb17,hqq17,hec17⟩:=To hk13 ‹_›
 refine A.D 9 (p_ m17.eb) (congrArg (fun z_=>some<|p_ z_) he17.symm) ?_
 have hEO17:=(hB3 _).2 _ hk17
 refine A.s<|A.hk [.p,.p,.p,.rd [qp m17.qb],.cq<|i_ ((qC m17.q).length:Int),.p] [(0,p_ sb),(4,p_ b1),(6,kF et kb kk now),(7,lu et kb kk now),(10,p_ b5),(111,b_<|((qC m17.q).length:Int)==0)] [] (oc (ro ⟨m17.eb,0,none⟩ (vs:=[qp m17.qb])<|fi (fun w s=>(fy (s.mem (i:=3) rfl) hk17:)) rfl)<|o1<|qo<|fun w s=>uq my kb'14 ((eU et kb kk now).1) m17 (qp m17.qb) hk17 (by rfl) (by assumption) w<|s.mem (i:=3) rfl)<|A.v rfl (fun e7=>?_) (fun e7=>?_)
 ·refine A.s<|A.N [.p,.p] [111] [(112,p_ sb),(113,kF et kb kk now)]<|A.j<|A.I (some 114) [0,0,0,0,0,0,0] (fun w s h=>ON sb lt lm bt mc kc my kb'14 a on ka tl et'15 ek'16 mk kk now ac ((eU et kb kk now).1) ‹_› ‹_› ‹_› ‹_› w h) ?_
  rintro⟨kb'18,on'19,ka'20,kk'21⟩ hz8
  refine A.aB<|A.c<|A.N [.p,.p] [0,112,113,114] [(115,p_ sb),(116,kF et kb kk now)]<|A.j<|A.I (some 117) [0,0,0,0,0,1] (fun w s h=>vr sb lt lm bt mc kc my kb'18 a on'19 ka'20 tl.be mk kk'21 now ac ((eU et kb kk now).1) ‹_› (QS ‹_›) (QT hK ‹_›) w h) ?_
  rintro kk'22 hz9
  refine A.aB<|A.c<|A.gs [.p,.ld 9,.p,.p,.st 8,.p] [6,7,10,115,116,117] [(5,b_ true)] [(8,cw b1 [kF et kb kk now,u_ pp4.qi,i_ pp4.qn,w_ pp4.qa,w_ pp4.qb,w_ pp4.qc,w_ pp4.qd,lu et kb kk now] 235)] [b5,b1]<|A.e<|A.aG [0,0,0,0,0,1,0] [.agg #[kF et kb kk now,u_ pp4.qi,i_ pp4.qn,w_ pp4.qa,w_ pp4.qb,w_ pp4.qc,w_ pp4.qd,lu et kb kk now],b_ true] (fun _ w r s=>⟨iF 8 r s,fk r rfl,trivial⟩) ((⟨(eU et kb kk now).1,pp4.qi,pp4.qn,pp4.qa,pp4.qb,pp4.qc,pp4.qd,(eU et kb kk now).2.1⟩:Pd),true,kb'18,on'19,ka'20,et'15,ek'16,kk'22) ?_ ?_<|by kernel_rfl
  ·rfl
  exact .inr ⟨(by(simp_all;done)),rfl,rfl,rfl,_,_,by assumption,by assumption,_,_,_,_,(by rw[←hU,List.drop_eq_nil_of_le<|by omega]<;>rfl),by assumption,by assumption,by assumption,by assumption,by assumption,(by exact .inr ⟨(by(simp_all[tP];done)),by assumption⟩),by assumption⟩
 refine A.p<|A.c<|A.N [.p,.p] [0,111] [(115,p_ sb),(116,kF et kb kk now)]<|A.j<|A.I (some 117) [0,0,0,0,0,1] (fun w s h=>vr sb lt lm bt mc kc my kb'14 a on ka tl.be mk kk now ac ((eU et kb kk now).1) ‹_› ‹_› ‹_› w h) ?_
 rintro kk'23 hz10
 refine A.aB<|A.c<|A.gs [.p,.ld 9,.p,.p,.st 8,.p] [6,7,10,115,116,117] [(5,b_ true)] [(8,cw b1 [kF et kb kk now,u_ pp4.qi,i_ pp4.qn,w_ pp4.qa,w_ pp4.qb,w_ pp4.qc,w_ pp4.qd,lu et kb kk now] 235)] [b5,b1]<|A.e<|A.aG [0,0,0,0,0,1,0] [.agg #[kF et kb kk now,u_ pp4.qi,i_ pp4.qn,w_ pp4.qa,w_ pp4.qb,w_ pp4.qc,w_ pp4.qd,lu et kb kk now],b_ true] (fun _ w r s=>⟨iF 8 r s,fk r rfl,trivial⟩) ((⟨(eU et kb kk now).1,pp4.qi,pp4.qn,pp4.qa,pp4.qb,pp4.qc,pp4.qd,(eU et kb kk now).2.1⟩:Pd),true,kb'14,on,ka,et'15,ek'16,kk'23) ?_ ?_<|by kernel_rfl
 ·rfl
 exact .inr ⟨(by(simp_all;done)),rfl,rfl,rfl,_,_,by assumption,by assumption,_,_,_,_,(by rw[←hU,List.drop_eq_nil_of_le<|by omega]<;>rfl),by assumption,by assumption,by assumption,by assumption,by assumption,(by exact .inl ⟨(by(simp_all[tP];done)),rfl,rfl,rfl,rfl⟩),by assumption⟩
def yR(lm ac:Int)(kb:List (Int×En))(ci:Int)(p:Pk)(m:En):Prop:=cu kb ci=some m∧m.ec.hl=true∧1≤p.qn∧p.qn≤lm∧IntKind.u64.wrap (ac+IntKind.u64.wrap p.qn)≤1099511627776∧qN m.q p
def putE(lm ac:Int)(kb:List (Int×En))(ci:Int)(p:Pk):Int:=
 match cu kb ci with
 |none=>23
 |some m=>if m.ec.hl=false then 29 else if p.qn<1∨lm<p.qn then 26 else if 1099511627776<IntKind.u64.wrap (ac+IntKind.u64.wrap p.qn) then 28 else 30
def yW(kc:List (Int×Cl))(lm now ci:Int)(p:Pk)(er:Int)(kb:List (Int×En))(ym:List (Int×Pl))(on:List (Int×Int))(ka:List (Int×MB))(et:T)(ek:List (Int×It))(kk:List (Int×Vt))(ac:Int)(kb':List (Int×En))(on':List (Int×Int))(ka':List (Int×MB))(et':T)(ek':List (Int×It))(kk':List (Int×Vt))(ac':Int):Prop:=
 (er≠0∧(∀m,¬yR lm ac kb ci p m)∧ac'=ac∧(kb'=kb∨ ∃m q e,cu kb ci=some m∧kH m.q p q e∧e≠0∧kb'=dC kb ci {m with q:=q})∧on'=on∧ka'=ka∧et'=et∧ek'=ek∧kk'=kk∧er=putE lm ac kb ci p)∨
 (er=0∧ac'=IntKind.u64.wrap (ac+IntKind.u64.wrap p.qn)∧ ∃m q,yR lm ac kb ci p m∧kH m.q p q 0∧
  (((qC q).length=1∧yP kc now p.qn ci {m with q:=q} (dC kb ci {m with q:=q}) ym on ka et ek kk kb' on' ka' et' ek' kk')∨((qC q).length≠1∧kb'=dC kb ci {m with q:=q}∧on'=on∧ka'=ka∧et'=et∧ek'=ek∧kk'=kk)))
theorem AM{c:Nat}(h:fH kc kb)(hm:cu kb i=some m)(hc:m.qb=some c)(hq:j7 q):fH kc (dC kb i {m with q:=q}):=
 xU h hm rfl ⟨((h i).2 m hm).lf,fun e=>(by rw[show m.qb=none from e] at hc;cases hc),fun _=>hq⟩
theorem zb{r:Qu}{p:Pk}{e:Int}(h:kH q p r e):(qN q p↔e=0):=by
 rcases h with⟨-,-,-,⟨h1,h2,-⟩|⟨h1,h2,-⟩⟩
 ·exact⟨fun _=>h2,fun _=>h1⟩
 ·exact⟨fun h=>absurd h h1,fun h=>by omega⟩
theorem Hz{r:Qu}{p:Pk}{e:Int}(h:kH q p r e)(he:e=0):kH q p r 0:=he▸h
abbrev BN(p0)(p1:Pk):=(u_ (IntKind.u64.wrap<|p0+(IntKind.u64.wrap<|p1.qn)):Value)
abbrev BO(p0)(p1)(p2)(p3)(p4)(p5:Ac)(p6:Vt)(p7)(p8)(p9)(p10)(p11)(p12)(p13)(p14)(p15)(p16)(p17):=([cw p0 [i_ p1,i_ p2,p_ p3,.map<|some p4,p_ p5.bs,p_ p6.be,.map<|some p7,u_ p8,u_ p9] 141,cw p3 [.map<|some p10] 185,dy p10 p11,eT p4 p12,fE p5 p13 p14,fY p6 p15 p16,ep p7 p17]:List V.dB)
theorem Tq(sb:Nat)(lt lm:Int)(bt mc:Nat)(kc:List (Int×Cl))(my:Nat)(kb:List (Int×En))(a:Ac)(on:List (Int×Int))(ka:List (Int×MB))(tl:Vt)(et:T)(ek:List (Int×It))(mk:Nat)(kk:List (Int×Vt))(ck ac:Int)(now ci:Int)(p:Pk)(hL:dr kc)(hB:fH kc kb)(hK:jg kc 600 kk)(hy:a.ym=fO kc)(hE:dq et ek)(hl:ek.length≤600)(hlm:lm≤16384)(hk1:ck≤now)(hk2:now≤4611686018427387904)(w:World)(hs:HI w (BO sb lt lm bt my a tl mk ck ac mc kc kb on ka et ek kk)):
  CT Tryz.prog 76 #[p_ sb,u_ now,i_ ci,.agg (gn p).toArray] w (BO sb lt lm bt my a tl mk ck ac mc kc kb on ka et ek kk) (fun((er,kb',on',ka',et',ek',kk',ac'):Int×(List<|Int×En)×(List<|Int×Int)×(List<|Int×MB)×T×(List<|Int×It)×(List<|Int×Vt)×Int)=>(i_ er)) (fun(er,kb',on',ka',et',ek',kk',ac')=>yW kc lm now ci p er kb a.ym on ka et ek kk ac kb' on' ka' et' ek' kk' ac') fun(er,kb',on',ka',et',ek',kk',ac')=>(BO sb lt lm bt my a tl mk now ac' mc kc kb' on' ka' et' ek' kk'):=by
 refine A.C Tryz.func76 rfl hs (A.c<|A.n1 [.al,.p] [3] (fun b1=>[(7,p_ b1)]) (fun b1=>cw b1 (gn p) 45) ?_)
 intro b1
 refine A.d<|A.y<|A.c<|A.g (ps 3) [] [(12,b_ false)]<|A.cf<|A.c<|A.N [.p,.p] [12] [(16,p_ sb),(17,u_ now)]<|A.j<|A.I (some 18) [0] (fun w s h=>Hv sb lt lm bt my a.bs tl.be mk ck ac now ‹_› ‹_› w h) ?_
 rintro⟨⟩-
 refine A.g [.p,.p] [16,17,18] [(15,b_ false)]<|A.cf<|A.p<|A.c<|A.gm [.p,.p,.p,.ld 0,.p] [2,15] [(24,.map<|some my),(25,i_ ci)] [sb] ?_
 rcases hk2:cu kb ci with _|m2
 ·refine A.j<|A.u (some 26) (.tuple #[n_,b_ false]) (LO (kt:=3) (et:=167) (enck:=(fun k:Int=>i_ k)) (encv:=(fun m:En=>p_ m.eb)) (b:=my) (kv:=kb) (k:=ci) (fun w s=>mT<|s.mem (i:=3) rfl) hk2 rfl rfl rfl (by kernel_rfl) (ee<|by kernel_rfl) (by kernel_rfl) rfl)<|A.g (ps 5) [24,25,26] [(9,n_),(10,b_ false)]<|A.d<|A.y<|A.c<|A.g (ps 3) [10] [(29,b_ true)]<|A.ct<|A.c<|A.g [.p] [0,1,7,9,29] [(8,i_ 23)]<|A.e<|A.Y [0,0,0,0,0,0,0] [i_ 23] (23,kb,on,ka,et,ek,kk,ac) ?_ ?_
  ·rfl
  exact .inl ⟨by decide,(fun m_ h_=>by obtain⟨h1_,h2_,h3_,h4_,h5_,h6_⟩:=h_;(simp_all;done)),rfl,.inl rfl,rfl,rfl,rfl,rfl,rfl,(by unfold putE;simp_all<;>omega)⟩
 refine A.j<|A.u (some 26) (.tuple #[p_ m2.eb,b_ true]) (jr (kt:=3) (et:=167) (k:=ci) (fun w s=>mT<|s.mem (i:=3) rfl) hk2 rfl rfl rfl (by kernel_rfl) (ee<|by kernel_rfl) rfl)<|A.g (ps 5) [24,25,26] [(9,p_ m2.eb),(10,b_ true)]<|A.d<|A.y<|A.c<|A.g (ps 3) [10] [(29,b_ false)]<|A.cf<|A.c<|A.k [.p,.p,.p,.p,.rd [b_ m2.ec.hl],.p,.p] [29] [(32,b_ (!m2.ec.hl))] [] (o1<|ro ⟨m2.eb,3,none⟩ (vs:=[b_ m2.ec.hl])<|fi (fun w s=>(fy (s.mem (i:=3) rfl) hk2:)) rfl)<|A.v rfl (fun e2=>?_) (fun e2=>?_)
 ·refine A.c<|A.g [.p] [0,1,7,9,32] [(8,i_ 29)]<|A.e<|A.Y [0,0,0,0,0,0,0] [i_ 29] (29,kb,on,ka,et,ek,kk,ac) ?_ ?_
  ·rfl
  exact .inl ⟨by decide,(fun m_ h_=>by obtain⟨h1_,h2_,h3_,h4_,h5_,h6_⟩:=h_;(simp_all;done)),rfl,.inl rfl,rfl,rfl,rfl,rfl,rfl,(by unfold putE;simp_all<;>omega)⟩
 refine A.d<|A.dA [.p,.ld 7,.p,.p,.o,.p,.ld 7,.p,.p,.p,.p,.ld 0,.p,.cl,.p] (rg 0 14) [32] [(39,b_<|(decide (p.qn<1))||(decide (p.qn>lm)))] [b1,b1,sb] T0 trivial<|A.v rfl (fun e3=>?_) (fun e3=>?_)
 ·refine A.c<|A.g [.p] [0,1,7,9,39] [(8,i_ 26)]<|A.e<|A.Y [0,0,0,0,0,0,0] [i_ 26] (26,kb,on,ka,et,ek,kk,ac) ?_ ?_
  ·rfl
  exact .inl ⟨by decide,(fun m_ h_=>by obtain⟨h1_,h2_,h3_,h4_,h5_,h6_⟩:=h_;(simp_all;omega)),rfl,.inl rfl,rfl,rfl,rfl,rfl,rfl,(by unfold putE;simp_all<;>omega)⟩
 have p3:=e3;try simp only[dc] at p3
 refine A.d<|A.dA [.p,.p,.p,.ld 0,.p,.ld 7,.p,.p,.p,.p] (rg 0 10) [39] [(53,b_<|decide ((IntKind.u64.wrap<|ac+(IntKind.u64.wrap<|p.qn))>1099511627776))] [sb,b1] T0 trivial<|A.v rfl (fun e4=>?_) (fun e4=>?_)
 ·have p4:=of_decide_eq_true e4
  refine A.c<|A.g [.p] [0,1,7,9,53] [(8,i_ 28)]<|A.e<|A.Y [0,0,0,0,0,0,0] [i_ 28] (28,kb,on,ka,et,ek,kk,ac) ?_ ?_
  ·rfl
  exact .inl ⟨by decide,(fun m_ h_=>by obtain⟨h1_,h2_,h3_,h4_,h5_,h6_⟩:=h_;(simp_all;omega)),rfl,.inl rfl,rfl,rfl,rfl,rfl,rfl,(by unfold putE;simp_all<;>omega)⟩
 have p4:=of_decide_eq_false e4
 refine A.p<|A.d<|A.d ?_
 have hEO:=(hB _).2 _ hk2
 obtain⟨cq,hcq⟩:=Option.isSome_iff_exists.1<|hEO.lf.1<|by(simp_all;done)
 refine A.O [5] 7<|A.kd 2 [.p,.p,.p,.rd [qp m2.qb],.ld 7] (rg 0 5) [53] [(66,qp m2.qb),(67,.agg (gn p).toArray)] [b1] (o1<|ro ⟨m2.eb,0,none⟩ (vs:=[qp m2.qb])<|fi (fun w s=>(fy (s.mem (i:=3) rfl) hk2:)) rfl)<|A.F 5 rfl (A.I (some 68) [3] (fun w s h=>QL my kb ci m2 (qp m2.qb) cq p hk2 ‹_› (by rfl) ‹_› (by omega) w h) ?_)
 rintro⟨q'3,er4⟩ hz5
 refine A.E<|A.dT 0 [.p] [6] [66,67,68] [(11,i_ er4)] []<|A.M<|A.c<|A.g [.p,.p] [] [(70,b_<|er4 !=0)]<|A.v rfl (fun e6=>?_) (fun e6=>?_)
 ·have p6:=e6;try simp only[dc] at p6
  refine A.c<|A.g [.p,.p] [0,1,7,9,11,70] [(8,i_ er4)]<|A.e<|A.Y [1,1,1,0,0,0,0] [i_ er4] (er4,dC kb ci {m2 with q:=q'3},on,ka,et,ek,kk,ac) ?_ ?_
  ·rfl
  exact .inl ⟨by assumption,(fun m_ h_=>by obtain⟨h1_,h2_,h3_,h4_,h5_,h6_⟩:=h_;have h7_:=zb (by assumption:kH _ _ _ _);simp_all),rfl,.inr ⟨_,_,_,by assumption,by assumption,by assumption,rfl⟩,rfl,rfl,rfl,rfl,rfl,(by have h7_:er4=30:=(by rcases(by assumption:kH _ _ _ _) with⟨-,-,-,⟨-,h_,-⟩|⟨-,h_,-⟩⟩;exact absurd h_ (by assumption);exact h_);rw[h7_];unfold putE;simp_all<;>omega)⟩
 have p6:=e6;try simp only[dc] at p6
 refine A.p<|A.d<|A.O [10] 11<|A.dT 1 [.p,.p,.p,.ld 1,.p,.ld 7,.p,.p,.p,.p] (rg 0 10) [11,70] [(79,BN ac p),(81,q_ sb 8)] [sb,b1]<|A.F 10 rfl (A.ai 1 (vs:=[BN ac p]) [eT my<|dC kb ci {m2 with q:=q'3},cw sb [i_ lt,i_ lm,p_ bt,.map<|some my,p_ a.bs,p_ tl.be,.map<|some mk,u_ now,BN ac p] 141,cw bt [.map<|some mc] 185,dy mc kc,fE a on ka,fY tl et ek,ep mk kk,cw b1 (gn p) 45] (by kernel_rfl) rfl rfl rfl rfl (by kernel_rfl) rfl rfl (by kernel_rfl) rfl (A.E<|A.M<|A.d<|A.d ?_))
 have hB1:fH kc (dC kb ci {m2 with q:=q'3}):=AM hB hk2 hcq (by assumption:kH _ _ _ _).1
 obtain⟨mx,hmx⟩: ∃m_:En,m_=({m2 with q:=q'3}:En):=⟨_,rfl⟩
 have hkx:cu (dC kb ci {m2 with q:=q'3}) ci=some mx:=hmx▸jM _ _ _
 have hEX:=(hB1 _).2 _ hkx
 refine A.D 9 (p_ mx.eb) (congrArg (fun z_=>some<|p_ z_)<|by rw[hmx])<|A.s<|A.k [.p,.p,.p,.rd [qp mx.qb],.cq<|i_ ((qC mx.q).length:Int),.p] [79,81] [(87,b_<|((qC mx.q).length:Int)==1)] [] (oc (ro ⟨mx.eb,0,none⟩ (vs:=[qp mx.qb])<|fi (fun w s=>(fy (s.mem (i:=0) rfl) hkx:)) rfl)<|o1<|qo<|fun w s=>uq my (dC kb ci {m2 with q:=q'3}) ci mx (qp mx.qb) hkx (by rfl) ‹_› w (s.mem (i:=0) rfl))<|A.v rfl (fun e7=>?_) (fun e7=>?_)
 ·have p7:=e7
  refine A.s<|A.gm [.p,.p,.p,.p,.ld 7] [0,1,7,9,87] [(88,p_ sb),(89,u_ now),(90,p_ mx.eb),(92,i_ p.qn)] [b1]<|A.j<|A.I (some 93) [1,1,1,0,0,0,0] (fun w s h=>OK sb lt lm bt mc kc my (dC kb ci {m2 with q:=q'3}) a on ka tl et ek mk kk now (IntKind.u64.wrap<|ac+(IntKind.u64.wrap<|p.qn)) now ci mx p.qn hkx ‹_› ‹_› ‹_› ‹_› ‹_› ‹_› w h) ?_
  rintro⟨kb'5,on'6,ka'7,et'8,ek'9,kk'10⟩ hz8
  refine A.aB<|A.c<|A.g [.p] [88,89,90,92,93] [(8,i_ 0)]<|A.e<|A.Y [0,0,0,0,0,0,0] [i_ 0] (0,kb'5,on'6,ka'7,et'8,ek'9,kk'10,IntKind.u64.wrap<|ac+(IntKind.u64.wrap<|p.qn)) ?_ ?_
  ·rfl
  (subst hmx;exact .inr ⟨rfl,rfl,_,_,⟨by assumption,by(simp_all;done),by(simp_all;done),by(simp_all;done),by(simp_all;done),(zb (by assumption:kH _ _ _ _)).2 (by(simp_all;done))⟩,Hz ‹_› ‹_›,.inl ⟨by(simp_all;omega),by assumption⟩⟩)
 refine A.p<|A.c<|A.g [.p] [0,1,7,9,87] [(8,i_ 0)]<|A.e<|A.Y [1,1,1,0,0,0,0] [i_ 0] (0,dC kb ci {m2 with q:=q'3},on,ka,et,ek,kk,IntKind.u64.wrap<|ac+(IntKind.u64.wrap<|p.qn)) ?_ ?_
 ·rfl
 (subst hmx;exact .inr ⟨rfl,rfl,_,_,⟨by assumption,by(simp_all;done),by(simp_all;done),by(simp_all;done),by(simp_all;done),(zb (by assumption:kH _ _ _ _)).2 (by(simp_all;done))⟩,Hz ‹_› ‹_›,.inr ⟨by(simp_all;omega),rfl,rfl,rfl,rfl,rfl,rfl⟩⟩)
def jh(et:T)(kk:List (Int×Vt)):Int:=dS (nG et.toL)<|i9<|(((cu kk 0).map fun v:Vt=>v.t.toL).getD [])
def D2:Du:=⟨false,0,0,0,0,0,0,0,0,false,0,0,0,0,0,0,0,0,false,0,0,0⟩
theorem QW(k r:Int)(h1:1≤k)(h2:k≤64)(h3:1≤r∧r≤1048576)(w:World)(hs:HS w (dE []) [] w):Calls Tryz.prog 108 #[i_ k,i_ r] w fun e w'=> ∃zz:Nat×Qu,e= .returned (.tuple #[p_ zz.1,i_ 0])∧(j7 zz.2∧qC zz.2=[]∧zz.2.rm=r∧zz.2.bs=0∧(zz.2.sx.length:Int)=k)∧Turn [] [ig (some zz.1) zz.2] w w':=by
 obtain⟨m,rfl⟩:=Int.eq_ofNat_of_zero_le (show 0≤k by omega)
 refine(T9 m r (by omega) (by omega) h3 w hs).mono ?_
 rintro e w' ⟨zz,a1,⟨a2,a3,a4,a5,a6⟩,a7⟩
 exact⟨zz,a1,⟨a2,a3,a4,a5,by rw[a6]⟩,a7⟩
def IA(c:Cl)(q:Qu):Prop:=j7 q∧qC q=[]∧q.rm=c.hq∧q.bs=0∧(q.sx.length:Int)=c.hk
theorem QX(sb:Nat)(lt lm:Int)(bt mc:Nat)(kc:List (Int×Cl))(my:Nat)(kb:List (Int×En))(a:Ac)(on:List (Int×Int))(ka:List (Int×MB))(tl:Vt)(et:T)(ek:List (Int×It))(mk:Nat)(kk:List (Int×Vt))(ck ac:Int)(hE:dq et ek)(hv0: ∃v,cu kk 0=some v∧dq v.t v.kv)(w:World)(r0:(cw sb [i_ lt,i_ lm,p_ bt,.map<|some my,p_ a.bs,p_ tl.be,.map<|some mk,u_ ck,u_ ac] 141).holds w)(r1:(cw bt [.map<|some mc] 185).holds w)(r2:(dy mc kc).holds w)(r3:(eT my kb).holds w)(r4:(fE a on ka).holds w)(r5:(fY tl et ek).holds w)(r6:(ep mk kk).holds w):
  CW 119 #[p_ sb] w (u_<|jh et kk):=by
 refine A.C Tryz.func119 rfl (HS.nil w) (A.c<|A.g [.p] [] []<|A.d<|A.c<|A.g [.p,.p] [] [(4,b_ false)]<|A.cf<|A.p<|A.d ?_)
 obtain⟨m1,hk1,hER1⟩:=hv0
 refine A.O [] 13<|A.kd 4 [.p,.p,.p,.rd [p_ tl.be],.cq<|u_<|nG et.toL,.p,.p,.p,.rd [.map<|some mk]] (rg 0 9) [0,4] [(9,u_<|nG et.toL),(13,.map<|some mk)] [] (oc (ro ⟨sb,5,none⟩ (vs:=[p_ tl.be])<|df r0 rfl)<|oc (qo<|fun w s=>QP tl et ek ‹_› w (d6 s r5))<|o1<|ro ⟨sb,6,none⟩ (vs:=[.map<|some mk])<|df r0 rfl)<|A.aR 9 (some 14) (p_ m1.be) rfl (by kernel_rfl) (by kernel_rfl) (jr (kt:=3) (et:=136) (k:=0) (fun w s=>oZ<|d6 s r6) hk1 rfl rfl rfl (by kernel_rfl) (ee<|by kernel_rfl) rfl) (A.pO 0 [.cq<|u_<|i9 m1.t.toL,.p,.p] [10,11,12] [(2,u_<|dS (nG et.toL)<|i9 m1.t.toL)] [] (o1<|qo<|fun w s=>JL mk kk 0 m1 hk1 ‹_› w (d6 s r6))<|A.M<|A.e<|A.W [u_<|dS (nG et.toL)<|i9 m1.t.toL] ?_)
 show((u_<|dS (nG et.toL)<|i9 m1.t.toL):Value)=(u_<|jh et kk)
 unfold jh;simp_all
theorem OP(c:Cl)(hl:c.hl=true)(h1:1≤c.hk)(h2:c.hk≤64)(h3:1≤c.hq∧c.hq≤1048576):
  CS 73 #[.agg (dx c).toArray] [] (fun((xb,bq,q):Nat×Nat×Qu)=>(p_ xb)) (fun(xb,bq,q)=>IA c q) fun(xb,bq,q)=>[cw xb [p_ bq,i_ c.hi,i_ c.hp,b_ c.hl,u_ c.ra,u_ c.rb,u_ c.rc,u_ c.la,u_ c.lb,u_ c.lc,u_ c.ua,u_ c.ub,u_ c.uc,i_ c.hk,i_ c.hq,u_ 0,b_ false,u_ 0,u_ 0,u_ 0,u_ 0,u_ 0,u_ 0,u_ 0,u_ 0,b_ false,u_ 0,u_ 0,u_ 0,u_ 0,u_ 0,u_ 0,u_ 0,u_ 0,b_ false,u_ 0,u_ 0,u_ 0,b_ false,u_ 0,u_ 0,u_ 0,u_ 0,u_ 0,u_ 0,u_ 0,u_ 0,b_ false,u_ 0,b_ false,u_ 0,u_ 0,u_ 0,u_ 0,u_ 0,u_ 0,u_ 0,u_ 0,b_ false,u_ 0] 225,ig (some bq) q]:=by
 intro w hs
 refine A.C Tryz.func73 rfl hs (A.c<|A.n1 [.al,.p] [0] (fun b1=>[(1,p_ b1)]) (fun b1=>cw b1 (dx c) 62) ?_)
 intro b1
 refine A.c<|A.g1 [.ld 0,.p,.al,.p] [] (fun b2=>[(3,p_ b2)]) (fun b2=>[]) (fun b2=>cw b2 [n_,i_ c.hi,i_ c.hp,b_ c.hl,u_ c.ra,u_ c.rb,u_ c.rc,u_ c.la,u_ c.lb,u_ c.lc,u_ c.ua,u_ c.ub,u_ c.uc,i_ c.hk,i_ c.hq,u_ 0,b_ false,u_ 0,u_ 0,u_ 0,u_ 0,u_ 0,u_ 0,u_ 0,u_ 0,b_ false,u_ 0,u_ 0,u_ 0,u_ 0,u_ 0,u_ 0,u_ 0,u_ 0,b_ false,u_ 0,u_ 0,u_ 0,b_ false,u_ 0,u_ 0,u_ 0,u_ 0,u_ 0,u_ 0,u_ 0,u_ 0,b_ false,u_ 0,b_ false,u_ 0,u_ 0,u_ 0,u_ 0,u_ 0,u_ 0,u_ 0,u_ 0,b_ false,u_ 0] 225) (fun b2=>[b1]) ?_
 intro b2
 refine A.d<|A.c<|A.gl [.p,.ld 0] [] [(8,b_ c.hl)] [b1]<|A.cn c.hl (fun e1=>?_)<|fun e1=>?_
 ·refine A.s<|A.gm [.p,.p,.ld 0,.p,.ld 0] [1,8] [(10,p_ b2),(12,i_ c.hk),(14,i_ c.hq)] [b1,b1]<|A.j<|A.I (some 15) [] (fun w s h=>QW c.hk c.hq ‹_› ‹_› ‹_› w h) ?_
  rintro⟨bq3,q4⟩ hz2
  refine A.gs [.p,.p,.p,.p,.p,.st 2] [10,12,14,15] [] [(2,cw b2 [p_ bq3,i_ c.hi,i_ c.hp,b_ c.hl,u_ c.ra,u_ c.rb,u_ c.rc,u_ c.la,u_ c.lb,u_ c.lc,u_ c.ua,u_ c.ub,u_ c.uc,i_ c.hk,i_ c.hq,u_ 0,b_ false,u_ 0,u_ 0,u_ 0,u_ 0,u_ 0,u_ 0,u_ 0,u_ 0,b_ false,u_ 0,u_ 0,u_ 0,u_ 0,u_ 0,u_ 0,u_ 0,u_ 0,b_ false,u_ 0,u_ 0,u_ 0,b_ false,u_ 0,u_ 0,u_ 0,u_ 0,u_ 0,u_ 0,u_ 0,u_ 0,b_ false,u_ 0,b_ false,u_ 0,u_ 0,u_ 0,u_ 0,u_ 0,u_ 0,u_ 0,u_ 0,b_ false,u_ 0] 225)] [b2]<|A.c<|A.g [.p,.p] [3] [(2,p_ b2)]<|A.e<|A.Y [2,0] [p_ b2] (b2,bq3,q4) ?_ ?_
  ·rfl
  assumption
 exact absurd e1<|by(intro h_;simp_all)
theorem Tt(c:Cl)(hl:c.hl=false):
  CS 73 #[.agg (dx c).toArray] [] (fun(xb:Nat)=>(p_ xb)) (fun _=>True) fun xb=>[cw xb [n_,i_ c.hi,i_ c.hp,b_ c.hl,u_ c.ra,u_ c.rb,u_ c.rc,u_ c.la,u_ c.lb,u_ c.lc,u_ c.ua,u_ c.ub,u_ c.uc,i_ c.hk,i_ c.hq,u_ 0,b_ false,u_ 0,u_ 0,u_ 0,u_ 0,u_ 0,u_ 0,u_ 0,u_ 0,b_ false,u_ 0,u_ 0,u_ 0,u_ 0,u_ 0,u_ 0,u_ 0,u_ 0,b_ false,u_ 0,u_ 0,u_ 0,b_ false,u_ 0,u_ 0,u_ 0,u_ 0,u_ 0,u_ 0,u_ 0,u_ 0,b_ false,u_ 0,b_ false,u_ 0,u_ 0,u_ 0,u_ 0,u_ 0,u_ 0,u_ 0,u_ 0,b_ false,u_ 0] 225]:=by
 intro w hs
 refine A.C Tryz.func73 rfl hs (A.c<|A.n1 [.al,.p] [0] (fun b1=>[(1,p_ b1)]) (fun b1=>cw b1 (dx c) 62) ?_)
 intro b1
 refine A.c<|A.g1 [.ld 0,.p,.al,.p] [] (fun b2=>[(3,p_ b2)]) (fun b2=>[]) (fun b2=>cw b2 [n_,i_ c.hi,i_ c.hp,b_ c.hl,u_ c.ra,u_ c.rb,u_ c.rc,u_ c.la,u_ c.lb,u_ c.lc,u_ c.ua,u_ c.ub,u_ c.uc,i_ c.hk,i_ c.hq,u_ 0,b_ false,u_ 0,u_ 0,u_ 0,u_ 0,u_ 0,u_ 0,u_ 0,u_ 0,b_ false,u_ 0,u_ 0,u_ 0,u_ 0,u_ 0,u_ 0,u_ 0,u_ 0,b_ false,u_ 0,u_ 0,u_ 0,b_ false,u_ 0,u_ 0,u_ 0,u_ 0,u_ 0,u_ 0,u_ 0,u_ 0,b_ false,u_ 0,b_ false,u_ 0,u_ 0,u_ 0,u_ 0,u_ 0,u_ 0,u_ 0,u_ 0,b_ false,u_ 0] 225) (fun b2=>[b1]) ?_
 intro b2
 refine A.d<|A.c<|A.gl [.p,.ld 0] [] [(8,b_ c.hl)] [b1]<|A.cn c.hl (fun e1=>?_)<|fun e1=>?_
 ·exact absurd e1<|by(intro h_;simp_all)
 refine A.p<|A.c<|A.g [.p,.p] [1,3,8] [(2,p_ b2)]<|A.e<|A.Y [1] [p_ b2] (b2) ?_ ?_
 ·rfl
 trivial
theorem E4{a b:List V.dB}(h:a.Perm b):(dE a).Perm (dE b):=h.flatMap_right _
def u9(c:Cl)(m:En):Prop:=m.ec=c∧kQ m∧m.tot=0∧m.du=D2∧m.sh=mB∧m.li=q7∧(c.hl=true→IA c m.q)∧(c.hl=false→m.q=default)
def Us(m:En):V.dB:=co<|fz m
theorem OQ(c:Cl)(h:c.hl=true→(1≤c.hk∧c.hk≤64)∧1≤c.hq∧c.hq≤1048576)(w:World)(hs:HS w (dE []) [] w):Calls Tryz.prog 73 #[.agg (dx c).toArray] w fun e w'=> ∃zz:En,e= .returned (p_ zz.eb)∧u9 c zz∧Turn [] [Us zz] w w':=by
 cases hl:c.hl with
 |true=>
  obtain⟨⟨h1,h2⟩,h3,h4⟩:=h hl
  refine(OP c hl h1 h2 ⟨h3,h4⟩ w hs).mono ?_
  rintro e w' ⟨⟨xb,bq,q⟩,a1,a2,a3⟩
  refine⟨⟨xb,some bq,q,c,0,D2,mB,q7⟩,a1,⟨rfl,⟨by simp[hl],by simp,fun _=>a2.1⟩,rfl,rfl,rfl,rfl,fun _=>a2,fun h=>(by rw[hl] at h;cases h)⟩,?_⟩
  refine Turn.coR (Y:=[]) ?_
  rw[List.append_nil]
  have e: ∀x y:V.dB,([x,y]:List V.dB).Perm [y,x]:=fun x y=> .swap _ _ _
  exact⟨a3.fr,fun it hi=>a3.all it<|(e _ _).mem_iff.1 hi,(E4<|e _ _).nodup_iff.2 a3.nodup,fun b hb=>a3.own b<|(E4<|e _ _).mem_iff.1 hb⟩
 |false=>
  refine(Tt c hl w hs).mono ?_
  rintro e w' ⟨xb,a1,-,a3⟩
  refine⟨⟨xb,none,default,c,0,D2,mB,q7⟩,a1,⟨rfl,⟨by simp[hl],fun _=>rfl,by simp⟩,rfl,rfl,rfl,rfl,fun h=>(by rw[hl] at h;cases h),fun _=>rfl⟩,?_⟩
  refine Turn.coR (Y:=[]) ?_
  rw[List.append_nil]
  refine⟨a3.fr,fun it hi=>?_,?_,?_⟩
  ·simp only[fz,List.mem_cons,List.not_mem_nil,or_false] at hi
   rcases hi with rfl|rfl
   ·intro it hi;cases hi
   ·exact a3.all _<|List.mem_singleton.2 rfl
  ·exact a3.nodup
  ·exact a3.own
end Go.Proofs.YtobgjpigngoggaaGreat
namespace Go.Proofs.YtobgjpigngoggaaGreat.V
open Go
theorem Pj{L R:List Value}{off m N:Nat}(h1:m≤N)(h2:off+N≤L.length)(hR:R.length=N-m):((L.take (off+m)++R++L.drop (off+m+R.length)).drop off).take N=((L.drop off).take N).take m++R:=by
 apply List.ext_getElem?
 intro i
 simp only[List.getElem?_take,List.getElem?_drop,List.getElem?_append,List.length_append,List.length_take,List.length_drop,hR]
 by_cases a:i<m
 ·rw[if_pos<|by omega,if_pos<|by omega,if_pos<|by omega,if_pos<|by omega,if_pos<|by omega,if_pos<|by omega,if_pos<|by omega]
 ·by_cases b:i<N
  ·rw[if_pos b,if_pos<|by omega,if_neg<|by omega,if_neg<|by omega]
   congr 1;omega
  ·rw[if_neg b,if_neg<|by omega]
   exact(List.getElem?_eq_none<|by omega).symm
section
variable{P:Program}{n:Nat}{env:dM}{w0:World}{S:List Nat}{H R H':List dB}{ops:Array Oper}{o:Oper}{K:Act→World→Prop}
theorem A.cR{α:Type}(i m:Nat){t ty:TypeId}{x:Operand}{A:Option Addr}{c:Nat}{z:Value}{enc:α→List Value}{xs:List α}(z0:α)(H':List dB)(hok:gC ops n env o none=true)(ho:o.op= .call {callee:= .builtin .clear,args:=#[x],argTypes:=#[t]})
  (hx:ev env x=some (.slice (iE A c m 1) (xs.drop m).length (c-m)))(ht:P.underlying t=some (.slice ty))(hz:(P.info? ty).bind (·.zero)=some z)(hzc:z.cells=#[z])(h1:z.oneCell'=true)(he0:enc z0=[z])(he: ∀x,(enc x).length=1)(hm:m<xs.length)
  (hi:H[i]? =some (sl A xs.length c ty 1<|dF enc xs))(hH:H.set i (sl A (xs.take m++List.replicate (xs.length-m) z0).length c ty 1 (dF enc<|xs.take m++List.replicate (xs.length-m) z0))=H')(h:V.A n env w0 S H' K):V.A n env w0 S H (eG P ops o K):=by
 intro a w r s
 obtain⟨h1',h2,h3,h4⟩:=jU hok
 unfold eG
 rw[if_pos<|i6 r h1']
 have hs:wk A xs.length c ty 1 (dF enc xs) w:=s.mem hi
 obtain⟨q1,q2,q3,⟨rfl,q4⟩|⟨g,off,eA,rfl,hg,hle,htake⟩⟩:=hs
 ·omega
 have hA:iE (some (⟨g,off,none⟩:Addr)) c m 1=some ⟨g,off+m,none⟩:=by
  unfold iE;rw[if_neg<|by omega]
  show some ((⟨g,off,none⟩:Addr).add (m*1))=_
  rw[Nat.mul_one,nX]
 rw[hA,List.length_drop] at hx
 have hcur:eA=eA.toList.toArray:=by simp
 have hh:w.heap[g]? =some (.cells eA.toList.toArray ty (0,0)):=by rw[hg]
 have hv: ∀w,(zeroValue ty).run P w= .ok z w:=fun w=>by
  simp only[Option.bind_eq_some_iff] at hz
  obtain⟨inf,hinf,hz⟩:=hz
  simp[zeroValue,typeInfo,hinf,hz]
 have hst:=run_storeCells_at P g (off+m) ty (List.replicate (xs.length-m) z) 0 eA.toList.toArray w hh (by simp;omega) (fun v hv=>by rw[List.eq_of_mem_replicate hv];exact h1)
 simp only[Nat.add_zero] at hst
 have hzl:(Builtin.zeroCells z.cells<|xs.length-m).toList=List.replicate (xs.length-m) z:=by
  rw[hzc]
  simp[Builtin.zeroCells]
  apply List.ext_getElem
  ·simp
  ·intro i h1 h2
   simp[Nat.mod_one]
 have hrun:(execOp a.eval o).run P w= .ok (.value<|.tuple #[]) (w.setRow g (eA.toList.take (off+m)++List.replicate (xs.length-m) z++eA.toList.drop (off+m+(List.replicate (xs.length-m) z).length)).toArray):=by
  obtain⟨j,hj⟩: ∃j,xs.length-m=j+1:=⟨xs.length-m-1,by omega⟩
  rw[hj] at hx hzl hst⊢
  simp[execOp,ho,resolve,invoke,builtin,r.ev hx,Builtin.clear_,run_underlying ht,hv,hzl]
  simp at hst
  rw[hst];simp
 unfold Oper.wp
 rw[hrun]
 simp only[Oper.upon,h2]
 refine h _ _ r ?_
 rw[←hH]
 have hf: ∀l:List α,(dF enc l).length=l.length:=fun l=>by have:=pY (sz:=1) he (xs:=l);omega
 refine s.turn hi (uE _ _ _) ?_ (by simp[sl,fq])<|fun b hb=> .inl hb
 have hln:(xs.take m++List.replicate (xs.length-m) z0).length=xs.length:=by simp;omega
 refine⟨by rw[hf];omega,by rw[hln];exact q2,q3,.inr ⟨g,off,_,rfl,uF w g _ _ ty hh,by simp;omega,?_⟩⟩
 rw[hln]
 have e2:dF enc (xs.take m++List.replicate (xs.length-m) z0)=(dF enc xs).take m++List.replicate (xs.length-m) z:=by
  unfold dF
  rw[List.flatMap_append]
  congr 1
  ·have: ∀(l:List α)(m:Nat),(l.take m).flatMap enc=(l.flatMap enc).take m:=fun l=>by
    induction l with
    |nil=>simp
    |cons y l ih=>
     intro m
     cases m with
     |zero=>simp
     |succ m=>
      obtain⟨v,hv⟩:=List.length_eq_one_iff.1<|he y
      simp[hv,ih]
   exact this xs m
  ·have: ∀j:Nat,(List.replicate j z0).flatMap enc=List.replicate j z:=fun j=>by
    induction j with
    |zero=>rfl
    |succ j ih=>rw[List.replicate_succ,List.flatMap_cons,ih,he0];rfl
   exact this _
 rw[e2,←htake]
 show((List.toArray _).toList.drop off).take _=_
 simp only[List.toList_toArray,Nat.mul_one]
 exact Pj (by omega) (by simpa using(by omega:off+xs.length≤eA.size))<|by simp
end
section
variable{P:Program}{n:Nat}{env:dM}{w0:World}{S:List Nat}{H R H':List dB}{G:Act→World→Prop}{β:Type}{f:β→List dB}{kv:List (Int×β)}{k:Int}{m:β}{ek:Int→Value}{ev:β→Value}{b:Nat}
theorem uT(k:Int): ∀kv:List (Int×β),List.Sublist (dJ kv k) kv
 |[]=>by simp[dJ]
 |p::kv=>by
  unfold dJ;split
  ·exact List.sublist_cons_self _ _
  ·exact(uT k kv).cons_cons p
theorem GL{kw:List (Int×β)}(h:List.Sublist kv kw):List.Sublist (lE f kv) (lE f kw):=by
 induction h with
 |slnil=>exact .refl _
 |cons a h ih=>simp only[lE,List.flatMap_cons] at ih⊢;exact ih.trans<|List.sublist_append_right _ _
 |cons_cons a h ih=>simp only[lE,List.flatMap_cons] at ih⊢;exact(List.Sublist.refl _).append ih
theorem A.cD(is:List Nat)(hp:gI is H=some ([dY ek ev b<|dJ kv k,eP f kv],R))(hH:co [dY ek ev b<|dJ kv k,eP f<|dJ kv k]::R=H')(h:V.A n env w0 S H' G):V.A n env w0 S H G:=
 A.bB is (fun _:Unit=>True) (fun _=>[co [dY ek ev b<|dJ kv k,eP f<|dJ kv k]]) (fun _=>H') hp (fun w hs=>by
  have hsub:List.Sublist (dE [co [dY ek ev b<|dJ kv k,eP f<|dJ kv k]]) (dE [dY ek ev b<|dJ kv k,eP f kv]):=by
   simp only[dE,co,eP,dY,List.flatMap_cons,List.flatMap_nil,List.append_nil]
   exact(List.Sublist.refl [b]).append (GL<|uT k kv)
  refine⟨(),trivial,fun it hi=>?_,hs.nodup.sublist hsub,fun c hc=>hsub.subset hc⟩
  rw[List.mem_singleton] at hi;subst hi
  intro it hi
  simp only[List.mem_cons,List.not_mem_nil,or_false] at hi
  rcases hi with rfl|rfl
  ·exact hs.all _<|by simp
  ·exact fun p hq=>(show(eP f kv).holds w from hs.all _<|by simp) p<|(uT k kv).subset hq) (fun _=>by simpa using hH) (fun _ _=>h)
theorem A.cJ(is:List Nat)(hp:gI is H=some ([dY ek ev b<|dC kv k m,eP f kv,co<|f m],R))(hH:co [dY ek ev b<|dC kv k m,eP f<|dC kv k m]::R=H')(h:V.A n env w0 S H' G):V.A n env w0 S H G:=
 A.bB is (fun _:Unit=>True) (fun _=>[co [dY ek ev b<|dC kv k m,eP f<|dC kv k m]]) (fun _=>H') hp (fun w hs=>by
  have hmp:=(oh k m kv).flatMap_right (fun p:Int×β=>dE<|f p.2)
  simp only[List.flatMap_cons] at hmp
  have hsub:List.Sublist ([b]++(lE f (dJ kv k)++dE (f m))) (dE [dY ek ev b<|dC kv k m,eP f kv,co<|f m]):=by
   simp only[dE,co,eP,dY,List.flatMap_cons,List.flatMap_nil,List.append_nil]
   exact(List.Sublist.refl [b]).append ((GL<|uT k kv).append (.refl _))
  have hpm:(dE [co [dY ek ev b<|dC kv k m,eP f<|dC kv k m]]).Perm ([b]++(lE f (dJ kv k)++dE (f m))):=by
   simp only[dE,co,eP,dY,lE,List.flatMap_cons,List.flatMap_nil,List.append_nil] at hmp⊢
   exact(List.Perm.refl [b]).append (hmp.trans List.perm_append_comm)
  refine⟨(),trivial,fun it hi=>?_,hpm.nodup_iff.2<|hs.nodup.sublist hsub,fun c hc=>hsub.subset<|hpm.mem_iff.1 hc⟩
  rw[List.mem_singleton] at hi;subst hi
  intro it hi
  simp only[List.mem_cons,List.not_mem_nil,or_false] at hi
  rcases hi with rfl|rfl
  ·exact hs.all _<|by simp
  ·intro p hq it hi
   rcases List.mem_cons.1 ((oh k _ kv).mem_iff.1 hq) with rfl|hq
   ·exact(show(co<|f m).holds w from hs.all _<|by simp) it hi
   ·exact(show(eP f kv).holds w from hs.all _<|by simp) p ((uT k kv).subset hq) it hi) (fun _=>by simpa using hH) (fun _ _=>h)
theorem A.cb(is:List Nat)(hp:gI is H=some ([dY ek ev b []],R))(hH:co [dY ek ev b [],eP f []]::R=H')(h:V.A n env w0 S H' G):V.A n env w0 S H G:=
 A.bH is (Os:=[co [dY ek ev b [],eP f []]]) hp (fun w hw it hi=>by
  rw[List.mem_singleton] at hi;subst hi
  intro it hi
  simp only[List.mem_cons,List.not_mem_nil,or_false] at hi
  rcases hi with rfl|rfl
  ·exact hw _<|by simp
  ·intro p hp;cases hp) (by simp[dE,co,eP,lE,dY]) (by simpa using hH) h
theorem zV{α:Type}{enc:α→List Value}(he: ∀x,(enc x).length=1): ∀(l:List α)(m:Nat),dF enc (l.take m)=(dF enc l).take m
 |[],m=>by simp[dF]
 |y::l,0=>by simp[dF]
 |y::l,m+1=>by
  obtain⟨v,hv⟩:=List.length_eq_one_iff.1<|he y
  have ih:=zV he l m
  unfold dF at ih⊢
  simp[hv,ih]
theorem A.cS{α:Type}(i m:Nat){A:Option Addr}{c:Nat}{t:TypeId}{enc:α→List Value}{xs:List α}(ys:List α)(he: ∀x,(enc x).length=1)(e:xs.take m=ys)(hp:gI [i] H=some ([sl A xs.length c t 1<|dF enc xs],R))(hH:sl A ys.length c t 1 (dF enc ys)::R=H')(h:V.A n env w0 S H' G):V.A n env w0 S H G:=by
 subst e
 refine V.A.bH [i] (Os:=[sl A (xs.take m).length c t 1 (dF enc<|xs.take m)]) hp (fun w hw it hi=>?_) (by simp[dE,sl]) hH h
 rw[List.mem_singleton] at hi;subst hi
 obtain⟨h1,h2,h3,h4⟩:wk A xs.length c t 1 (dF enc xs) w:=hw _<|List.mem_singleton.2 rfl
 have hl:(dF enc<|xs.take m).length=(xs.take m).length*1:=by rw[zV he,List.length_take,h1,List.length_take];omega
 refine⟨hl,by rw[List.length_take];omega,h3,?_⟩
 rcases h4 with h4|⟨g,off,eA,h5,h6,h7,h8⟩
 ·exact .inl h4
 ·refine .inr ⟨g,off,eA,h5,h6,h7,?_⟩
  rw[zV he,←h8,List.take_take,List.length_take]
  congr 1;omega
end
section
variable{P:Program}{n:Nat}{env:dM}{w0:World}{S:List Nat}{H R R2 H':List dB}{ops:Array Oper}{o:Oper}{K:Act→World→Prop}{β:Type}{f:β→List dB}{kv:List (Int×β)}{k:Int}{ek:Int→Value}{ev:β→Value}{b:Nat}
variable{x y:Operand}{t kt et:TypeId}
theorem A.bZ(i:Nat){t2:TypeId}(hok:gC ops n env o none=true)(ho:o.op= .call {callee:= .builtin .delete,args:=#[x,y],argTypes:=#[t,t2]})(hx:V.ev env x=some (.map<|some b))(hy:V.ev env y=some (ek k))
  (ht:P.underlying t=some (.map kt et))(hk:jd P kt ek)(hi:gI [i] H=some ([co [dY ek ev b kv,eP f kv]],R))(hH:co [dY ek ev b<|dJ kv k,eP f<|dJ kv k]::R=H')(h:V.A n env w0 S H' K):V.A n env w0 S H (eG P ops o K):=
 A.bf i hi rfl (A.bD 0 ([dY ek ev b<|dJ kv k,eP f kv]++R) hok ho hx hy ht hk rfl rfl (A.cD [0,0] rfl hH h))
theorem A.bP(i j:Nat)(m:β){z:Operand}(hok:gC ops n env o none=true)(ho:o.op= .mapUpdate t x y z)(hx:V.ev env x=some (.map<|some b))(hy:V.ev env y=some (ek k))(hz:V.ev env z=some (ev m))
  (ht:P.underlying t=some (.map kt et))(hk:jd P kt ek)(hi:gI [i] H=some ([co [dY ek ev b kv,eP f kv]],R))(hj:gI [j] R=some ([co<|f m],R2))(hH:co [dY ek ev b<|dC kv k m,eP f<|dC kv k m]::R2=H')(h:V.A n env w0 S H' K):V.A n env w0 S H (eG P ops o K):=
 A.bf i hi rfl (A.bS 0 m ([dY ek ev b<|dC kv k m,eP f kv]++R) hok ho hx hy hz ht hk rfl rfl (A.cJ [0,0,j] (by show(match(match gI [j] R with|some (a,r)=>some (eP f kv::a,r)|none=>none) with|some (a,r)=>some (dY ek ev b (dC kv k m)::a,r)|none=>none)=_;rw[hj]) hH h))
end
end Go.Proofs.YtobgjpigngoggaaGreat.V
namespace Go.Proofs.YtobgjpigngoggaaGreat
open Go V
def qE(kb:List (Int×En))(i:Int):Bool:=decide ((((cu kb i).map fun m:En=>(qC m.q).length).getD 0:Int)=0)
variable{kb:List (Int×En)}{m:En}
theorem Tu{i:Int}(h:cu kb i=some m):qE kb i=decide (((qC m.q).length:Int)=0):=by unfold qE;rw[h];simp
def ta(kc:List (Int×Cl)):List Int:=dH kc<|fun v_=>v_.hl
def eu(kc:List (Int×Cl))(kb:List (Int×En)):List Int:=(ta kc).filter fun i=> !qE kb i
structure ou(p:Int→Bool)(l:List Int)(j i:Nat)(ys:List Int):Prop where
 len:ys.length=l.length
 kept:ys.take i=(l.take j).filter fun x=> !p x
 rest:ys.drop j=l.drop j
 le:i<j
 jl:j≤l.length
variable{p:Int→Bool}{l:List Int}{k:Nat}{x:Int}
theorem Ku(hk:l[k]? =some x)(hp:p x=true)(hn: ∀j y,j<k→l[j]? =some y→p y=false):ou p l (k+1) k l:=by
 have hl:=(List.getElem?_eq_some_iff.1 hk).1
 refine⟨rfl,?_,rfl,by omega,by omega⟩
 rw[List.take_add_one,hk,List.filter_append]
 have:(l.take k).filter (fun x=> !p x)=l.take k:=List.filter_eq_self.2 fun y hy=>by
  obtain⟨j,h1,h2⟩:=List.getElem_of_mem hy
  rw[List.length_take] at h1
  have:l[j]? =some y:=by rw[←h2];simp[List.getElem?_eq_getElem (show j<l.length by omega)]
  rw[hn j y (by omega) this];rfl
 rw[this];simp[hp]
variable{ys:List Int}{j i:Nat}
theorem MZ(h:ou p l j i ys)(hx:ys[j]? =some x)(hp:p x=true):ou p l (j+1) i ys:=by
 have hl:=(List.getElem?_eq_some_iff.1 hx).1
 have hx2:l[j]? =some x:=by rw[←hx];have:=congrArg (·[0]?) h.rest;simpa using this.symm
 refine⟨h.len,?_,?_,by have:=h.le;omega,by rw[←h.len];omega⟩
 ·rw[List.take_add_one,hx2,List.filter_append,h.kept];simp[hp]
 ·have:=congrArg (List.drop 1) h.rest;simpa[Nat.add_comm] using this
theorem LX(h:ou p l j i ys)(hx:ys[j]? =some x)(hp:p x=false):ou p l (j+1) (i+1) (ys.set i x):=by
 have hl:=(List.getElem?_eq_some_iff.1 hx).1
 have hx2:l[j]? =some x:=by rw[←hx];have:=congrArg (·[0]?) h.rest;simpa using this.symm
 have hle:=h.le
 refine⟨by rw[List.length_set];exact h.len,?_,?_,by omega,by rw[←h.len];omega⟩
 ·rw[List.take_add_one,List.take_set_of_le<|by omega,h.kept,List.getElem?_set_self<|by omega,List.take_add_one,hx2,List.filter_append];simp[hp]
 ·rw[List.drop_set_of_lt<|by omega]
  have:=congrArg (List.drop 1) h.rest;simpa[Nat.add_comm] using this
theorem M1(h:ou p l j i ys)(hj:l.length≤j):ys.take i=l.filter fun x=> !p x:=by rw[h.kept,List.take_of_length_le hj]
variable{kc:List (Int×Cl)}{z:Int}
theorem JQ(hB:fH kc kb)(h:(dH kc<|fun v_=>v_.hl)[k]? =some z): ∃m,cu kb z=some m∧kQ m:=by
 obtain⟨m,hm⟩:=JP hB h
 exact⟨m,hm,(hB z).2 m hm⟩
theorem xW(hB:fH kc kb)(hk:(dH kc<|fun v_=>v_.hl).length≤k)(hn: ∀j y,j<k→(dH kc<|fun v_=>v_.hl)[j]? =some y→qE kb y=false):eu kc kb=dH kc (fun v_=>v_.hl):=by
 unfold eu ta
 refine List.filter_eq_self.2 fun y hy=>?_
 obtain⟨j,h1,h2⟩:=List.getElem_of_mem hy
 rw[hn j y (by omega) (by rw[←h2];exact List.getElem?_eq_getElem h1)];rfl
theorem M3(h:ou p l j i ys)(hx:ys[j]? =some x):l[j]? =some x:=by rw[←hx];have:=congrArg (·[0]?) h.rest;simpa using this.symm
theorem JR(sb:Nat)(lt lm:Int)(bt:Nat)(my:Nat)(kb:List (Int×En))(ab eb mk:Nat)(ck ac:Int)(bx:Nat)(ci:Int)(hm: ∃m,cu kb ci=some m∧kQ m)(w:World)(r0:(cw bx [p_ sb] 102).holds w)(r1:(cw sb [i_ lt,i_ lm,p_ bt,.map<|some my,p_ ab,p_ eb,.map<|some mk,u_ ck,u_ ac] 141).holds w)(r2:(eT my kb).holds w):
  CW 106 #[i_ ci,p_ bx] w (b_<|qE kb ci):=by
 refine A.C Tryz.func106 rfl (HS.nil w) (A.c<|A.g [.p] [] []<|A.c<|A.kp [.rd [p_ sb],.p,.p,.rd [.map<|some my],.p] [0,1] [(7,.map<|some my),(8,i_ ci)] [] (oc (ro ⟨bx,0,none⟩ (vs:=[p_ sb])<|df r0 rfl)<|o1<|ro ⟨sb,3,none⟩ (vs:=[.map<|some my])<|df r1 rfl) ?_)
 obtain⟨m1,hk1,hEO1⟩:=hm
 refine A.j<|A.u (some 9) (p_ m1.eb) (jr (kt:=3) (et:=167) (k:=ci) (fun ww ss=>mT<|d6 ss r2) hk1 rfl rfl rfl (by kernel_rfl) (ee<|by kernel_rfl) rfl) ?_
 refine A.k [.p,.p,.rd [qp m1.qb],.cq<|i_ ((qC m1.q).length:Int),.p,.p] [7,8,9] [(3,b_<|((qC m1.q).length:Int)==0)] [] (oc (ro ⟨m1.eb,0,none⟩ (vs:=[qp m1.qb])<|fi (fun ww ss=>(fy (d6 ss r2) hk1:)) rfl)<|o1<|qo<|fun ww ss=>uq my kb ci m1 (qp m1.qb) hk1 (by rfl) ‹_› ww (d6 ss r2)) ?_
 refine A.e<|A.W [b_<|((qC m1.q).length:Int)==0] ?_
 refine congrArg Value.bool ?_;rw[Tu ‹_›,Bool.eq_iff_iff];simp
abbrev BP(p0):=((1,.func (.func 106) #[] #[p_ p0]):Nat×Value)
theorem zd(sb:Nat)(lt lm:Int)(bt mc:Nat)(kc:List (Int×Cl))(my:Nat)(kb:List (Int×En))(ab eb mk:Nat)(ck ac:Int)(hL:dr kc)(hB:fH kc kb)(w:World)(r0:(cw sb [i_ lt,i_ lm,p_ bt,.map<|some my,p_ ab,p_ eb,.map<|some mk,u_ ck,u_ ac] 141).holds w)(r1:(cw bt [.map<|some mc] 185).holds w)(r2:(dy mc kc).holds w)(r3:(eT my kb).holds w)(hs:HI w []):
  CV 71 #[p_ sb] w [] (fun((al',cl'):(Option Addr)×Nat)=>(vS al' (eu kc kb) cl')) (fun _=>True) fun(al',cl')=>[sI al' (eu kc kb) cl']:=by
 have hkl:=hL.len
 have hkf:=oN kc<|fun v_=>v_.hl
 refine A.C Tryz.func71 rfl hs (A.c<|A.n1 [.al,.p] [0] (fun b1=>[(1,p_ b1)]) (fun b1=>cw b1 [p_ sb] 102) ?_)
 intro b1
 refine Ux<|A.kp [.ld 0,.p,.p,.rd [p_ bt]] [] [(6,p_ bt)] [b1] (o1<|ro ⟨sb,2,none⟩ (vs:=[p_ bt])<|df r0 rfl)<|A.j<|A.I (some 7) [] (fun w s h=>L2 bt mc kc (by omega) w (d6 s r1) (d6 s r2) h) ?_
 rintro⟨al'2,cl'3⟩-
 refine A.N [.p] [1,6] [(7,vS al'2 (dH kc<|fun v_=>v_.hl) cl'3),(8,.func (.func 106) #[] #[p_ b1])]<|A.j<|A.iX (some 9) [vS al'2 (dH kc<|fun v_=>v_.hl) cl'3,.func (.func 106) #[] #[p_ b1]] Tryz.func104 rfl (A.c<|A.g [.p] [] []<|A.c<|A.N [.p,.p] [] [(8,vS al'2 (dH kc<|fun v_=>v_.hl) cl'3),(9,.func (.func 106) #[] #[p_ b1])]<|A.j<|A.iX (some 10) [vS al'2 (dH kc<|fun v_=>v_.hl) cl'3,.func (.func 106) #[] #[p_ b1]] Tryz.func98 rfl (A.c<|A.g [.p] [] []<|A.d<|A.c<|A.g (ps 3) [] [(7,i_ ((dH kc<|fun v_=>v_.hl).length:Int)),(8,i_ 0)]<|A.y<|A.lp (σ:=Nat) [] (fun k=>[(8,c_ k)]) [] (fun k=>[]) (fun k=>(k≤(dH kc<|fun v_=>v_.hl).length)∧(∀j y,j<k→(dH kc<|fun v_=>v_.hl)[j]? =some y→qE kb y=false)) (fun k=>(dH kc<|fun v_=>v_.hl).length-k) (0:Nat) ⟨(by omega),(by intro j y hj;omega)⟩ ?_ ?_))
 ·exact A.J [0,0]
 rintro k ⟨hk,hn⟩
 refine A.c<|A.g [.p] [] [(9,b_<|decide ((k:Int)<((dH kc<|fun v_=>v_.hl).length:Int)))]<|A.d<|A.v rfl (fun e2=>?_) (fun e2=>?_)
 ·have p2:=of_decide_eq_true e2
  refine A.p<|A.d<|A.y<|A.c<|A.g [.p,.p] [9] [(5,c_ k)]<|A.c<|A.kp [.p,.p,.p,.ix] [] [(11,.func (.func 106) #[] #[p_ b1]),(14,.pointer<|some<|(dR al'2).add (k*1))] [] (o1<|dW 0 k fD rfl (by omega)) ?_
  obtain⟨x5,hx5⟩: ∃x,((dH kc<|fun v_=>v_.hl))[k]? =some x:=⟨_,List.getElem?_eq_getElem<|by omega⟩
  refine A.k [.rd [i_ x5],.cq<|b_<|qE kb x5] [11,14] [(16,b_<|qE kb x5)] [] (oc (ro ((dR al'2).add (k*1))<|fS (vs:=[i_ x5]) fD (fM (i:=0) rfl) hx5 (Nat.le_of_ble_eq_true rfl) rfl)<|o1<|qo<|fun w s=>JR sb lt lm bt my kb ab eb mk ck ac b1 x5 (JQ hB ‹_›) w (s.mem (i:=1) rfl) (d6 s r0)<|d6 s r3)<|A.v rfl (fun e3=>?_) (fun e3=>?_)
  ·have p3:=e3;try simp only[dc] at p3
   refine A.c<|A.g [.p,.p] [0,1,7,8,5,16] [(4,c_ k)]<|A.e<|A.pb [c_ k]<|A.h [.p] [(0,vS al'2 (dH kc<|fun v_=>v_.hl) cl'3),(BP b1),(5,c_ k)] []<|A.d<|A.c<|A.g [.p,.p] [] [(12,b_<|(k:Int)==(-1))]<|A.v rfl (fun e4=>?_) (fun e4=>?_)
   ·have p4:=e4;try simp only[dc] at p4
    refine A.c<|A.g [.p,.p] [0,1,5,12] [(4,vS al'2 (dH kc<|fun v_=>v_.hl) cl'3)]<|A.e<|A.pb [vS al'2 (dH kc<|fun v_=>v_.hl) cl'3]<|A.h [.p] [(2,vS al'2 (dH kc<|fun v_=>v_.hl) cl'3)] []<|A.e<|A.su 0 (sI al'2 (eu kc kb) cl'3) rfl (eI ((xW hB (by omega) hn).symm:(dH kc<|fun v_=>v_.hl)=(eu kc kb))) (A.Y [0] [vS al'2 (dH kc<|fun v_=>v_.hl) cl'3] (al'2,cl'3) ?_ ?_)
    ·show((vS al'2 (dH kc<|fun v_=>v_.hl) cl'3):Value)=(vS al'2 (eu kc kb) cl'3)
     rw[xW hB (by omega) hn]
    trivial
   have p4:=e4;try simp only[dc] at p4
   refine A.p<|A.d<|A.c<|A.k [.p,.w<|(k:Int)+1,.p] [12] [(6,i_<|(k:Int)+1)] [] (o1<|wj ((k:Int)+1)<|by omega)<|A.y<|A.aX (fun((j,i,ys):Nat×Nat×(List Int))=>[(BP b1),(6,c_ j),(5,c_ i),(0,vS al'2 ys cl'3)]) (fun((j,i,ys):Nat×Nat×(List Int))=>[cw b1 [p_ sb] 102,sI al'2 ys cl'3]) (fun((j,i,ys):Nat×Nat×(List Int))=>(ou (qE kb) (dH kc<|fun v_=>v_.hl) j i ys)) (fun((j,i,ys):Nat×Nat×(List Int))=>(dH kc<|fun v_=>v_.hl).length-j) (k+1,k,dH kc<|fun v_=>v_.hl) (Ku ‹_› ‹_› hn) ?_ ?_
   ·exact A.J [1,0]
   rintro⟨j,i,ys⟩ hD
   have hD:ou (qE kb) (dH kc<|fun v_=>v_.hl) j i ys:=hD
   have hDl:=hD.len;have hDj:=hD.jl;have hDe:=hD.le
   refine A.d<|A.c<|A.g (ps 4) [] [(19,b_<|decide ((j:Int)<(ys.length:Int)))]<|A.v rfl (fun e5=>?_) (fun e5=>?_)
   ·have p5:=of_decide_eq_true e5
    refine A.p<|A.d<|A.y<|A.c<|A.kp [.p,.p,.ix] [19] [(24,.pointer<|some<|(dR al'2).add (j*1))] [] (o1<|dW 1 j fD rfl (by omega)) ?_
    obtain⟨x6,hx6⟩: ∃x,(ys)[j]? =some x:=⟨_,List.getElem?_eq_getElem<|by omega⟩
    refine A.k [.rd [i_ x6],.p] [24] [(7,i_ x6)] [] (o1<|ro ((dR al'2).add (j*1))<|fS (vs:=[i_ x6]) fD (fM (i:=1) rfl) hx6 (Nat.le_of_ble_eq_true rfl) rfl)<|A.c<|A.k [.p,.p,.cq<|b_<|qE kb x6,.p] [] [(29,b_ (!(qE kb x6)))] [] (o1<|qo<|fun w s=>JR sb lt lm bt my kb ab eb mk ck ac b1 x6 (JQ hB<|M3 hD ‹_›) w (s.mem (i:=0) rfl) (d6 s r0)<|d6 s r3)<|A.v rfl (fun e6=>?_) (fun e6=>?_)
    ·have p6:=e6;try simp only[dc] at p6
     refine A.c<|A.kp [.p,.p,.p,.ix] [7,29] [(32,i_ x6),(33,.pointer<|some<|(dR al'2).add (i*1))] [] (o1<|dW 1 i fD rfl (by omega))<|A.j<|A.sS 1 i x6 rfl fD (by omega) (A.D 0 (vS al'2 (ys.set i x6) cl'3) (dh<|by simp)<|A.aB<|A.s<|A.k [.p,.w<|(i:Int)+1,.p] [32,33] [(5,i_<|(i:Int)+1)] [] (o1<|wj ((i:Int)+1)<|by omega)<|A.s<|A.k [.p,.w<|(j:Int)+1,.p] [] [(6,i_<|(j:Int)+1)] [] (o1<|wj ((j:Int)+1)<|by omega)<|A.Z (j+1,i+1,ys.set i x6) (LX hD ‹_› ‹_›) (by(show(dH kc<|fun v_=>v_.hl).length-(j+1)<(dH kc<|fun v_=>v_.hl).length-j;have h_:=hD.jl;have h2_:=hD.len;omega)) ?_)
     exact A.J [0,0]
    have p6:=e6;try simp only[dc] at p6
    refine A.p<|A.s<|A.k [.p,.w<|(j:Int)+1,.p] [7,29] [(6,i_<|(j:Int)+1)] [] (o1<|wj ((j:Int)+1)<|by omega)<|A.Z (j+1,i,ys) (MZ hD ‹_› ‹_›) (by(show(dH kc<|fun v_=>v_.hl).length-(j+1)<(dH kc<|fun v_=>v_.hl).length-j;have h_:=hD.jl;have h2_:=hD.len;omega)) ?_
    exact A.J [0,0]
   have p5:=of_decide_eq_false e5
   refine A.aA<|A.c<|A.N [.p,.p] [1,6,19] [(36,vS al'2 ys cl'3),(37,c_ i)]<|A.j<|A.u (some 38) (vS (iE al'2 cl'3 i 1) (ys.drop i)<|cl'3-i) (wF (e:=3) (xs:=ys) (sz:=1) i rfl rfl rfl (by kernel_rfl) (by kernel_rfl) (by omega) (fun w s=>IK<|s.mem (i:=1) rfl))<|A.j<|A.cR (enc:=jj) (xs:=ys) 1 i 0 [cw b1 [p_ sb] 102,sI al'2 (ys.take i++List.replicate (ys.length-i) 0) cl'3] (by kernel_rfl) rfl rfl (by kernel_rfl) (by kernel_rfl) rfl rfl rfl (fun _=>rfl) (by omega) rfl rfl (A.aQ [(5,c_ i),(0,vS al'2 (ys.take i++List.replicate (ys.length-i) 0) cl'3),(36,vS al'2 (ys.take i++List.replicate (ys.length-i) 0) cl'3),(37,c_ i),(38,vS (iE al'2 cl'3 i 1) (ys.drop i)<|cl'3-i)] (by exact⟨rfl,dh (by simp;omega),dh (by simp;omega),rfl,rfl,trivial⟩)<|A.aB<|A.c<|A.N [.p,.p] [5,0,36,37,38] [(39,vS al'2 (ys.take i++List.replicate (ys.length-i) 0) cl'3),(40,c_ i)]<|A.j<|A.u (some 41) (vS al'2 ((ys.take i++List.replicate (ys.length-i) 0).take i) cl'3) (F6 (e:=3) (xs:=(ys.take i++List.replicate (ys.length-i) 0)) (sz:=1) i rfl rfl rfl (by kernel_rfl) (by kernel_rfl) (by(simp;(have h1_:=hD.le;have h2_:=hD.jl;have h3_:=hD.len;omega))) (fun w s=>IK<|s.mem (i:=1) rfl))<|A.g [.p] [39,40,41] [(4,vS al'2 ((ys.take i++List.replicate (ys.length-i) 0).take i) cl'3)] ?_)
   have hcut:((ys.take i++List.replicate (ys.length-i) 0)).take i=(eu kc kb):=by have h1_:=hD.le;have h2_:=hD.jl;have h3_:=hD.len;rw[List.take_append_of_le_length (by simp;omega),List.take_take,Nat.min_self];exact M1 hD (by show(dH kc<|fun v_=>v_.hl).length≤_;omega)
   refine A.cS 1 i (eu kc kb) (fun _=>rfl) hcut rfl rfl (A.aQ [(4,vS al'2 (eu kc kb) cl'3)] ⟨fN hcut,trivial⟩<|A.e<|A.pb [vS al'2 (eu kc kb) cl'3]<|A.h [.p] [(2,vS al'2 (eu kc kb) cl'3)] []<|A.e<|A.Y [0] [vS al'2 (eu kc kb) cl'3] (al'2,cl'3) ?_ ?_)
   ·rfl
   trivial
  have p3:=e3;try simp only[dc] at p3
  refine A.p<|A.s<|A.k [.w<|(k:Int)+1,.p] [5,16] [(8,i_<|(k:Int)+1)] [] (o1<|wj ((k:Int)+1)<|by omega)<|A.Z (k+1) ⟨(by omega),(by intro j y hj_ hy_;rcases Nat.lt_succ_iff_lt_or_eq.1 hj_ with h_|rfl;exact hn j y h_ hy_;simp_all)⟩ (by(show(dH kc<|fun v_=>v_.hl).length-(k+1)<(dH kc<|fun v_=>v_.hl).length-k;omega)) ?_
  exact A.J [0,0]
 have p2:=of_decide_eq_false e2
 refine A.aA<|A.c<|A.g [.p] [0,1,7,8,9] [(4,i_ (-1))]<|A.e<|A.pb [i_ (-1)]<|A.h [.p] [(0,vS al'2 (dH kc<|fun v_=>v_.hl) cl'3),(BP b1),(5,i_ (-1))] []<|A.d<|A.c<|A.g [.p,.p] [] [(12,b_ true)]<|A.ct<|A.c<|A.g [.p,.p] [0,1,5,12] [(4,vS al'2 (dH kc<|fun v_=>v_.hl) cl'3)]<|A.e<|A.pb [vS al'2 (dH kc<|fun v_=>v_.hl) cl'3]<|A.h [.p] [(2,vS al'2 (dH kc<|fun v_=>v_.hl) cl'3)] []<|A.e<|A.su 0 (sI al'2 (eu kc kb) cl'3) rfl (eI ((xW hB (by omega) hn).symm:(dH kc<|fun v_=>v_.hl)=(eu kc kb))) (A.Y [0] [vS al'2 (dH kc<|fun v_=>v_.hl) cl'3] (al'2,cl'3) ?_ ?_)
 ·show((vS al'2 (dH kc<|fun v_=>v_.hl) cl'3):Value)=(vS al'2 (eu kc kb) cl'3)
  rw[xW hB (by omega) hn]
 trivial
def mD(kc:List (Int×Cl))(kb:List (Int×En))(c:Int):Bool:=(eu kc kb).any fun lf=>(db kc lf).contains c
theorem QY{c:Int}(hk:l.length≤k)(hn: ∀j y,j<k→l[j]? =some y→c≠y):l.contains c=false:=by
 rw[Bool.eq_false_iff];intro h
 rw[List.contains_iff_mem] at h
 obtain⟨j,h1,h2⟩:=List.getElem_of_mem h
 exact hn j c (by omega) (by rw[←h2];exact List.getElem?_eq_getElem h1) rfl
theorem OR{c y:Int}(hk:l[k]? =some y)(h:c=y):l.contains c=true:=by
 rw[List.contains_iff_mem,h];exact List.mem_of_getElem? hk
theorem BQ(hk:l.length≤k)(hn: ∀j y,j<k→l[j]? =some y→p y=false):l.any p=false:=by
 rw[Bool.eq_false_iff];intro h
 rw[List.any_eq_true] at h
 obtain⟨x,hx,hp⟩:=h
 obtain⟨j,h1,h2⟩:=List.getElem_of_mem hx
 rw[hn j x (by omega) (by rw[←h2];exact List.getElem?_eq_getElem h1)] at hp;cases hp
theorem G4{y:Int}(hk:l[k]? =some y)(h:p y=true):l.any p=true:=List.any_eq_true.2 ⟨y,List.mem_of_getElem? hk,h⟩
abbrev qA(p0):=(b_ (decide ((p0:Int)≥0)):Value)
theorem Tv(sb:Nat)(lt lm:Int)(bt mc:Nat)(kc:List (Int×Cl))(my:Nat)(ab eb mk:Nat)(ck ac:Int)(b1 b2:Nat)(ci li:Int)(hL:dr kc)(w:World)(r0:(cw b1 [p_ sb] 102).holds w)(r1:(cw b2 [i_ ci] 3).holds w)(r2:(cw sb [i_ lt,i_ lm,p_ bt,.map<|some my,p_ ab,p_ eb,.map<|some mk,u_ ck,u_ ac] 141).holds w)(r3:(cw bt [.map<|some mc] 185).holds w)(r4:(dy mc kc).holds w)(hs:HI w []):
  CV 99 #[i_ li,p_ b1,p_ b2] w [] (fun(zz:Unit)=>(b_<|(db kc li).contains ci)) (fun _=>True) fun _=>[]:=by
 have hul:=AK hL li
 refine A.C Tryz.func99 rfl hs (A.c<|A.g [.p] [] []<|A.d<|A.d3 [5,7] 9 []<|A.bO 3 [.rd [p_ sb],.p,.p,.rd [p_ bt],.p,.rd [i_ ci]] [0,1,2,3,4,6] [(8,p_ bt),(9,i_ li),(11,i_ ci)] [] (.refl _) (oc (ro ⟨b1,0,none⟩ (vs:=[p_ sb])<|df r0 rfl)<|oc (ro ⟨sb,2,none⟩ (vs:=[p_ bt])<|df r2 rfl)<|o1<|ro ⟨b2,0,none⟩ (vs:=[i_ ci])<|df r1 rfl)<|A.o3 5 rfl (A.I (some 10) [] (fun w s h=>DN bt mc kc li (by assumption) w (d6 s r3) (d6 s r4) h) ?_))
 rintro⟨al'1,cl'2⟩-
 refine A.aF (sd [0])<|A.o3 7 rfl (A.iX (some 12) [vS al'1 (db kc li) cl'2,i_ ci] Tryz.func100 rfl (A.c<|A.g [.p] [] []<|A.c<|A.N [.p,.p] [0,1] [(5,vS al'1 (db kc li) cl'2),(6,i_ ci)]<|A.j<|A.iX (some 7) [vS al'1 (db kc li) cl'2,i_ ci] Tryz.func141 rfl (A.c<|A.g [.p] [] []<|A.d<|A.c<|A.g (ps 3) [] [(7,i_ ((db kc li).length:Int)),(8,i_ 0)]<|A.y<|A.lp (σ:=Nat) [] (fun k=>[(8,c_ k)]) [] (fun k=>[]) (fun k=>(k≤(db kc li).length)∧(∀j y,j<k→(db kc li)[j]? =some y→ci≠y)) (fun k=>(db kc li).length-k) (0:Nat) ⟨(by omega),(by intro j y hj;omega)⟩ ?_ ?_)))
 ·exact A.J [0]
 rintro k ⟨hk,hn⟩
 refine A.c<|A.g [.p] [] [(9,b_<|decide ((k:Int)<((db kc li).length:Int)))]<|A.d<|A.v rfl (fun e2=>?_) (fun e2=>?_)
 ·have p2:=of_decide_eq_true e2
  refine A.p<|A.d<|A.y<|A.c<|A.g [.p,.p] [9] [(5,c_ k)]<|A.c<|A.kp [.p,.p,.p,.ix] [] [(11,i_ ci),(14,.pointer<|some<|(dR al'1).add (k*1))] [] (o1<|dW 0 k fD rfl (by omega)) ?_
  obtain⟨x4,hx4⟩: ∃x,((db kc li))[k]? =some x:=⟨_,List.getElem?_eq_getElem<|by omega⟩
  refine A.k [.rd [i_ x4],.p] [11,14] [(16,b_<|ci==x4)] [] (o1<|ro ((dR al'1).add (k*1))<|fS (vs:=[i_ x4]) fD (fM (i:=0) rfl) hx4 (Nat.le_of_ble_eq_true rfl) rfl)<|A.v rfl (fun e3=>?_) (fun e3=>?_)
  ·refine A.c<|A.g [.p,.p] [0,1,7,8,5,16] [(4,c_ k)]<|A.e<|A.pb [c_ k]<|A.h [.p,.p] [(4,qA k)] []<|A.e<|A.pb [qA k]<|A.aF (sd [0])<|A.bT 0 [.p] [8] [(4,qA k)] [] (sd [0])<|A.f3<|A.e<|A.Y [] [qA k] () ?_ ?_
   ·(rw[OR ‹_› (by(simp_all;done))]<;>rfl)
   trivial
  have p3:=e3
  refine A.p<|A.s<|A.k [.w<|(k:Int)+1,.p] [5,16] [(8,i_<|(k:Int)+1)] [] (o1<|wj ((k:Int)+1)<|by omega)<|A.Z (k+1) ⟨(by omega),(by intro j y hj_ hy_;rcases Nat.lt_succ_iff_lt_or_eq.1 hj_ with h_|rfl;exact hn j y h_ hy_;simp_all)⟩ (by(show(db kc li).length-(k+1)<(db kc li).length-k;omega)) ?_
  exact A.J [0]
 have p2:=of_decide_eq_false e2
 refine A.aA<|A.c<|A.g [.p] [0,1,7,8,9] [(4,i_ (-1))]<|A.e<|A.pb [i_ (-1)]<|A.h [.p,.p] [(4,b_ false)] []<|A.e<|A.pb [b_ false]<|A.aF (sd [0])<|A.bT 0 [.p] [8] [(4,b_ false)] [] (sd [0])<|A.f3<|A.e<|A.Y [] [b_ false] () ?_ ?_
 ·(rw[QY (by omega) hn]<;>first|rfl|(refine congrArg Value.bool ?_;simp;done)|(refine congrArg Value.bool ?_;simp;omega))
 trivial
theorem QZ(sb:Nat)(lt lm:Int)(bt mc:Nat)(kc:List (Int×Cl))(my:Nat)(kb:List (Int×En))(ab eb mk:Nat)(ck ac:Int)(ci:Int)(hL:dr kc)(hB:fH kc kb)(w:World)(r0:(cw sb [i_ lt,i_ lm,p_ bt,.map<|some my,p_ ab,p_ eb,.map<|some mk,u_ ck,u_ ac] 141).holds w)(r1:(cw bt [.map<|some mc] 185).holds w)(r2:(dy mc kc).holds w)(r3:(eT my kb).holds w)(hs:HI w []):
  CV 69 #[p_ sb,i_ ci] w [] (fun(zz:Unit)=>(b_<|mD kc kb ci)) (fun _=>True) fun _=>[]:=by
 have hkl:=hL.len
 have hkf:=oN kc<|fun v_=>v_.hl
 have hlf:(eu kc kb).length≤64:=Nat.le_trans (List.length_filter_le _ _) (by unfold ta;omega)
 refine A.C Tryz.func69 rfl hs (A.c<|A.n2 [.al,.al,.p] [0,1] (fun b1 b2=>[(2,p_ b1),(3,p_ b2)]) (fun b1 b2=>[cw b1 [p_ sb] 102,cw b2 [i_ ci] 3]) ?_)
 intro b1 b2
 refine A.c<|A.gm [.ld 0] [] [(5,p_ sb)] [b1]<|A.j<|A.I (some 6) [] (fun w s h=>zd sb lt lm bt mc kc my kb ab eb mk ck ac ‹_› ‹_› w (d6 s r0) (d6 s r1) (d6 s r2) (d6 s r3) h) ?_
 rintro⟨al'3,cl'4⟩-
 refine A.N [.p] [2,3,5] [(6,vS al'3 (eu kc kb) cl'4),(7,.func (.func 99) #[] #[p_ b1,p_ b2])]<|A.j<|A.iX (some 8) [vS al'3 (eu kc kb) cl'4,.func (.func 99) #[] #[p_ b1,p_ b2]] Tryz.func68 rfl (A.c<|A.g [.p] [] []<|A.c<|A.N [.p,.p] [0,1] [(5,vS al'3 (eu kc kb) cl'4),(6,.func (.func 99) #[] #[p_ b1,p_ b2])]<|A.j<|A.iX (some 7) [vS al'3 (eu kc kb) cl'4,.func (.func 99) #[] #[p_ b1,p_ b2]] Tryz.func98 rfl (A.c<|A.g [.p] [] []<|A.d<|A.c<|A.g (ps 3) [] [(7,i_ ((eu kc kb).length:Int)),(8,i_ 0)]<|A.y<|A.lp (σ:=Nat) [] (fun k=>[(8,c_ k)]) [] (fun k=>[]) (fun k=>(k≤(eu kc kb).length)∧(∀j y,j<k→(eu kc kb)[j]? =some y→(db kc y).contains ci=false)) (fun k=>(eu kc kb).length-k) (0:Nat) ⟨(by omega),(by intro j y hj;omega)⟩ ?_ ?_))
 ·exact A.J [0,0,0]
 rintro k ⟨hk,hn⟩
 refine A.c<|A.g [.p] [] [(9,b_<|decide ((k:Int)<((eu kc kb).length:Int)))]<|A.d<|A.v rfl (fun e2=>?_) (fun e2=>?_)
 ·have p2:=of_decide_eq_true e2
  refine A.p<|A.d<|A.y<|A.c<|A.g [.p,.p] [9] [(5,c_ k)]<|A.c<|A.kp [.p,.p,.p,.ix] [] [(11,.func (.func 99) #[] #[p_ b1,p_ b2]),(14,.pointer<|some<|(dR al'3).add (k*1))] [] (o1<|dW 0 k fD rfl (by omega)) ?_
  obtain⟨x6,hx6⟩: ∃x,((eu kc kb))[k]? =some x:=⟨_,List.getElem?_eq_getElem<|by omega⟩
  refine A.kp [.rd [i_ x6]] [14] [(15,i_ x6)] [] (o1<|ro ((dR al'3).add (k*1))<|fS (vs:=[i_ x6]) fD (fM (i:=0) rfl) hx6 (Nat.le_of_ble_eq_true rfl) rfl)<|A.j<|A.I (some 16) [] (fun w s h=>Tv sb lt lm bt mc kc my ab eb mk ck ac b1 b2 ci x6 ‹_› w (s.mem (i:=1) rfl) (s.mem (i:=2) rfl) (d6 s r0) (d6 s r1) (d6 s r2) h) ?_
  rintro⟨⟩-
  refine A.aB<|A.cn ((db kc x6).contains ci) (fun e4=>?_)<|fun e4=>?_
  ·refine A.c<|A.g [.p,.p] [0,1,7,8,5,11,15,16] [(4,c_ k)]<|A.e<|A.pb [c_ k]<|A.h [.p,.p] [(4,qA k)] []<|A.e<|A.pb [qA k]<|A.h [.p] [(4,qA k)] []<|A.e<|A.Y [] [qA k] () ?_ ?_
   ·unfold mD;(rw[G4 ‹_› ‹_›]<;>rfl)
   trivial
  have p4:=e4
  refine A.p<|A.s<|A.k [.w<|(k:Int)+1,.p] [5,11,15,16] [(8,i_<|(k:Int)+1)] [] (o1<|wj ((k:Int)+1)<|by omega)<|A.Z (k+1) ⟨(by omega),(by intro j y hj_ hy_;rcases Nat.lt_succ_iff_lt_or_eq.1 hj_ with h_|rfl;exact hn j y h_ hy_;simp_all)⟩ (by(show(eu kc kb).length-(k+1)<(eu kc kb).length-k;omega)) ?_
  exact A.J [0,0,0]
 have p2:=of_decide_eq_false e2
 refine A.aA<|A.c<|A.g [.p] [0,1,7,8,9] [(4,i_ (-1))]<|A.e<|A.pb [i_ (-1)]<|A.h [.p,.p] [(4,b_ false)] []<|A.e<|A.pb [b_ false]<|A.h [.p] [(4,b_ false)] []<|A.e<|A.Y [] [b_ false] () ?_ ?_
 ·unfold mD;(rw[BQ (by omega) hn]<;>first|rfl|(refine congrArg Value.bool ?_;simp;done)|(refine congrArg Value.bool ?_;simp;omega))
 trivial
def fA(W:World):V.dB where
 foot:=List.range W.heap.size
 holds w:=W.heap.size≤w.heap.size∧ ∀b,b<W.heap.size→w.heap[b]? =W.heap[b]?
 loc w w' h hw:=by
  have h2: ∀b,b<W.heap.size→w'.heap[b]? =W.heap[b]? :=fun b hb=>by rw[h b<|List.mem_range.2 hb];exact hw.2 b hb
  refine⟨?_,h2⟩
  rcases Nat.eq_zero_or_pos W.heap.size with e|e
  ·omega
  ·have:=h2 (W.heap.size-1)<|by omega
   rw[Array.getElem?_eq_getElem (show W.heap.size-1<W.heap.size by omega)] at this
   have:=(Array.getElem?_eq_some_iff.1 this).1;omega
 here w hw b hb:=by have:=List.mem_range.1 hb;have:=hw.1;omega
variable{A:Option Addr}{cs:List Value}
theorem OS{W w:World}(hw:(fA W).holds w)(h:eo W A cs):eo w A cs:=fun j u hu=>by
 obtain⟨h1,h2⟩:=h j u hu
 refine⟨h1,?_⟩
 have hlt:((dR A).add j).block<W.heap.size:=by
  rcases Nat.lt_or_ge ((dR A).add j).block W.heap.size with h'|h'
  ·exact h'
  ·simp[World.cell?,Array.getElem?_eq_none h'] at h2
 rw[←h2];unfold World.cell?;rw[hw.2 _ hlt]
theorem sJ{w0:World}{S:List Nat}{H:List V.dB}{W:World}(hi:H[i]? =some (fA W))(h:eo W A cs):Rd w0 S H A cs:=fun _ s=>OS (s.mem hi) h
def yd(kc:List (Int×Cl))(i:Int)(kb:List (Int×En))(kk:List (Int×Vt))(kb':List (Int×En))(kk':List (Int×Vt)):Prop:=
 (fZ kc i≠0∧kb'=dJ kb i∧kk'=dJ kk i)∨(fZ kc i=0∧ ∃m,u9 (dD kc i) m∧kb'=dC (dJ kb i) i m∧(((dD kc i).hl=true∧kk'=dJ kk i)∨((dD kc i).hl=false∧ ∃v,v.kv=[]∧v.t=T.nil∧kk'=dC (dJ kk i) i v)))
def nN(kc:List (Int×Cl)):List Int→List (Int×En)→List (Int×Vt)→List (Int×En)→List (Int×Vt)→Prop
 |[],kb,kk,kb',kk'=>kb'=kb∧kk'=kk
 |i::l,kb,kk,kb',kk'=> ∃kb1 kk1,yd kc i kb kk kb1 kk1∧nN kc l kb1 kk1 kb' kk'
variable{L:List Int}{i:Int}{kb1 kb':List (Int×En)}{kk kk1 kk':List (Int×Vt)}
theorem ze(hk:L[k]? =some i)(h1:yd kc i kb kk kb1 kk1)(h:nN kc (L.drop<|k+1) kb1 kk1 kb' kk'):nN kc (L.drop k) kb kk kb' kk':=by
 obtain⟨e1,e2⟩:=List.getElem?_eq_some_iff.1 hk
 rw[List.drop_eq_getElem_cons e1,e2];exact⟨kb1,kk1,h1,h⟩
theorem Q0(h:yd kc i kb kk kb1 kk1)(hn:(kb.map (·.1)).Nodup):(kb1.map (·.1)).Nodup:=by
 rcases h with⟨-,h2,-⟩|⟨-,m,-,h3,-⟩
 ·subst h2;exact kB hn i
 ·subst h3;exact kj (kB hn i) i m
theorem IB: ∀{l:List Int}{kb kb':List (Int×En)}{kk kk':List (Int×Vt)},(kb.map (·.1)).Nodup→nN kc l kb kk kb' kk'→ ∀i,(i∈l∨((cu kb i).map (·.ec)=cu kc i∧ ∀m,cu kb i=some m→kQ m))→(cu kb' i).map (·.ec)=cu kc i∧ ∀m,cu kb' i=some m→kQ m
 |[],kb,kb',kk,kk',hn,⟨h1,_⟩,i,hi=>by subst h1;exact hi.resolve_left<|by simp
 |j::l,kb,kb',kk,kk',hn,⟨kb1,kk1,hs,h⟩,i,hi=>by
  refine IB (Q0 hs hn) h i ?_
  by_cases e:j=i
  ·subst e
   right
   rcases hs with⟨h1,h2,-⟩|⟨h1,m,h2,h3,-⟩
   ·subst h2
    rw[iG hn,if_pos rfl,JS h1];exact⟨rfl,fun m h=>by cases h⟩
   ·subst h3
    have hs2:cu kc j=some (dD kc j):=by
     cases q:cu kc j with
     |none=>exact absurd q<|C2 h1
     |some c=>rw[iu q]
    rw[jM,hs2]
    exact⟨by simp[h2.1],fun m2 h=>by cases h;exact h2.2.1⟩
  ·rcases hi with hi|hi
   ·exact .inl<|(List.mem_cons.1 hi).resolve_left (fun h=>e h.symm)
   ·right
    have hg:cu kb1 i=cu kb i:=by
     rcases hs with⟨-,h2,-⟩|⟨-,m,-,h3,-⟩
     ·subst h2;rw[iG hn,if_neg e]
     ·subst h3;rw[fm,if_neg e,iG hn,if_neg e]
    rw[hg];exact hi
variable{kw:List (Int×Cl)}
theorem wW(h:i∉eH kc kw):cu kc i=cu kw i:=by
 refine Classical.byContradiction fun hne=>h<|((xP kc kw).2 i).2 ⟨?_,by unfold kg;simp[hne]⟩
 cases e:cu kc i with
 |some c=>exact .inl<|rj e rfl
 |none=>
  cases e2:cu kw i with
  |some c=>exact .inr<|rj e2 rfl
  |none=>exact absurd (e.trans e2.symm) hne
theorem IC(hB:fH kc kb)(hn:(kb.map (·.1)).Nodup)(h:nN kw (eH kc kw) kb kk kb' kk'):fH kw kb':=fun i=>by
 refine IB hn h i ?_
 by_cases e:i∈eH kc kw
 ·exact .inl e
 ·right;rw[←wW e];exact hB i
def ow(ym:List (Int×Pl)):List Int→List (Int×Int)→List (Int×MB)→List (Int×Int)→List (Int×MB)→Prop
 |[],on,ka,on',ka'=>on'=on∧ka'=ka
 |i::l,on,ka,on',ka'=> ∃on1 ka1 l1 e1,oG ym on ka i on1 ka1 l1 e1∧ow ym l on1 ka1 on' ka'
variable{on on':List (Int×Int)}{ka ka':List (Int×MB)}
theorem LY{ym:List (Int×Pl)}{on1:List (Int×Int)}{ka1:List (Int×MB)}{l1:List Int}{e1:Int}(hk:L[k]? =some i)(h1:oG ym on ka i on1 ka1 l1 e1)(h:ow ym (L.drop<|k+1) on1 ka1 on' ka'):ow ym (L.drop k) on ka on' ka':=by
 obtain⟨e1,e2⟩:=List.getElem?_eq_some_iff.1 hk
 rw[List.drop_eq_getElem_cons e1,e2];exact⟨_,_,_,_,h1,h⟩
def qT(kc:List (Int×Cl))(lt:Int)(idle:Bool)(kb:List (Int×En))(l:List Zc):Prop:=iN kc lt l=0∧(eH kc<|di kc l).any (mD kc kb)=false∧((eH kc<|di kc l).any (mm kc<|di kc l)=false∨(idle=true∧eu kc kb=[]))
def Ut(kc:List (Int×Cl))(lt:Int)(l:List Zc):Int:=if iN kc lt l=0 then 24 else iN kc lt l
def Uu(kc:List (Int×Cl))(lt:Int)(l:List Zc):Int:=if iN kc lt l=0 then 0 else ja kc lt l
def G5(lt:Int)(idle:Bool)(l:List Zc)(pl er:Int)(bt mc:Nat)(kc:List (Int×Cl))(kb:List (Int×En))(a:Ac)(on:List (Int×Int))(ka:List (Int×MB))(kk:List (Int×Vt))(bt' mc':Nat)(kc':List (Int×Cl))(kb':List (Int×En))(a':Ac)(on':List (Int×Int))(ka':List (Int×MB))(kk':List (Int×Vt)):Prop:=
 (er≠0∧ ¬qT kc lt idle kb l∧bt'=bt∧mc'=mc∧kc'=kc∧kb'=kb∧a'=a∧on'=on∧ka'=ka∧kk'=kk∧er=Ut kc lt l∧pl=Uu kc lt l)∨
 (er=0∧qT kc lt idle kb l∧kc'=di kc l∧nN kc' (eH kc kc') kb kk kb' kk'∧a'.ym=fO kc'∧ow a'.ym (eu kc' kb') [] [] on' ka'∧pl=0)
theorem M4(hL:dr kc)(h:fZ kc i=0):(dD kc i).hl=true→(1≤(dD kc i).hk∧(dD kc i).hk≤64)∧1≤(dD kc i).hq∧(dD kc i).hq≤1048576:=by
 intro hl
 cases e:cu kc i with
 |none=>exact absurd e<|C2 h
 |some c=>
  rw[iu e] at hl⊢
  have h2:=(hL.key i c e).2
  unfold fc at h2
  rw[if_pos hl] at h2
  grind
abbrev o6(p0)(p1)(p2):=(dx<|dD (di p0 p1) p2)
abbrev kU(p0)(p1)(p2)(p3):=(vS p0 (eH p1<|di p1 p2) p3:Value)
abbrev o7(p0)(p1):=(i_ ((eH p0<|di p0 p1).length:Int):Value)
abbrev kV(p0)(p1):=(cw p0 [.map<|some p1] 185:V.dB)
abbrev nE(p0)(p1)(p2)(p3)(p4)(p5:Ac)(p6:Vt)(p7)(p8)(p9):=(cw p0 [i_ p1,i_ p2,p_ p3,.map<|some p4,p_ p5.bs,p_ p6.be,.map<|some p7,u_ p8,u_ p9] 141:V.dB)
theorem M5(sb:Nat)(lt lm:Int)(bt mc:Nat)(kc:List (Int×Cl))(my:Nat)(kb:List (Int×En))(a:Ac)(on:List (Int×Int))(ka:List (Int×MB))(tl:Vt)(et:T)(ek:List (Int×It))(mk:Nat)(kk:List (Int×Vt))(ck ac:Int)(W:World)(idle:Bool)(al:Option Addr)(l:List Zc)(cl:Nat)(harr:eo W al (V.dF jS l))(hL:dr kc)(hK:mH kc)(hz: ∀z∈l,j0 z)(hB:fH kc kb)(hnb:(kb.map (·.1)).Nodup):
  CS 46 #[p_ sb,b_ idle,vS al l cl] [nE sb lt lm bt my a tl mk ck ac,kV bt mc,dy mc kc,eT my kb,fE a on ka,fY tl et ek,ep mk kk,fA W] (fun((pl,er,bt',mc',kc',kb',a',on',ka',kk'):Int×Int×Nat×Nat×(List<|Int×Cl)×(List<|Int×En)×Ac×(List<|Int×Int)×(List<|Int×MB)×(List<|Int×Vt))=>(.tuple #[i_ pl,i_ er])) (fun(pl,er,bt',mc',kc',kb',a',on',ka',kk')=>G5 lt idle l pl er bt mc kc kb a on ka kk bt' mc' kc' kb' a' on' ka' kk') fun(pl,er,bt',mc',kc',kb',a',on',ka',kk')=>[nE sb lt lm bt' my a' tl mk ck ac,kV bt' mc',dy mc' kc',eT my kb',fE a' on' ka',fY tl et ek,ep mk kk',fA W]:=by
 intro w hs
 have hkl:=hL.len
 have hL3:=BF (l:=l) hL
 have hkl3:=hL3.len
 have htl:=BG kc<|di kc l
 refine A.C Tryz.func46 rfl hs (A.c<|A.g [.p,.p] [] []<|A.d<|A.c<|A.g [.p,.p] [] [(19,b_ false)]<|A.cf<|A.p<|A.d ?_)
 by_cases htr:iN kc lt l=0
 ·refine A.O [10] 18<|A.dT 8 [.p,.p,.p,.ld 0,.p,.p,.p,.p,.ld 0,.p] (rg 0 10) [2,19] [(24,p_ bt),(29,i_ lt),(30,vS al l cl)] [sb,sb]<|A.F 10 rfl (A.I (some 31) [] (fun w s h=>TF bt mc kc lt al l cl ‹_› ‹_› ‹_› ‹_› w (s.mem (i:=1) rfl) (s.mem (i:=2) rfl) ((sJ (i:=7) rfl harr) w s) h) ?_)
  rintro⟨bc1,mx2⟩-
  refine A.E<|A.dT 0 (ps 7) (rg 11 7) [24,29,30,31] [(8,p_ bc1),(9,i_ 0),(10,i_ 0)] []<|A.M<|A.d<|A.c<|A.g [.p,.p] [] [(36,b_ false)]<|A.cf<|A.p<|A.c<|A.gm [.p,.p,.p,.ld 2,.p] [9,10,36] [(42,p_ bt),(43,p_ bc1)] [sb]<|A.j<|A.I (some 44) [] (fun w s h=>JB bt mc kc bc1 mx2 (di kc l) ‹_› ‹_› w (s.mem (i:=3) rfl) (s.mem (i:=4) rfl) (s.mem (i:=0) rfl) (s.mem (i:=1) rfl) h) ?_
  rintro⟨al'3,cl'4⟩-
  refine A.g [.p] [42,43,44] [(11,kU al'3 kc l cl'4)]<|A.bN (fun(zz:Unit)=>match zz with|_=>[(0,p_ sb),(8,p_ bc1),(11,kU al'3 kc l cl'4)]) (fun(zz:Unit)=>match zz with|_=>[sI al'3 (eH kc<|di kc l) cl'4,kV bc1 mx2,dy mx2<|di kc l,nE sb lt lm bt my a tl mk ck ac,kV bt mc,dy mc kc,eT my kb,fE a on ka,fY tl et ek,ep mk kk,fA W]) (fun(zz:Unit)=>match zz with|_=>(qT kc lt idle kb l)) ?_ ?_
  ·refine A.c<|A.N (ps 3) [] [(45,kU al'3 kc l cl'4),(47,.func (.func 69) #[p_ sb] #[])]<|A.j<|A.iX (some 48) [kU al'3 kc l cl'4,.func (.func 69) #[p_ sb] #[]] Tryz.func68 rfl (A.c<|A.g [.p] [] []<|A.c<|A.N [.p,.p] [0,1] [(5,kU al'3 kc l cl'4),(6,.func (.func 69) #[p_ sb] #[])]<|A.j<|A.iX (some 7) [kU al'3 kc l cl'4,.func (.func 69) #[p_ sb] #[]] Tryz.func98 rfl (A.c<|A.g [.p] [] []<|A.d<|A.c<|A.g (ps 3) [] [(7,o7 kc l),(8,i_ 0)]<|A.y<|A.lp (σ:=Nat) [] (fun k=>[(8,c_ k)]) [] (fun k=>[]) (fun k=>(k≤(eH kc<|di kc l).length)∧(∀j y,j<k→(eH kc<|di kc l)[j]? =some y→mD kc kb y=false)) (fun k=>(eH kc<|di kc l).length-k) (0:Nat) ⟨(by omega),(by intro j y hj;omega)⟩ ?_ ?_))
   ·exact A.J [0,0,0,0,0,0,0,0,0,0,0]
   rintro k ⟨hk,hn⟩
   refine A.c<|A.g [.p] [] [(9,b_<|decide ((k:Int)<((eH kc<|di kc l).length:Int)))]<|A.d<|A.v rfl (fun e3=>?_) (fun e3=>?_)
   ·have p3:=of_decide_eq_true e3
    refine A.p<|A.d<|A.y<|A.c<|A.g [.p,.p] [9] [(5,c_ k)]<|A.c<|A.kp [.p,.p,.p,.ix] [] [(11,.func (.func 69) #[p_ sb] #[]),(14,.pointer<|some<|(dR al'3).add (k*1))] [] (o1<|dW 0 k fD rfl (by omega)) ?_
    obtain⟨x6,hx6⟩: ∃x,((eH kc<|di kc l))[k]? =some x:=⟨_,List.getElem?_eq_getElem<|by omega⟩
    refine A.hq [.rd [i_ x6]] [(0,kU al'3 kc l cl'4),(1,.func (.func 69) #[p_ sb] #[]),(7,o7 kc l),(8,c_ k),(5,c_ k),(11,.func (.func 69) #[p_ sb] #[]),(15,i_ x6)] [] (o1<|ro ((dR al'3).add (k*1))<|fS (vs:=[i_ x6]) fD (fM (i:=0) rfl) hx6 (Nat.le_of_ble_eq_true rfl) rfl)<|A.j<|A.I (some 16) [] (fun w s h=>QZ sb lt lm bt mc kc my kb a.bs tl.be mk ck ac x6 ‹_› ‹_› w (s.mem (i:=3) rfl) (s.mem (i:=4) rfl) (s.mem (i:=5) rfl) (s.mem (i:=6) rfl) h) ?_
    rintro⟨⟩-
    refine A.aB<|A.v rfl (fun e5=>?_) (fun e5=>?_)
    ·have p5:=e5;try simp only[dc] at p5
     refine A.c<|A.g [.p,.p] [0,1,7,8,5,11,15,16] [(4,c_ k)]<|A.e<|A.pb [c_ k]<|A.h [.p,.p] [(4,b_<|decide ((k:Int)≥0))] []<|A.e<|A.pb [b_<|decide ((k:Int)≥0)]<|A.hp [.p] [(0,p_ sb),(1,b_ idle),(8,p_ bc1),(11,kU al'3 kc l cl'4),(49,b_<|decide ((k:Int)≥0))] []<|A.aP (decide ((k:Int)≥0)) (fun e6=>?_)<|fun e6=>?_
     ·refine A.D 49 (b_ true) (gu e6)<|A.g [.sk,.sk,.sk,.sk,.sk,.sk,.sk,.sk,.sk,.sk,.sk,.sk,.sk,.sk,.sk,.sk,.p] [1,49] [(66,b_ true)]<|A.ct<|A.c<|A.g [.p,.p] [0,8,11,66] [(6,i_ 0),(7,i_ 24)]<|A.e<|A.Y [3,3,3,3,3,3,3,3] [i_ 0,i_ 24] (0,24,bt,mc,kc,kb,a,on,ka,kk) ?_ ?_
      ·rfl
      exact .inl ⟨by decide,(fun h_=>by obtain⟨h1_,h2_,h3_⟩:=h_;(have h4_:=G4 (p:=mD kc kb) ‹_› ‹_›;rw[h4_] at h2_;cases h2_;done)),rfl,rfl,rfl,rfl,rfl,rfl,rfl,rfl,(if_pos htr).symm,(if_pos htr).symm⟩
     exact absurd e6<|by(intro h_;(simp at h_;done))
    have p5:=e5;try simp only[dc] at p5
    refine A.p<|A.s<|A.k [.w<|(k:Int)+1,.p] [5,11,15,16] [(8,i_<|(k:Int)+1)] [] (o1<|wj ((k:Int)+1)<|by omega)<|A.Z (k+1) ⟨(by omega),(by intro j y hj_ hy_;rcases Nat.lt_succ_iff_lt_or_eq.1 hj_ with h_|rfl;exact hn j y h_ hy_;simp_all)⟩ (by(show(eH kc<|di kc l).length-(k+1)<(eH kc<|di kc l).length-k;omega)) ?_
    exact A.J [0,0,0,0,0,0,0,0,0,0,0]
   have p3:=of_decide_eq_false e3
   refine A.aA<|A.c<|A.g [.p] [0,1,7,8,9] [(4,i_ (-1))]<|A.e<|A.pb [i_ (-1)]<|A.h [.p,.p] [(4,b_ false)] []<|A.e<|A.pb [b_ false]<|A.hq [.p,.p,.p,.p,.ld 3,.p,.cq<|b_<|(eH kc<|di kc l).any (mm kc<|di kc l),.p] [(0,p_ sb),(1,b_ idle),(8,p_ bc1),(11,kU al'3 kc l cl'4),(49,b_ false),(56,b_<|(eH kc<|di kc l).any (mm kc<|di kc l))] [sb] (o1<|qo<|fun w s=>TK bt mc kc bc1 mx2 (di kc l) ‹_› ‹_› w (s.mem (i:=4) rfl) (s.mem (i:=5) rfl) (s.mem (i:=1) rfl) (s.mem (i:=2) rfl))<|A.aP (((eH kc<|di kc l).any (mm kc<|di kc l))) (fun e7=>?_)<|fun e7=>?_
   ·refine A.D 56 (b_ true) (gu e7)<|A.N (ps 3) [1] [(59,b_ (!idle))]<|A.aP (!idle) (fun e8=>?_)<|fun e8=>?_
    ·refine A.D 59 (b_ true) (gu e8)<|A.g [.sk,.sk,.sk,.sk,.p,.p,.p] [49,56,59] [(66,b_ true)]<|A.ct<|A.c<|A.g [.p,.p] [0,8,11,66] [(6,i_ 0),(7,i_ 24)]<|A.e<|A.Y [3,3,3,3,3,3,3,3] [i_ 0,i_ 24] (0,24,bt,mc,kc,kb,a,on,ka,kk) ?_ ?_
     ·rfl
     exact .inl ⟨by decide,(fun h_=>by obtain⟨h1_,h2_,h3_⟩:=h_;(rcases h3_ with h_|⟨h_,h5_⟩;exact Bool.noConfusion<|h_.symm.trans (by assumption:_=true);clear h2_ hn;simp_all;done)),rfl,rfl,rfl,rfl,rfl,rfl,rfl,rfl,(if_pos htr).symm,(if_pos htr).symm⟩
    refine A.D 59 (b_ false) (gu e8)<|A.N [.p] [] [(60,p_ sb)]<|A.j<|A.I (some 61) [] (fun w s h=>zd sb lt lm bt mc kc my kb a.bs tl.be mk ck ac ‹_› ‹_› w (s.mem (i:=3) rfl) (s.mem (i:=4) rfl) (s.mem (i:=5) rfl) (s.mem (i:=6) rfl) h) ?_
    rintro⟨al'7,cl'8⟩-
    refine A.g (ps 5) [49,56,59,60,61] [(66,b_<|decide (((eu kc kb).length:Int)>0))]<|A.v rfl (fun e10=>?_) (fun e10=>?_)
    ·have p10:=of_decide_eq_true e10
     refine A.c<|A.g [.p,.p] [0,8,11,66] [(6,i_ 0),(7,i_ 24)]<|A.e<|A.Y [4,4,4,4,4,4,4,4] [i_ 0,i_ 24] (0,24,bt,mc,kc,kb,a,on,ka,kk) ?_ ?_
     ·rfl
     exact .inl ⟨by decide,(fun h_=>by obtain⟨h1_,h2_,h3_⟩:=h_;(rcases h3_ with h_|⟨h_,h5_⟩;exact Bool.noConfusion<|h_.symm.trans (by assumption:_=true);clear h2_ hn;simp_all;done)),rfl,rfl,rfl,rfl,rfl,rfl,rfl,rfl,(if_pos htr).symm,(if_pos htr).symm⟩
    have p10:=of_decide_eq_false e10
    refine A.p<|A.aK () (by exact⟨by assumption,BQ (by omega) hn,by(right;simp_all;done)⟩) ?_
    exact A.J [1,1,1,1,1,1,1,1,1,1,1]
   refine A.D 56 (b_ false) (gu e7)<|A.g [.sk,.sk,.sk,.sk,.sk,.sk,.sk,.sk,.p,.p] [1,49,56] [(66,b_ false)]<|A.cf<|A.p<|A.aK () (by exact⟨by assumption,BQ (by omega) hn,by(left;simp_all;done)⟩) ?_
   exact A.J [0,0,0,0,0,0,0,0,0,0,0]
  rintro _ hch
  have hch:qT kc lt idle kb l:=hch
  refine A.c<|A.gs [.p,.p,.p,.p,.st 3] [] [] [(3,nE sb lt lm bc1 my a tl mk ck ac)] [sb]<|A.d<|A.c<|A.g (ps 3) [11] [(71,kU al'3 kc l cl'4),(72,o7 kc l),(73,i_ 0)]<|A.y<|A.lp (σ:=Nat×(List<|Int×En)×(List<|Int×Vt)) [] (fun(kt,kbk,kkk)=>[(73,c_ kt)]) [6,8] (fun(kt,kbk,kkk)=>[eT my kbk,ep mk kkk]) (fun(kt,kbk,kkk)=>(kt≤(eH kc<|di kc l).length)∧(∀kb' kk',nN (di kc l) ((eH kc<|di kc l).drop kt) kbk kkk kb' kk'→nN (di kc l) (eH kc<|di kc l) kb kk kb' kk')) (fun(kt,kbk,kkk)=>(eH kc<|di kc l).length-kt) (0,kb,kk) ⟨(by omega),(fun _ _ h=>h)⟩ ?_ ?_
  ·exact A.J [6,8,0,0,0,0,0,0,0,0,0]
  rintro⟨kt,kbk,kkk⟩ ⟨hkt,hC⟩
  refine A.c<|A.g [.p] [] [(74,b_<|decide ((kt:Int)<((eH kc<|di kc l).length:Int)))]<|A.d<|A.v rfl (fun e11=>?_) (fun e11=>?_)
  ·have p11:=of_decide_eq_true e11
   refine A.p<|A.d<|A.y<|A.c<|A.kp [.ix] [74] [(75,.pointer<|some<|(dR al'3).add (kt*1))] [] (o1<|dW 2 kt fD rfl (by omega)) ?_
   obtain⟨x10,hx10⟩: ∃x,((eH kc<|di kc l))[kt]? =some x:=⟨_,List.getElem?_eq_getElem<|by omega⟩
   refine A.k [.rd [i_ x10],.p] [75] [(13,i_ x10)] [] (o1<|ro ((dR al'3).add (kt*1))<|fS (vs:=[i_ x10]) fD (fM (i:=2) rfl) hx10 (Nat.le_of_ble_eq_true rfl) rfl)<|A.c<|A.no [.p,.p,.cq<|.tuple #[.agg (o6 kc l x10).toArray,i_<|fZ (di kc l) x10],.p,.p,.p,.al,.st 11,.p] [] (fun b11=>[(14,p_ b11),(15,i_<|fZ (di kc l) x10)]) (fun b11=>[]) (fun b11=>cw b11 (o6 kc l x10) 62) (fun b11=>[b11]) (fun b11=>o1<|qo<|fun w s=>rK bc1 mx2 (di kc l) x10 w (s.mem (i:=3) rfl)<|s.mem (i:=4) rfl) ?_
   intro b11
   refine A.c<|A.gm [.p,.p,.p,.ld 5,.p] [] [(86,.map<|some my),(87,i_ x10)] [sb]<|A.j<|A.bZ (f:=fz) (kt:=3) (et:=167) (ek:=(fun k:Int=>i_ k)) (ev:=(fun m:En=>p_ m.eb)) (kv:=kbk) (k:=x10) (H':=[eT my<|dJ kbk x10,ep mk kkk,sI al'3 (eH kc<|di kc l) cl'4,kV bc1 mx2,dy mx2<|di kc l,nE sb lt lm bc1 my a tl mk ck ac,kV bt mc,dy mc kc,fE a on ka,fY tl et ek,fA W,cw b11 (o6 kc l x10) 62]) 0 (by kernel_rfl) rfl rfl rfl (by kernel_rfl) (ee<|by kernel_rfl) rfl rfl (A.aB<|A.c<|A.hp [.p,.p,.p,.ld 5,.p] [(0,p_ sb),(8,p_ bc1),(71,kU al'3 kc l cl'4),(72,o7 kc l),(73,c_ kt),(13,i_ x10),(14,p_ b11),(15,i_<|fZ (di kc l) x10),(91,.map<|some mk),(92,i_ x10)] [sb]<|A.j<|A.bZ (f:=(ew 192)) (kt:=3) (et:=136) (ek:=(fun k:Int=>i_ k)) (ev:=(fun m:Vt=>p_ m.be)) (kv:=kkk) (k:=x10) (H':=[ep mk<|dJ kkk x10,eT my<|dJ kbk x10,sI al'3 (eH kc<|di kc l) cl'4,kV bc1 mx2,dy mx2<|di kc l,nE sb lt lm bc1 my a tl mk ck ac,kV bt mc,dy mc kc,fE a on ka,fY tl et ek,fA W,cw b11 (o6 kc l x10) 62]) 1 (by kernel_rfl) rfl rfl rfl (by kernel_rfl) (ee<|by kernel_rfl) rfl rfl (A.aB<|A.d<|A.c<|A.h [.p,.p] [(0,p_ sb),(8,p_ bc1),(71,kU al'3 kc l cl'4),(72,o7 kc l),(73,c_ kt),(13,i_ x10),(14,p_ b11),(15,i_<|fZ (di kc l) x10),(94,b_<|(fZ (di kc l) x10)==0)] []<|A.v rfl (fun e12=>?_) (fun e12=>?_)))
   ·have p12:=e12;try simp only[dc] at p12
    refine A.d3 [6,7] 8 [ep mk<|dJ kkk x10,sI al'3 (eH kc<|di kc l) cl'4,kV bc1 mx2,dy mx2<|di kc l,nE sb lt lm bc1 my a tl mk ck ac,kV bt mc,dy mc kc,fE a on ka,fY tl et ek,fA W,cw b11 (o6 kc l x10) 62]<|A.bT 2 [.p,.p,.p,.ld 4,.p,.ld 10] (rg 0 6) [(0,p_ sb),(8,p_ bc1),(71,kU al'3 kc l cl'4),(72,o7 kc l),(73,c_ kt),(13,i_ x10),(14,p_ b11),(15,i_<|fZ (di kc l) x10),(98,.map<|some my),(99,i_ x10),(100,.agg (o6 kc l x10).toArray)] [sb,b11] (sd [1])<|A.o3 6 rfl (A.I (some 101) [] (fun w s h=>OQ (dD (di kc l) x10) (M4 hL3 ‹_›) w h) ?_)
    rintro m12 hz13
    refine A.aF (sd [2,0])<|A.o3 7 rfl (A.bP (f:=fz) (kt:=3) (et:=167) (ek:=(fun k:Int=>i_ k)) (ev:=(fun m:En=>p_ m.eb)) (kv:=(dJ kbk x10)) (k:=x10) (H':=[eT my<|dC (dJ kbk x10) x10 m12,ep mk<|dJ kkk x10,sI al'3 (eH kc<|di kc l) cl'4,kV bc1 mx2,dy mx2<|di kc l,nE sb lt lm bc1 my a tl mk ck ac,kV bt mc,dy mc kc,fE a on ka,fY tl et ek,fA W,cw b11 (o6 kc l x10) 62]) 2 0 m12 (by kernel_rfl) rfl rfl rfl rfl (by kernel_rfl) (ee<|by kernel_rfl) rfl rfl rfl (A.aF (sd [0])<|A.f3<|A.c<|A.h [.p,.p,.p,.o,.p,.ld 11,.p,.cl] [(0,p_ sb),(8,p_ bc1),(71,kU al'3 kc l cl'4),(72,o7 kc l),(73,c_ kt),(13,i_ x10),(108,b_<|((fZ (di kc l) x10)==0)&&(!((dD (di kc l) x10).hl)))] [b11]<|A.v rfl (fun e14=>?_) (fun e14=>?_)))
    ·have p14:=e14;try simp only[dc] at p14
     refine A.d3 [5,6] 7 [eT my<|dC (dJ kbk x10) x10 m12,sI al'3 (eH kc<|di kc l) cl'4,kV bc1 mx2,dy mx2<|di kc l,nE sb lt lm bc1 my a tl mk ck ac,kV bt mc,dy mc kc,fE a on ka,fY tl et ek,fA W,cw b11 (o6 kc l x10) 62]<|A.bT 2 [.p,.p,.p,.ld 4,.p] (rg 0 5) [(0,p_ sb),(8,p_ bc1),(71,kU al'3 kc l cl'4),(72,o7 kc l),(73,c_ kt),(112,.map<|some mk),(113,i_ x10)] [sb] (sd [1])<|A.o3 5 rfl (A.I (some 114) [] (fun w s h=>uu w h) ?_)
     rintro v13 hz15
     refine A.aF (sd [2,0])<|A.o3 6 rfl (A.bP (f:=(ew 192)) (kt:=3) (et:=136) (ek:=(fun k:Int=>i_ k)) (ev:=(fun m:Vt=>p_ m.be)) (kv:=(dJ kkk x10)) (k:=x10) (H':=[ep mk<|dC (dJ kkk x10) x10 v13,eT my<|dC (dJ kbk x10) x10 m12,sI al'3 (eH kc<|di kc l) cl'4,kV bc1 mx2,dy mx2<|di kc l,nE sb lt lm bc1 my a tl mk ck ac,kV bt mc,dy mc kc,fE a on ka,fY tl et ek,fA W,cw b11 (o6 kc l x10) 62]) 2 0 v13 (by kernel_rfl) rfl rfl rfl rfl (by kernel_rfl) (ee<|by kernel_rfl) rfl rfl rfl (A.aF (sd [0])<|A.f3<|A.s<|A.hk [.w<|(kt:Int)+1,.p] [(0,p_ sb),(8,p_ bc1),(71,kU al'3 kc l cl'4),(72,o7 kc l),(73,i_<|(kt:Int)+1)] [] (o1<|wj ((kt:Int)+1)<|by omega)<|A.Z (kt+1,dC (dJ kbk x10) x10 m12,dC (dJ kkk x10) x10 v13) ⟨(by omega),(by exact fun _ _ h=>hC _ _<|ze ‹_› (.inr ⟨by assumption,_,by assumption,rfl,.inr ⟨by(simp_all;done),_,(by assumption:_∧_).1,(by assumption:_∧_).2,rfl⟩⟩) h)⟩ (by(show(eH kc<|di kc l).length-(kt+1)<(eH kc<|di kc l).length-kt;omega)) ?_))
     exact A.J [1,0,0,0,0,0,0,0,0,0,0]
    have p14:=e14;try simp only[dc] at p14
    refine A.p<|A.s<|A.k [.w<|(kt:Int)+1,.p] [13,108] [(73,i_<|(kt:Int)+1)] [] (o1<|wj ((kt:Int)+1)<|by omega)<|A.Z (kt+1,dC (dJ kbk x10) x10 m12,dJ kkk x10) ⟨(by omega),(by exact fun _ _ h=>hC _ _<|ze ‹_› (.inr ⟨by assumption,_,by assumption,rfl,.inl ⟨by(simp_all;done),rfl⟩⟩) h)⟩ (by(show(eH kc<|di kc l).length-(kt+1)<(eH kc<|di kc l).length-kt;omega)) ?_
    exact A.J [0,0,0,0,0,0,0,0,0,0,0]
   have p12:=e12;try simp only[dc] at p12
   refine A.p<|A.c<|A.gl [.p,.p,.p,.o,.p,.ld 11,.p,.cl] [14,15,94] [(108,b_<|((fZ (di kc l) x10)==0)&&(!((dD (di kc l) x10).hl)))] [b11]<|A.v rfl (fun e16=>?_) (fun e16=>?_)
   ·exact absurd e16<|by(intro h_;simp_all)
   have p16:=e16;try simp only[dc] at p16
   refine A.p<|A.s<|A.k [.w<|(kt:Int)+1,.p] [13,108] [(73,i_<|(kt:Int)+1)] [] (o1<|wj ((kt:Int)+1)<|by omega)<|A.Z (kt+1,dJ kbk x10,dJ kkk x10) ⟨(by omega),(fun _ _ h=>hC _ _<|ze ‹_› (.inl ⟨by assumption,rfl,rfl⟩) h)⟩ (by(show(eH kc<|di kc l).length-(kt+1)<(eH kc<|di kc l).length-kt;omega)) ?_
   exact A.J [1,0,0,0,0,0,0,0,0,0,0]
  have p11:=of_decide_eq_false e11
  refine A.aA<|A.c<|A.N [.p,.p] [8,71,72,73,74] [(116,p_ sb),(117,p_ bc1)]<|A.j<|A.I (some 118) [] (fun w s h=>JO bc1 mx2 (di kc l) (by omega) w (s.mem (i:=3) rfl) (s.mem (i:=4) rfl) h) ?_
  rintro a14 hz17
  refine A.gs [.p,.p,.st 6] [116,117,118] [] [(6,nE sb lt lm bc1 my a14 tl mk ck ac)] [sb]<|A.d<|A.d ?_
  have hB3:=IC hB hnb<|hC _ _ (by rw[List.drop_eq_nil_of_le<|by omega];exact⟨rfl,rfl⟩)
  have hya:a14.ym=fO (di kc l):=by assumption
  have hdp:=fun i=>hya▸uA hL3 i
  have hlf:(eu (di kc l) kbk).length≤64:=Nat.le_trans (List.length_filter_le _ _)<|Nat.le_trans (oN _ _) hL3.len
  refine A.s<|A.N [.p] [] [(121,p_ sb)]<|A.j<|A.I (some 122) [] (fun w s h=>zd sb lt lm bc1 mx2 (di kc l) my kbk a14.bs tl.be mk ck ac ‹_› ‹_› w (s.mem (i:=6) rfl) (s.mem (i:=4) rfl) (s.mem (i:=5) rfl) (s.mem (i:=1) rfl) h) ?_
  rintro⟨al'15,cl'16⟩-
  refine A.g [.p,.p] [121] [(122,vS al'15 (eu (di kc l) kbk) cl'16),(123,i_ ((eu (di kc l) kbk).length:Int)),(124,i_ 0)]<|A.y<|A.lp (σ:=Nat×(List<|Int×Int)×(List<|Int×MB)) [] (fun(k2,onk,kak)=>[(124,c_ k2)]) [1] (fun(k2,onk,kak)=>[fE a14 onk kak]) (fun(k2,onk,kak)=>(k2≤(eu (di kc l) kbk).length)∧(∀on' ka',ow a14.ym ((eu (di kc l) kbk).drop k2) onk kak on' ka'→ow a14.ym (eu (di kc l) kbk) [] [] on' ka')) (fun(k2,onk,kak)=>(eu (di kc l) kbk).length-k2) (0,[],[]) ⟨(by omega),(fun _ _ h=>h)⟩ ?_ ?_
  ·exact A.J [1,0,0,0,0,0,0,0,0,0,0,0,0]
  rintro⟨k2,onk,kak⟩ ⟨hk2,hO⟩
  refine A.c<|A.h [.p] [(0,p_ sb),(122,vS al'15 (eu (di kc l) kbk) cl'16),(123,i_ ((eu (di kc l) kbk).length:Int)),(124,c_ k2),(125,b_<|decide ((k2:Int)<((eu (di kc l) kbk).length:Int)))] []<|A.d<|A.v rfl (fun e19=>?_) (fun e19=>?_)
  ·have p19:=of_decide_eq_true e19
   refine A.p<|A.d<|A.y<|A.c<|A.kp [.ix] [125] [(126,.pointer<|some<|(dR al'15).add (k2*1))] [] (o1<|dW 1 k2 fD rfl (by omega)) ?_
   obtain⟨x18,hx18⟩: ∃x,((eu (di kc l) kbk))[k2]? =some x:=⟨_,List.getElem?_eq_getElem<|by omega⟩
   refine A.k [.rd [i_ x18],.p] [126] [(17,i_ x18)] [] (o1<|ro ((dR al'15).add (k2*1))<|fS (vs:=[i_ x18]) fD (fM (i:=1) rfl) hx18 (Nat.le_of_ble_eq_true rfl) rfl)<|A.s<|A.gm [.p,.p,.p,.ld 7,.p] [17] [(131,p_ a14.bs),(132,i_ x18)] [sb]<|A.j<|A.I (some 133) [0] (fun w s h=>DL a14 onk kak x18 (hdp _) w h) ?_
   rintro⟨on'19,ka'20,al'21,l'22,cl'23,er24⟩ hz20
   refine A.aB<|A.s<|A.k [.w<|(k2:Int)+1,.p] [131,132,133] [(124,i_<|(k2:Int)+1)] [] (o1<|wj ((k2:Int)+1)<|by omega)<|A.Z (k2+1,on'19,ka'20) ⟨(by omega),(fun _ _ h=>hO _ _<|LY ‹_› ‹_› h)⟩ (by(show(eu (di kc l) kbk).length-(k2+1)<(eu (di kc l) kbk).length-k2;omega)) ?_
   exact A.J [0,1,1,1,1,1,1,1,1,1,1,1,1]
  have p19:=of_decide_eq_false e19
  refine A.aA<|A.c<|A.g [.p,.p] [0,122,123,124,125] [(6,i_ 0),(7,i_ 0)]<|A.e<|A.Y [7,5,5,2,0,6,1,5] [i_ 0,i_ 0] (0,0,bc1,mx2,di kc l,kbk,a14,onk,kak,kkk) ?_ ?_
  ·rfl
  exact .inr ⟨rfl,hch,rfl,hC _ _ (by rw[List.drop_eq_nil_of_le<|by omega];exact⟨rfl,rfl⟩),by assumption,hO _ _ (by rw[List.drop_eq_nil_of_le<|by omega];exact⟨rfl,rfl⟩),rfl⟩
 refine A.ka [.p,.p,.p,.ld 0,.p,.p,.p,.p,.ld 0,.p,.cq<|.tuple #[n_,i_<|ja kc lt l,i_<|iN kc lt l],.p,.p,.p,.p,.p,.p,.p] (rg 0 18) [2,19] [(8,n_),(9,i_<|ja kc lt l),(10,i_<|iN kc lt l)] [sb,sb] (o1<|qo<|fun w s=>Pe bt mc kc lt al l cl ‹_› ‹_› ‹_› ‹_› w (s.mem (i:=1) rfl) (s.mem (i:=2) rfl) ((sJ (i:=7) rfl harr) w s))<|A.d<|A.c<|A.g [.p,.p] [] [(36,b_<|(iN kc lt l)!=0)]<|A.v rfl (fun e21=>?_) (fun e21=>?_)
 ·have p21:=e21;try simp only[dc] at p21
  refine A.c<|A.g (ps 4) [0,1,8,9,10,36] [(6,i_<|ja kc lt l),(7,i_<|iN kc lt l)]<|A.e<|A.Y [0,0,0,0,0,0,0,0] [i_<|ja kc lt l,i_<|iN kc lt l] ((ja kc lt l),iN kc lt l,bt,mc,kc,kb,a,on,ka,kk) ?_ ?_
  ·rfl
  exact .inl ⟨by assumption,(fun h_=>by obtain⟨h1_,h2_,h3_⟩:=h_;exact absurd h1_ htr),rfl,rfl,rfl,rfl,rfl,rfl,rfl,rfl,(if_neg htr).symm,(if_neg htr).symm⟩
 exact absurd e21<|by(intro h_;simp at h_;exact htr h_)
structure Ss where
 sb:Nat
 lt:Int
 lm:Int
 my:Nat
 kp:Nat
 tl:Vt
structure Sd where
 bt:Nat
 mc:Nat
 kc:List (Int×Cl)
 kb:List (Int×En)
 a:Ac
 on:List (Int×Int)
 ka:List (Int×MB)
 et:T
 ek:List (Int×It)
 kk:List (Int×Vt)
 ck:Int
 ac:Int
def lI(c:Ss)(d:Sd):List V.dB:=[cw c.sb [i_ c.lt,i_ c.lm,p_ d.bt,.map<|some c.my,p_ d.a.bs,p_ c.tl.be,.map<|some c.kp,u_ d.ck,u_ d.ac] 141,cw d.bt [.map<|some d.mc] 185,dy d.mc d.kc,eT c.my d.kb,fE d.a d.on d.ka,fY c.tl d.et d.ek,ep c.kp d.kk]
def fF(c:Ss)(d:Sd):V.dB:=co<|lI c d
structure od(c:Ss)(d:Sd):Prop where
 lt1:1≤c.lt∧c.lt≤65536
 lm1:1≤c.lm∧c.lm≤16384
 laid:dr d.kc
 aok:mH d.kc
 by_:fH d.kc d.kb
 nb:(d.kb.map (·.1)).Nodup
 kd:jg d.kc 600 d.kk
 ym:d.a.ym=fO d.kc
 el:dq d.et d.ek
 len:d.ek.length≤600
 desc: ∀now,o0 d.kb d.kk now 17 0
 pk: ∀i m,cu d.kb i=some m→ ∀p∈qC m.q,1≤p.qn∧p.qn≤16384
 ch: ∀now,(eU d.et d.kb d.kk now).2.2=true→ ∃m,cu d.kb (eU d.et d.kb d.kk now).1=some m∧qC m.q≠[]
def pI(d:Sd):Prop:=(d.kb.map (·.1)).Nodup∧(d.kk.map (·.1)).Nodup∧(d.on.map (·.1)).Nodup
variable{d:Sd}
theorem BS{c:Ss}{w:World}(h:(fF c d).holds w):pI d:=by
 have h1:=h (eT c.my d.kb)<|by simp[lI]
 have h2:=h (ep c.kp d.kk)<|by simp[lI]
 have h3:=h (fE d.a d.on d.ka)<|by simp[lI]
 exact⟨(mT h1).2,(oZ h2).2,(show(gK d.a.mo d.on).holds w from h3 _<|by simp[jA]).2⟩
def Jo(d d':Sd):Prop:=d'.bt=d.bt∧d'.mc=d.mc∧d'.kc=d.kc∧d'.a=d.a∧pI d'
def nj(d:Sd)(now:Int)(z:Pd)(ok:Bool)(d':Sd):Prop:=Jo d d'∧d'.ck=now∧d'.ac=d.ac∧yQ d.kc (eU d.et d.kb d.kk now) z ok d.kb d.a.ym d.on d.ka d.et d.ek d.kk d'.kb d'.on d'.ka d'.et d'.ek d'.kk
def nt(c:Ss)(d:Sd)(now ci:Int)(p:Pk)(er:Int)(d':Sd):Prop:=Jo d d'∧d'.ck=now∧yW d.kc c.lm now ci p er d.kb d.a.ym d.on d.ka d.et d.ek d.kk d.ac d'.kb d'.on d'.ka d'.et d'.ek d'.kk d'.ac
def qy(c:Ss)(d:Sd)(idle:Bool)(l:List Zc)(pl er:Int)(d':Sd):Prop:=d'.et=d.et∧d'.ek=d.ek∧d'.ck=d.ck∧d'.ac=d.ac∧G5 c.lt idle l pl er d.bt d.mc d.kc d.kb d.a d.on d.ka d.kk d'.bt d'.mc d'.kc d'.kb d'.a d'.on d'.ka d'.kk∧pI d'
theorem Q1(c:Ss)(d:Sd)(now:Int)(h:od c d)(h1:d.ck≤now)(h2:now≤4611686018427387904)(w:World)(hs:HS w (dE [fF c d]) [fF c d] w):Calls Tryz.prog 114 #[p_ c.sb,u_ now] w fun e w'=> ∃zz:Pd×Bool×Sd,e= .returned (.tuple #[.agg (CY zz.1).toArray,b_ zz.2.1])∧nj d now zz.1 zz.2.1 zz.2.2∧Turn [fF c d] [fF c zz.2.2] w w':=by
 refine(QU c.sb c.lt c.lm d.bt d.mc d.kc c.my d.kb d.a d.on d.ka c.tl d.et d.ek c.kp d.kk d.ck d.ac now h.laid h.by_ h.kd h.ym h.el h.len (h.desc now) (h.ch now) h1 h2 w<|HS.coS hs).mono ?_
 rintro e w' ⟨⟨z,ok,kb',on',ka',et',ek',kk'⟩,a1,a2,a3⟩
 exact⟨(z,ok,{d with kb:=kb',on:=on',ka:=ka',et:=et',ek:=ek',kk:=kk',ck:=now}),a1,⟨⟨rfl,rfl,rfl,rfl,BS (c:=c)<|(Turn.coS a3).all _ (List.mem_singleton.2 rfl)⟩,rfl,rfl,a2⟩,Turn.coS a3⟩
theorem UA(c:Ss)(d:Sd)(now ci:Int)(p:Pk)(h:od c d)(h1:d.ck≤now)(h2:now≤4611686018427387904)(w:World)(hs:HS w (dE [fF c d]) [fF c d] w):Calls Tryz.prog 76 #[p_ c.sb,u_ now,i_ ci,.agg (gn p).toArray] w fun e w'=> ∃zz:Int×Sd,e= .returned (i_ zz.1)∧nt c d now ci p zz.1 zz.2∧Turn [fF c d] [fF c zz.2] w w':=by
 refine(Tq c.sb c.lt c.lm d.bt d.mc d.kc c.my d.kb d.a d.on d.ka c.tl d.et d.ek c.kp d.kk d.ck d.ac now ci p h.laid h.by_ h.kd h.ym h.el h.len h.lm1.2 h1 h2 w<|HS.coS hs).mono ?_
 rintro e w' ⟨⟨er,kb',on',ka',et',ek',kk',ac'⟩,a1,a2,a3⟩
 exact⟨(er,{d with kb:=kb',on:=on',ka:=ka',et:=et',ek:=ek',kk:=kk',ck:=now,ac:=ac'}),a1,⟨⟨rfl,rfl,rfl,rfl,BS (c:=c)<|(Turn.coS a3).all _ (List.mem_singleton.2 rfl)⟩,rfl,a2⟩,Turn.coS a3⟩
theorem UB(c:Ss)(d:Sd)(h:od c d)(w:World)(r:(fF c d).holds w):Calls Tryz.prog 119 #[p_ c.sb] w fun e w'=>e= .returned (u_<|jh d.et d.kk)∧Fr [] w w':=by
 have hv: ∃v,cu d.kk 0=some v∧dq v.t v.kv:=by obtain⟨v,h1,h2,-⟩:=h.kd 0<|.inl rfl;exact⟨v,h1,h2⟩
 exact QX c.sb c.lt c.lm d.bt d.mc d.kc c.my d.kb d.a d.on d.ka c.tl d.et d.ek c.kp d.kk d.ck d.ac h.el hv w (r _<|by simp[lI]) (r _<|by simp[lI]) (r _<|by simp[lI]) (r _<|by simp[lI]) (r _<|by simp[lI]) (r _<|by simp[lI])<|r _<|by simp[lI]
theorem M6(c:Ss)(d:Sd)(W:World)(idle:Bool)(al:Option Addr)(l:List Zc)(cl:Nat)(h:od c d)(ha:eo W al (V.dF jS l))(hz: ∀z∈l,j0 z)(w:World)(hs:HS w (dE [fF c d,fA W]) [fF c d,fA W] w):Calls Tryz.prog 46 #[p_ c.sb,b_ idle,vS al l cl] w fun e w'=> ∃zz:Int×Int×Sd,e= .returned (.tuple #[i_ zz.1,i_ zz.2.1])∧qy c d idle l zz.1 zz.2.1 zz.2.2∧Turn [fF c d,fA W] [fF c zz.2.2,fA W] w w':=by
 refine(M5 c.sb c.lt c.lm d.bt d.mc d.kc c.my d.kb d.a d.on d.ka c.tl d.et d.ek c.kp d.kk d.ck d.ac W idle al l cl ha h.laid h.aok hz h.by_ h.nb w ?_).mono ?_
 ·have:=hs.coO (l:=lI c d) (R:=[fA W]);rwa[show dE [fF c d,fA W]=dE (lI c d++[fA W]) from mR _ _] at this
 rintro e w' ⟨⟨pl,er,bt',mc',kc',kb',a',on',ka',kk'⟩,a1,a2,a3⟩
 have h3:Turn [fF c d,fA W] [fF c {d with bt:=bt',mc:=mc',kc:=kc',kb:=kb',a:=a',on:=on',ka:=ka',kk:=kk'},fA W] w w':=Turn.coI (X:=[fA W]) (Y:=[fA W]) (Is:=lI c d) (Os:=lI c _) a3
 exact⟨(pl,er,{d with bt:=bt',mc:=mc',kc:=kc',kb:=kb',a:=a',on:=on',ka:=ka',kk:=kk'}),a1,⟨rfl,rfl,rfl,rfl,a2,BS<|h3.all _<|List.mem_cons_self ..⟩,h3⟩
def gh:Int:=18446744073709551615
def mg(kk:List (Int×Vt))(i:Int):Int:=i9<|((cu kk i).map fun v:Vt=>v.t.toL).getD []
def oJ(kc:List (Int×Cl))(p:Int):Prop:=p=0∨ ∃c,cu kc p=some c∧c.hl=false
structure Ug(kc:List (Int×Cl))(A:Int→Prop)(kk:List (Int×Vt))(E:Int→Prop)(p:Int)(v:Vt):Prop where
 er:dq v.t v.kv
 key: ∀i,cu v.kv i≠none↔A i∧(dD kc i).hp=p
 rng: ∀i y,cu v.kv i=some y→y.ka≤gh
 fit: ∀i y,cu v.kv i=some y→(dD kc i).hl=false→ ¬E i→mg kk i≤y.va
def KT(kc:List (Int×Cl))(A:Int→Prop)(kk:List (Int×Vt))(E:Int→Prop):Prop:= ∀p,oJ kc p→ ∃v,cu kk p=some v∧Ug kc A kk E p v
variable{B E E':Int→Prop}
theorem pn(h:KT kc B kk E)(he: ∀q,B q→E q→E' q):KT kc B kk E':=fun p hp=>by
 obtain⟨v,h1,h2⟩:=h p hp
 exact⟨v,h1,h2.er,h2.key,h2.rng,fun i y hy hl hn=>h2.fit i y hy hl fun hE=>hn<|he i ((h2.key i).1 (by rw[hy];simp)).1 hE⟩
variable{v:Vt}
theorem u3{p:Int}(h:p≠i):mg (dC kk p v) i=mg kk i:=by unfold mg;rw[fm,if_neg h]
variable{c:Cl}
theorem UE(hL:dr kc)(h:cu kc i=some c):c.hp≠i:=by
 obtain⟨h1,h2⟩:=hL.key i c h
 have:=sA h2;omega
variable{t:T}
theorem IM(hL:dr kc)(h:KT kc B kk E)(hc:cu kc z=some c)(hm:m.ec=c)(hv:cu kk c.hp=some v)
  (ha:fR on ka z=true)(hr:m.sh.sq11≤gh)(he:dq t (tY on ka kk m z v t).kv)(hE: ∀q,E q→q=z∨E' q)(hp:E' c.hp):KT kc (fun q=>B q∨q=z) (dC kk c.hp<|tY on ka kk m z v t) E':=by
 have hzc:=UE hL hc
 have hgz:dD kc z=c:=iu hc
 have hhi:m.ec.hi=z:=by rw[hm];exact(hL.key z c hc).1
 intro p hpi
 obtain⟨v0,h1,h2⟩:=h p hpi
 by_cases e:c.hp=p
 ·subst e
  rw[hv] at h1;cases h1
  refine⟨_,jM _ _ _,he,fun i=>?_,fun i y hy=>?_,fun i y hy hl hn=>?_⟩
  ·show cu (dC v.kv z _) i≠none↔_
   rw[fm];by_cases q:z=i
   ·rw[if_pos q];subst q;simp[hgz]
   ·rw[if_neg q,h2.key];simp[show¬i=z from fun e=>q e.symm]
  ·change cu (dC v.kv z _) i=some y at hy
   rw[fm] at hy;by_cases q:z=i
   ·rw[if_pos q] at hy;cases hy;exact hr
   ·rw[if_neg q] at hy;exact h2.rng i y hy
  ·change cu (dC v.kv z _) i=some y at hy
   rw[fm] at hy;by_cases q:z=i
   ·subst q
    rw[if_pos rfl] at hy;cases hy
    rw[u3 hzc]
    show mg kk z≤kL on ka kk m
    unfold kL
    rw[hgz] at hl
    rw[if_neg (by rw[hm,hl,←hm,hhi,ha];simp),hhi]
    unfold mg eE;split<;>omega
   ·rw[if_neg q] at hy
    have hne:c.hp≠i:=fun e=>hn<|e▸hp
    rw[u3 hne]
    exact h2.fit i y hy hl fun h5=>hn<|(hE i h5).resolve_left fun e=>q e.symm
 ·refine⟨v0,by rw[fm,if_neg e];exact h1,h2.er,fun i=>?_,h2.rng,fun i y hy hl hn=>?_⟩
  ·rw[h2.key];constructor
   ·rintro⟨a,b⟩;exact⟨.inl a,b⟩
   ·rintro⟨a|a,b⟩
    ·exact⟨a,b⟩
    ·subst a;rw[hgz] at b;exact absurd b e
  ·have h6:=(h2.key i).1 (by rw[hy];simp)
   have hiz:i≠z:=fun q=>by subst q;rw[hgz] at h6;exact e h6.2
   have hne:c.hp≠i:=fun e=>hn<|e▸hp
   rw[u3 hne]
   exact h2.fit i y hy hl fun h5=>hn<|(hE i h5).resolve_left hiz
theorem AY(hL:dr kc)(h:cu kc i=some c):c.hp∈db kc c.hp∨c.hp=0:=by
 rcases hL.par i c h with h1|⟨p,h1,-⟩
 ·exact .inr h1
 ·left;rw[jN hL h1];exact List.mem_cons_self ..
variable{A':Int→Prop}
theorem AZ(hL:dr kc)(hB:fH kc kb)(hR: ∀i m,cu kb i=some m→m.sh.sq11≤gh)(hA: ∀q,cu kc q≠none→(fR on ka q=true↔A' q)):
  ∀(n:Nat)(i:Int)(B:Int→Prop)(kk kk':List (Int×Vt)),dep kc i≤n→kM on ka kb (db kc i) kk kk'→KT kc B kk (fun q=>q∈db kc i∨q=0)→(∀q,B q→A' q)→KT kc (fun q=>B q∨(q∈db kc i∧A' q)) kk' (fun q=>q=0)
 |n,i,B,kk,kk',hn,hS,hK,hBA=>by
  cases e:cu kc i with
  |none=>
   rw[nB e] at hS hK⊢
   cases hS
   have:(fun q=>B q∨(q∈([]:List Int)∧A' q))=B:=by funext q;simp
   rw[this];exact pn hK fun q _ h=>h.resolve_left<|by simp
  |some c=>
   cases n with
   |zero=>rw[jB hL e] at hn;omega
   |succ n=>
    rw[jB hL e] at hn
    rw[jN hL e] at hS hK⊢
    rcases hS with⟨h1,hS⟩|⟨h1,m,v,t,hm,hv,he,hS⟩
    ·have hni: ¬A' i:=fun h=>by have:=(hA i (by rw[e];simp)).2 h;rw[h1] at this;cases this
     have h2:=AZ hL hB hR hA n c.hp B kk kk' (by omega) hS (pn hK fun q hq h=>by
      rcases h with h|h
      ·rcases List.mem_cons.1 h with rfl|h
       ·exact absurd (hBA _ hq) hni
       ·exact .inl h
      ·exact .inr h) hBA
     have:(fun q=>B q∨(q∈i::db kc c.hp∧A' q))=(fun q=>B q∨(q∈db kc c.hp∧A' q)):=by
      funext q;apply propext;constructor
      ·rintro(h|⟨h,h'⟩)
       ·exact .inl h
       ·rcases List.mem_cons.1 h with rfl|h
        ·exact absurd h' hni
        ·exact .inr ⟨h,h'⟩
      ·rintro(h|⟨h,h'⟩)
       ·exact .inl h
       ·exact .inr ⟨List.mem_cons_of_mem _ h,h'⟩
     rw[this];exact h2
    ·have hi:=(hA i (by rw[e];simp)).1 h1
     have hec:m.ec=c:=by have:=lP hB hm;rw[e] at this;cases this;rfl
     rw[hec] at hv hS
     have h2:=IM (E':=fun q=>q∈db kc c.hp∨q=0) hL hK e hec hv h1 (hR i m hm) he (fun q h=>by
      rcases h with h|h
      ·rcases List.mem_cons.1 h with h|h
       ·exact .inl h
       ·exact .inr<|.inl h
      ·exact .inr<|.inr h)<|AY hL e
     have h3:=AZ hL hB hR hA n c.hp _ _ kk' (by omega) hS h2 (fun q h=>by rcases h with h|h;exact hBA q h;rw[h];exact hi)
     have:(fun q=>B q∨(q∈i::db kc c.hp∧A' q))=(fun q=>(B q∨q=i)∨(q∈db kc c.hp∧A' q)):=by
      funext q;apply propext;constructor
      ·rintro(h|⟨h,h'⟩)
       ·exact .inl<|.inl h
       ·rcases List.mem_cons.1 h with h|h
        ·exact .inl<|.inr h
        ·exact .inr ⟨h,h'⟩
      ·rintro((h|h)|⟨h,h'⟩)
       ·exact .inl h
       ·subst h;exact .inr ⟨List.mem_cons_self ..,hi⟩
       ·exact .inr ⟨List.mem_cons_of_mem _ h,h'⟩
     rw[this];exact h3
theorem IN(hL:dr kc)(h:KT kc B kk E)(hc:cu kc z=some c)(hv:cu kk c.hp=some v)(he:dq t (dJ v.kv z)):
  KT kc (fun q=>B q∧q≠z) (dC kk c.hp {v with t:=t,kv:=dJ v.kv z}) (fun q=>E q∨c.hp=q):=by
 have hgz:dD kc z=c:=iu hc
 intro p hpi
 obtain⟨v0,h1,h2⟩:=h p hpi
 by_cases e:c.hp=p
 ·subst e
  rw[hv] at h1;cases h1
  refine⟨_,jM _ _ _,he,fun i=>?_,fun i y hy=>?_,fun i y hy hl hn=>?_⟩
  ·show cu (dJ v.kv z) i≠none↔_
   rw[iG h2.er.nd];by_cases q:z=i
   ·rw[if_pos q];subst q;simp
   ·rw[if_neg q,h2.key];simp[show¬i=z from fun e=>q e.symm]
  ·change cu (dJ v.kv z) i=some y at hy
   rw[iG h2.er.nd] at hy;by_cases q:z=i
   ·rw[if_pos q] at hy;cases hy
   ·rw[if_neg q] at hy;exact h2.rng i y hy
  ·change cu (dJ v.kv z) i=some y at hy
   rw[iG h2.er.nd] at hy;by_cases q:z=i
   ·rw[if_pos q] at hy;cases hy
   ·rw[if_neg q] at hy
    rw[u3 fun e=>hn<|.inr e]
    exact h2.fit i y hy hl fun h5=>hn<|.inl h5
 ·refine⟨v0,by rw[fm,if_neg e];exact h1,h2.er,fun i=>?_,h2.rng,fun i y hy hl hn=>?_⟩
  ·rw[h2.key];constructor
   ·rintro⟨a,b⟩;exact⟨⟨a,fun q=>by subst q;rw[hgz] at b;exact e b⟩,b⟩
   ·rintro⟨⟨a,-⟩,b⟩;exact⟨a,b⟩
  ·rw[u3 fun e=>hn<|.inr e]
   exact h2.fit i y hy hl fun h5=>hn<|.inl h5
theorem Gw(hL:dr kc): ∀(l:List Int)(B E:Int→Prop)(kk kk':List (Int×Vt)),KT kc B kk E→mW kc l kk kk'→KT kc (fun q=>B q∧q∉l) kk' (fun q=>E q∨ ∃z∈l,(dD kc z).hp=q)
 |[],B,E,kk,kk',h,hd=>by
  cases hd
  have:(fun q=>B q∧q∉([]:List Int))=B:=by funext q;simp
  rw[this];exact pn h fun q _ h=> .inl h
 |i::l,B,E,kk,kk',h,⟨c,v,t,hc,hv,he,hd⟩=>by
  have h2:=Gw hL l _ _ _ _ (IN hL h hc hv he) hd
  have:(fun q=>B q∧q∉i::l)=(fun q=>(B q∧q≠i)∧q∉l):=by funext q;simp[and_assoc]
  rw[this]
  refine pn h2 fun q _ hq=>?_
  rcases hq with(hq|hq)|⟨z,hz,hq⟩
  ·exact .inl hq
  ·exact .inr ⟨i,List.mem_cons_self ..,by rw[iu hc];exact hq⟩
  ·exact .inr ⟨z,List.mem_cons_of_mem _ hz,hq⟩
variable{β:Type}
theorem lq: ∀{kv:List (Int×β)},cu kv i≠none↔i∈kv.map (·.1)
 |[]=>by simp[cu]
 |p::kv=>by
  simp only[cu,List.map_cons,List.mem_cons]
  split
  ·rename_i e;simp[e]
  ·rename_i e;rw[lq (kv:=kv)];constructor
   ·exact fun h=> .inr h
   ·rintro(h|h)
    ·exact absurd h.symm e
    ·exact h
structure AO(kc:List (Int×Cl))(on:List (Int×Int))(ka:List (Int×MB))(A:Int→Prop):Prop where
 ast:oy kc (on.map (·.1)) A
 fo:pJ kc A (kx ka)
 nd:(on.map (·.1)).Nodup
variable{A:Int→Prop}
theorem ug(h:AO kc on ka A)(h0:i≠0):fR on ka i=true↔A i:=by
 have e:fR on ka i=true↔cu on i≠none∨kx ka i≠[]:=by
  unfold fR;rw[Bool.or_eq_true,Option.isSome_iff_ne_none,decide_eq_true_eq,gt_iff_lt,List.length_pos_iff]
 rw[e,lq,vQ];constructor
 ·rintro(h3|⟨r,h3⟩)
  ·exact h.ast.ons i h3
  ·obtain⟨h4,h5⟩:=((h.fo i).2 r).1 h3
   rcases h.ast.up r h4 with h6|h6
   ·exact absurd (h5.symm.trans h6) h0
   ·rw[h5] at h6;exact h6
 ·intro h3
  rcases h.ast.sup i h3 with h4|⟨r,h4,h5⟩
  ·exact .inl h4
  ·exact .inr ⟨r,((h.fo i).2 r).2 ⟨h4,h5⟩⟩
theorem rM(hL:dr kc)(h:cu kc i≠none):i≠0:=fun e=>h (by rw[e];exact mU hL)
theorem uv(h:fK kc i=true):cu kc i≠none:=by obtain⟨c,h1,-⟩:=kG h;rw[h1];simp
variable{kv:List (Int×β)}{c:Int}
theorem po{v:β}:i∈(dC kv c v).map (·.1)↔i=c∨i∈kv.map (·.1):=by
 rw[←lq,←lq,fm];split
 ·rename_i e;simp[e]
 ·rename_i e;simp[show¬i=c from fun h=>e h.symm]
theorem rF(hn:(kv.map (·.1)).Nodup):i∈(dJ kv c).map (·.1)↔i≠c∧i∈kv.map (·.1):=by
 rw[←lq,←lq,iG hn];split
 ·rename_i e;simp[e]
 ·rename_i e;simp[show¬i=c from fun h=>e h.symm]
variable{er:Int}
theorem JZ(hL:dr kc)(h:AO kc on ka A)(hr:oG (fO kc) on ka c on' ka' l er)(hs:fK kc c=true)(hl:(dD kc c).hl=true)(hn: ¬A c):
  ∃A',AO kc on' ka' A'∧(∀q,A' q↔A q∨q∈db kc c)∧ ∀i,i∈on'.map (·.1)↔i=c∨i∈on.map (·.1):=by
 have h0:=rM hL<|uv hs
 have hf:jF (fO kc) c=true:=by rw[uU,hs,hl];rfl
 have hi:fR on ka c=false:=by rw[Bool.eq_false_iff];exact fun e=>hn<|(ug h h0).1 e
 rcases hr with⟨-,-,-,-,rfl,hk⟩|⟨h1|h1,-⟩
 ·have hW:CZ kc ((dC on c<|da (fO kc) c).map (·.1)) A c:={
   sh:=h.ast.sh,up:=fun q hq=>(h.ast.up q hq).imp id .inl,sup:=fun q hq=>(h.ast.sup q hq).imp (fun e=>po.2<|.inr e) id,me:= .inl (po.2<|.inl rfl),mysh:=hs,no:=hn
   ons:=fun q hq=>(po.1 hq).symm.imp (h.ast.ons q) id,lf:=fun q hq=>by
    rcases po.1 hq with rfl|hq
    ·exact hl
    ·exact h.ast.lf q hq}
  obtain⟨A',a1,a2,-,-,-⟩:=ID hL 40 c A (kx ka) hW h.fo<|uA hL c
  rw[←hk] at a2
  refine⟨A',⟨a1,a2,kj h.nd _ _⟩,fun q=>?_,fun i=>po⟩
  rw[qm hL a1,qm hL h.ast];constructor
  ·rintro⟨m,h1,h2⟩
   rcases po.1 h1 with rfl|h1
   ·exact .inr h2
   ·exact .inl ⟨m,h1,h2⟩
  ·rintro(⟨m,h1,h2⟩|h2)
   ·exact⟨m,po.2<|.inr h1,h2⟩
   ·exact⟨c,po.2<|.inl rfl,h2⟩
 ·rw[hf] at h1;cases h1
 ·rw[hi] at h1;cases h1
open Classical in
theorem Qx(hL:dr kc)(h:AO kc on ka A)(hr:qR (fO kc) on ka c on' ka' l er)(hc:c∈on.map (·.1)):
  ∃A',AO kc on' ka' A'∧l=(db kc c).filter (fun q=>decide (¬A' q))∧(∀q,A q↔A' q∨q∈db kc c)∧ ∀i,i∈on'.map (·.1)↔i≠c∧i∈on.map (·.1):=by
 have hA:=h.ast.ons c hc
 have hs:=h.ast.sh c hA
 have hl:=h.ast.lf c hc
 have h0:=rM hL<|uv hs
 have hf:jF (fO kc) c=true:=by rw[uU,hs,hl];rfl
 have hi:fR on ka c=true:=(ug h h0).2 hA
 rcases hr with⟨-,-,-,rfl,rfl,hk⟩|⟨h1|h1,-⟩
 ·have hW:BU kc ((dJ on c).map (·.1)) A c:={
   sh:=h.ast.sh,up:=h.ast.up,sup:=fun q hq hne=>(h.ast.sup q hq).imp (fun e=>(rF h.nd).2 ⟨hne,e⟩) id,me:=hA,no:=fun e=>((rF h.nd).1 e).1 rfl
   lone:=fun r hr e=>by
    rcases rJ hL (h.ast.sh r hr) with h1|h1
    ·exact h0<|e.symm.trans h1
    ·rw[e,hl] at h1;exact Bool.noConfusion h1.2
   ons:=fun q hq=>h.ast.ons q ((rF h.nd).1 hq).2,lf:=fun q hq=>h.ast.lf q ((rF h.nd).1 hq).2}
  obtain⟨A',a1,a2,-,a4⟩:=G9 hL 40 c A (kx ka) hW h.fo<|uA hL c
  rw[←hk] at a2
  refine⟨A',⟨a1,a2,kB h.nd _⟩,a4.trans<|List.filter_congr fun q _=>decide_eq_decide.2 Iff.rfl,fun q=>?_,fun i=>rF h.nd⟩
  rw[qm hL a1,qm hL h.ast];constructor
  ·rintro⟨m,h1,h2⟩
   by_cases e:m=c
   ·subst e;exact .inr h2
   ·exact .inl ⟨m,(rF h.nd).2 ⟨e,h1⟩,h2⟩
  ·rintro(⟨m,h1,h2⟩|h2)
   ·exact⟨m,((rF h.nd).1 h1).2,h2⟩
   ·exact⟨c,hc,h2⟩
 ·rw[hf] at h1;cases h1
 ·rw[hi] at h1;cases h1
theorem Aa{f g:Int→Nat}(h: ∀j,j≠i→g j=f j): ∀{l:List Int},l.Nodup→i∈l→(l.map g).sum+f i=(l.map f).sum+g i
 |[],_,hi=>by cases hi
 |a::l,hn,hi=>by
  obtain⟨h1,h2⟩:=List.nodup_cons.1 hn
  have hs: ∀l:List Int,i∉l→(l.map g).sum=(l.map f).sum:=fun l hl=>by
   congr 1;exact List.map_congr_left fun j hj=>h j fun e=>hl<|e▸hj
  rcases List.mem_cons.1 hi with e|hi
  ·subst e;simp only[List.map_cons,List.sum_cons];rw[hs l h1];omega
  ·have:=Aa h h2 hi
   have e:a≠i:=fun e=>h1<|e▸hi
   simp only[List.map_cons,List.sum_cons];rw[h a e];omega
theorem wu{f:Int→Nat}: ∀{l k:List Int},l.Nodup→(∀i∈l,f i≠0→i∈k)→(l.map f).sum≤(k.map f).sum
 |[],_,_,_=>by simp
 |a::l,k,hn,h=>by
  obtain⟨h1,h2⟩:=List.nodup_cons.1 hn
  by_cases e:f a=0
  ·have:=wu (k:=k) h2 fun i hi=>h i<|List.mem_cons_of_mem _ hi
   simp only[List.map_cons,List.sum_cons];omega
  ·have hk:=h a (List.mem_cons_self ..) e
   have hp:(k.map f).sum=((a::k.erase a).map f).sum:=((List.perm_cons_erase hk).map f).sum_nat
   rw[hp]
   have:=wu (f:=f) (k:=k.erase a) h2 fun i hi hf=>(List.mem_erase_of_ne<|fun e=>h1 (by rw[←e];exact hi)).2 (h i (List.mem_cons_of_mem _ hi) hf)
   simp only[List.map_cons,List.sum_cons];omega
def vw(m:En):Cl×Option Nat×Qu:=(m.ec,m.qb,m.q)
def KQ(kb kb':List (Int×En)):Prop:= ∀j,(cu kb' j).map vw=(cu kb j).map vw
theorem oW:KQ kb kb:=fun _=>rfl
theorem uQ{a b c:List (Int×En)}(h:KQ a b)(g:KQ b c):KQ a c:=fun j=>(g j).trans (h j)
theorem uh{m':En}(hm:cu kb i=some m)(e:vw m'=vw m):KQ kb (dC kb i m'):=fun j=>by
 rw[fm];by_cases q:i=j
 ·rw[if_pos q];subst q;rw[hm];simp[e]
 ·rw[if_neg q]
def qk(kb:List (Int×En))(i:Int):List Pk:=((cu kb i).map fun m:En=>qC m.q).getD []
theorem kZ(h:cu kb i=some m):qk kb i=qC m.q:=by unfold qk;rw[h];rfl
theorem C9(h:KQ kb kb'){j:Int}(hm:cu kb' j=some m): ∃n,cu kb j=some n∧m.ec=n.ec∧m.qb=n.qb∧m.q=n.q:=by
 have h1:=h j;rw[hm] at h1
 cases e:cu kb j with
 |none=>rw[e] at h1;cases h1
 |some n=>rw[e] at h1;simp[vw] at h1;exact⟨n,rfl,h1⟩
theorem J0(h:KQ kb kb'){j:Int}(hm:cu kb' j=none):cu kb j=none:=by
 have h1:=h j;rw[hm] at h1
 cases e:cu kb j with
 |none=>rfl
 |some n=>rw[e] at h1;cases h1
theorem J1(h:KQ kb kb')(j:Int):qk kb' j=qk kb j:=by
 cases e:cu kb' j with
 |none=>unfold qk;rw[e,J0 h e]
 |some m=>obtain⟨n,h1,-,-,h2⟩:=C9 h e;rw[kZ e,kZ h1,h2]
theorem yU(h:KQ kb kb')(hB:fH kc kb):fH kc kb':=fun j=>by
 cases e:cu kb' j with
 |none=>have:=(hB j).1;rw[J0 h e] at this;exact⟨this,fun m h=>by cases h⟩
 |some m=>
  obtain⟨n,h1,h2,h3,h4⟩:=C9 h e
  have:=hB j;rw[h1] at this
  exact⟨by rw[←this.1];simp[h2],fun m' h=>by cases h;exact Hq (this.2 n rfl) h2 h3 h4⟩
theorem B0(j:Int):qk (dC kb i m) j=if i=j then qC m.q else qk kb j:=by
 unfold qk;rw[fm];split<;>rfl
theorem Ab(n:Int): ∀(L:List Int)(kb:List (Int×En)),KQ kb<|kN n L kb
 |[],kb=>oW
 |i::L,kb=>by
  unfold kN;cases e:cu kb i with
  |none=>exact Ab n L kb
  |some m=>exact uQ (uh (m':=ns n m) e rfl)<|Ab n L _
theorem B1(kk:List (Int×Vt))(now:Int): ∀(L:List Int)(kb:List (Int×En)),KQ kb<|j8 kk now L kb
 |[],kb=>oW
 |i::L,kb=>by
  unfold j8;cases e:cu kb i with
  |none=>exact B1 kk now L kb
  |some m=>exact uQ (uh (m':=oH kk now m) e rfl)<|B1 kk now L _
variable{sn:Int}{br:Bool}{et et':T}{ek ek':List (Int×It)}
theorem Qy(hm:cu kb i=some m)(h:ot i m sn br kb et ek kb' et' ek'):KQ kb kb':=by
 rcases h with⟨-,d,rfl,-⟩|⟨-,rfl,-⟩
 ·exact uh hm rfl
 ·exact oW
theorem UF(h:qS kb kb'):KQ kb kb':=fun j=>by
 have:=congrArg (Option.map vw)<|h.1 j
 rw[Option.map_map,Option.map_map] at this;exact this
def mh(l:List Pk):Int:=(l.map (·.qn)).sum
def QI(m:En):Prop:=m.q.rm=m.ec.hq∧(m.q.sx.length:Int)=m.ec.hk∧m.q.bs=mh (qC m.q)
def QV(kb:List (Int×En)):Prop:= ∀i m,cu kb i=some m→m.ec.hl=true→QI m
theorem Cb(h:KQ kb kb')(hq:QV kb):QV kb':=fun j m hm hl=>by
 obtain⟨n,h1,h2,-,h4⟩:=C9 h hm
 have:=hq j n h1 (by rw[←h2];exact hl)
 unfold QI at this⊢;rw[h2,h4];exact this
theorem B2(h:QV kb)(hm:m.ec.hl=true→QI m):QV (dC kb i m):=fun j x hx hl=>by
 rw[fm] at hx;split at hx
 ·cases hx;exact hm hl
 ·exact h j x hx hl
theorem wH: ∀{l:List Pk},(∀p∈l,1≤p.qn∧p.qn≤16384)→0≤mh l∧mh l≤16384*l.length
 |[],_=>by simp[mh]
 |p::l,h=>by
  have h1:=h p<|List.mem_cons_self ..
  have h2:=wH fun q hq=>h q<|List.mem_cons_of_mem _ hq
  unfold mh at h2⊢;simp only[List.map_cons,List.sum_cons,List.length_cons];omega
theorem Ad(h:0≤x∧x≤4611686018427387904):IntKind.i64.wrap x=x:=km (by constructor<;>omega)
theorem Qz{q:Qu}{x:Pk}(h:QI m)(hk: ∀p∈qC m.q,1≤p.qn∧p.qn≤16384)(hp:rT m.q x q):QI {m with q:=q}:=by
 obtain⟨h1,h2,h3,h4,h5⟩:=hp
 have hr:=wH (l:=qC q) fun p hp=>hk p (by rw[h2];exact List.mem_cons_of_mem _ hp)
 have hn:(qC q).length≤64:=by rw[kT];have:=h1;unfold j7 at this;omega
 refine⟨h3.trans h.1,by rw[←h.2.1];exact congrArg _ h4,?_⟩
 show q.bs=mh (qC q)
 have e:m.q.bs-x.qn=mh (qC q):=by rw[h.2.2,h2];unfold mh;simp only[List.map_cons,List.sum_cons];omega
 rw[h5,e,Ad (by constructor<;>omega)]
theorem Gx{q:Qu}{x:Pk}(h:QI m)(hk: ∀p∈qC m.q,1≤p.qn∧p.qn≤16384)(hx:1≤x.qn∧x.qn≤16384∨er≠0)(hp:kH m.q x q er):QI {m with q:=q}:=by
 obtain⟨h1,h3,h4,h5⟩:=hp
 refine⟨h3.trans h.1,by rw[←h.2.1];exact congrArg _ h4,?_⟩
 show q.bs=mh (qC q)
 rcases h5 with⟨-,h0,h5,h6⟩|⟨-,-,h5,h6⟩
 ·have hx:=hx.resolve_right fun h=>h h0
  have hr:=wH (l:=qC q) fun p hp=>by
   rw[h5,List.mem_append] at hp
   rcases hp with hp|hp
   ·exact hk p hp
   ·rw[List.mem_singleton] at hp;subst hp;exact hx
  have hn:(qC q).length≤64:=by rw[kT];have:=h1;unfold j7 at this;omega
  have e:m.q.bs+x.qn=mh (qC q):=by rw[h.2.2,h5];simp[mh]
  rw[h6,e,Ad (by constructor<;>omega)]
 ·rw[h6,h5,h.2.2]
def qZ(s:Sh):Prop:=s.sq2≤gh∧s.sq6≤gh∧s.sq11≤gh
def RG(kb:List (Int×En)):Prop:= ∀i m,cu kb i=some m→qZ m.sh
theorem Jr:qZ mB:=by simp[qZ,mB,gh]
theorem rN(h:RG kb)(hs:qZ m.sh):RG (dC kb i m):=fun j x hx=>by
 rw[fm] at hx;split at hx
 ·cases hx;exact hs
 ·exact h j x hx
theorem Gy(x:Int):IntKind.u64.wrap x≤gh:=by
 have:=uw_lt x;unfold gh;omega
where
 uw_lt (x:Int):IntKind.u64.wrap x<18446744073709551616:=by
  have h:IntKind.u64.bits=64:=rfl
  simp only[IntKind.wrap,h];simp;omega
theorem rG{a b:Int}(h:a≤gh)(g:b≤gh):eE a b≤gh:=by unfold eE;split<;>assumption
theorem qV:(0:Int)≤gh:=by decide
theorem Eh(l:Ln)(a:Nm):jC l a≤gh:=by
 unfold jC;split
 ·exact qV
 ·split
  ·decide
  ·exact Gy _
theorem Ei(r:Rn)(a:Nm):i8 r a≤gh:=by
 unfold i8;split<;>exact rG (rG qV<|Eh _ _)<|Eh _ _
def re(r:Rn):Prop:=r.rq1≤gh∧r.rq5≤gh
theorem F9{r:Rn}(h:re r)(x:Int):je r x≤gh:=by
 unfold je;split
 ·exact rG (rG (rG qV<|Ei _ _) h.2) h.1
 ·exact rG (rG qV<|Ei _ _) h.2
theorem NQ{l:Sh}(h:qZ l)(x:Int):qZ (lS l x):=by
 unfold lS;split
 ·exact⟨h.1,h.2.1,F9 ⟨h.1,h.2.1⟩ x⟩
 ·exact h
variable{c:Cv}
theorem Ej{y:Nm}(h:x≤gh):re (dZ c x y):=by
 unfold dZ;split
 ·exact⟨qV,h⟩
 ·split
  ·exact⟨h,h⟩
  ·exact⟨qV,h⟩
theorem Ek{y:Nm}(h:x≤gh):re (dG c x y):=by
 unfold dG;split
 ·exact⟨(Ej h).1,Gy _⟩
 ·exact Ej h
theorem Em{l m:Ln}(h:l.lq1≤gh)(g:m.lq1≤gh):(eN l m).lq1≤gh:=by unfold eN;split<;>assumption
theorem NR{a b:Rn}(h:re a)(g:re b):re (dp a b):=by
 refine⟨?_,Em (l:=dw a) (m:=dw b) h.2 g.2⟩
 show(if a.rq9 then eN (fQ a) (fQ b) else oK).lq1≤gh
 split
 ·exact Em (l:=fQ a) (m:=fQ b) h.1 g.1
 ·exact qV
theorem NS{l:Sh}(h:qZ l){y:Int}(hx:x≤gh):qZ (jf l c x y):=by
 have hr:re (dX l.sq1 (ff l)<|dG c x<|cz y 65536):=by
  unfold dX;split
  ·exact NR ⟨h.1,h.2.1⟩<|Ek hx
  ·exact Ek hx
 exact⟨hr.1,hr.2,F9 hr _⟩
theorem Ae(n:Int): ∀(L:List Int)(kb:List (Int×En)),RG kb→RG (kN n L kb)
 |[],kb,h=>h
 |i::L,kb,h=>by
  unfold kN;cases e:cu kb i with
  |none=>exact Ae n L kb h
  |some m=>exact Ae n L _<|rN (m:=ns n m) h<|NQ (h i m e) _
theorem RA(h:RG kb)(hm:cu kb i=some m)(hd:ot i m sn br kb et ek kb' et' ek'):RG kb':=by
 rcases hd with⟨-,d,rfl,-⟩|⟨-,rfl,-⟩
 ·exact rN h<|h i m hm
 ·exact h
theorem UG(h:RG kb)(hs:qS kb kb'):RG kb':=fun j m hm=>by
 rcases hs.2 j m hm with e|⟨n,h1,h2⟩
 ·rw[e];exact Jr
 ·rw[h2];exact h j n h1
def gq(kb:List (Int×En)):Prop:= ∀i m,cu kb i=some m→kC (nM m.ec)≤1∧m.li=q7
def ZK(kc:List (Int×Cl))(kk:List (Int×Vt)):Prop:= ∀p v,oJ kc p→cu kk p=some v→ ∀i y,cu v.kv i=some y→y.va=0
theorem rO{m':En}(h:gq kb)(hm:cu kb i=some m)(e:m'.ec=m.ec)(hl:m'.li=q7):gq (dC kb i m'):=fun j x hx=>by
 rw[fm] at hx;split at hx
 ·cases hx;exact⟨by rw[e];exact(h i m hm).1,hl⟩
 ·exact h j x hx
theorem Af(n:Int): ∀(L:List Int)(kb:List (Int×En)),gq kb→gq (kN n L kb)
 |[],kb,h=>h
 |i::L,kb,h=>by
  unfold kN;cases e:cu kb i with
  |none=>exact Af n L kb h
  |some m=>exact Af n L _<|rO (m':=ns n m) h e rfl (by show jI m.li _=q7;rw[(h i m e).2];rfl)
theorem B5(kk:List (Int×Vt))(now:Int): ∀(L:List Int)(kb:List (Int×En)),gq kb→gq (j8 kk now L kb)
 |[],kb,h=>h
 |i::L,kb,h=>by
  unfold j8;cases e:cu kb i with
  |none=>exact B5 kk now L kb h
  |some m=>exact B5 kk now L _<|rO (m':=oH kk now m) h e rfl (if_pos (h i m e).1)
theorem RB(h:gq kb)(hm:cu kb i=some m)(hd:ot i m sn br kb et ek kb' et' ek'):gq kb':=by
 rcases hd with⟨-,d,rfl,-⟩|⟨-,rfl,-⟩
 ·exact rO h hm rfl (h i m hm).2
 ·exact h
theorem UH(h:gq kb)(hs:qS kb kb'):gq kb':=fun j m hm=>by
 have h1:=hs.1 j;rw[hm] at h1
 cases e:cu kb j with
 |none=>rw[e] at h1;cases h1
 |some n=>
  rw[e] at h1;simp only[Option.map_some,Option.some.injEq,En.mk.injEq] at h1
  obtain⟨-,-,-,h2,-,-,-,h3⟩:=h1
  rw[h2,h3];exact h j n e
variable{L:List It}{y:It}
theorem zN{n:Int}(h:eS n L=some y):y∈L∧ ∀z∈L,z.ka≤n→y.va≤z.va:=by
 obtain⟨h1,h2⟩:=zG h
 exact⟨(List.mem_filter.1 h1).1,fun z hz hn=>h2 z<|List.mem_filter.2 ⟨hz,by simpa using hn⟩⟩
theorem zx: ∀(L:List It)(v:It),gR (some v) L≠none
 |[],v,h=>by simp[gR] at h
 |y::L,v,h=>zx L (dO v y) h
theorem EO(hr: ∀y∈L,y.ka≤gh)(hL:L≠[]): ∃y,eS 18446744073709551615 L=some y:=by
 have hb:bl 18446744073709551615 L=L:=by unfold bl;rw[List.filter_eq_self];intro y hy;have:=hr y hy;unfold gh at this;simpa using this
 cases e:eS 18446744073709551615 L with
 |some y=>exact⟨y,rfl⟩
 |none=>
  exfalso;unfold eS at e;rw[hb] at e
  cases L with
  |nil=>exact hL rfl
  |cons y L=>exact zx L y e
theorem IP(hr: ∀y∈L,y.ka≤gh)(hz: ∀y∈L,y.va=0)(hL:L≠[]):i9 L=0:=by
 obtain⟨y,h⟩:=EO hr hL
 unfold i9;rw[if_neg hL,h]
 simp[hz y (zN h).1,dS,oe]
theorem pq{kv:List (Int×It)}(h:dq t kv)(hy:y∈t.toL):cu kv y.ki=some y:=(h.mem y).1 hy
theorem Oo(h:KT kc A kk E){p:Int}(hp:oJ kc p):oq kk p≤gh:=by
 obtain⟨v,h1,h2⟩:=h p hp
 unfold oq;rw[h1];simp only[Option.map_some,Option.getD_some]
 cases e:v.t.toL with
 |nil=>exact qV
 |cons y L=>exact h2.rng _ y<|pq h2.er (by rw[e];exact List.mem_cons_self ..)
structure Iv(c:Ss)(d:Sd):Prop where
 lt1:1≤c.lt∧c.lt≤65536
 lm1:1≤c.lm∧c.lm≤16384
 laid:dr d.kc
 aok:mH d.kc
 by_:fH d.kc d.kb
 nd:pI d
 ym:d.a.ym=fO d.kc
 ac: ∃A,AO d.kc d.on d.ka A∧KT d.kc A d.kk (fun q=>q=0)
 onk: ∀i,i∈d.on.map (·.1)↔fK d.kc i=true∧(dD d.kc i).hl=true∧qk d.kb i≠[]
 el:dq d.et d.ek
 ekk: ∀i,cu d.ek i≠none→qk d.kb i≠[]∧jK (dD d.kc i)=true
 pk: ∀i,∀p∈qk d.kb i,1≤p.qn∧p.qn≤16384
 rg:RG d.kb
 qv:QV d.kb
theorem Gz{k:List Int}(hn:l.Nodup)(h: ∀i∈l,i∈k):l.length≤k.length:=by
 have e: ∀l:List Int,(l.map fun _=>1).sum=l.length:=fun l=>by induction l with|nil=>rfl|cons a l ih=>simp only[List.map_cons,List.sum_cons,List.length_cons,ih];omega
 have:=wu (f:=fun _=>1) hn fun i hi _=>h i hi
 rwa[e,e] at this
theorem xl(hL:dr kc){ol:List Int}(h:oy kc ol A)(hi:A i)(hl:(dD kc i).hl=true):i∈ol:=by
 rcases h.sup i hi with h1|⟨r,h2,h3⟩
 ·exact h1
 ·rcases rJ hL (h.sh r h2) with h4|h4
  ·exact absurd (h3.symm.trans h4)<|rM hL<|uv<|h.sh i hi
  ·rw[h3,hl] at h4;exact absurd h4.2<|by simp
theorem om(hB:fH kc kb)(h:qk kb i≠[]): ∃m,cu kb i=some m∧cu kc i=some m.ec∧m.ec.hl=true∧dD kc i=m.ec:=by
 cases e:cu kb i with
 |none=>exact absurd (by unfold qk;rw[e];rfl) h
 |some m=>
  have hc:=lP hB e
  have ho:=(hB i).2 m e
  refine⟨m,rfl,hc,ho.lf.2 ?_,iu hc⟩
  rw[kZ e] at h
  cases q:m.qb with
  |some b=>rfl
  |none=>exact absurd (List.eq_nil_of_length_eq_zero (by rw[kT];exact ho.no q)) h
theorem wx(hL:dr kc){c:Cl}(h:cu kc i=some c):oJ kc c.hp:=by
 rcases hL.par i c h with h1|⟨p,h1,h2⟩
 ·exact .inl h1
 ·exact .inr ⟨p,h1,h2⟩
theorem UI(hL:dr kc)(hA: ∀i,A i→fK kc i=true)(h:KT kc A kk E):jg kc 600 kk:=fun p hp=>by
 obtain⟨v,h1,h2⟩:=h p hp
 refine⟨v,h1,h2.er,?_⟩
 have h3:=Gz (l:=v.kv.map (·.1)) (k:=kc.map (·.1)) h2.er.nd fun i hi=>lq.1<|uv<|hA i ((h2.key i).1 (lq.2 hi)).1
 have h4:=hL.len
 simp at h3;omega
theorem Ll{n:Int}(h:eR n L=some y):y∈L∧y.va≤n:=by
 unfold eR at h
 exact⟨List.mem_of_find?_eq_some h,by simpa using List.find?_some h⟩
variable{now:Int}
theorem Ag(h:KT kc A kk E)(hi:oJ kc i)(hy:kY kk now i=some y): ∃v,cu kk i=some v∧cu v.kv y.ki=some y∧A y.ki∧(dD kc y.ki).hp=i∧y.va≤dS now 9223372036854775807:=by
 obtain⟨v,h1,h2⟩:=h i hi
 unfold kY at hy;rw[h1] at hy;simp only[Option.map_some,Option.getD_some] at hy
 obtain⟨h3,h4⟩:=Ll hy
 have h5:=pq h2.er h3
 have h6:=(h2.key y.ki).1 (by rw[h5];simp)
 exact⟨v,h1,h5,h6.1,h6.2,h4⟩
theorem HA(hL:dr kc)(hB:fH kc kb)(hA: ∀i,A i→fK kc i=true)(h:KT kc A kk E)(now:Int): ∀(f:Nat)(i:Int),oJ kc i→17≤dep kc i+f→o0 kb kk now f i
 |0,i,hi,hd=>by have:=hL.dep i;omega
 |f+1,i,hi,hd=>by
  obtain⟨v,h1,h2⟩:=h i hi
  refine⟨⟨v,h1,h2.er⟩,fun y hy=>?_⟩
  obtain⟨v',-,-,h3,h4,-⟩:=Ag h hi hy
  obtain⟨c,h5,h6⟩:=kG<|hA _ h3
  obtain⟨m,h7,h8,-⟩:=tO hB h5
  refine⟨m,h7,?_⟩
  cases hl:m.ec.hl with
  |true=>exact .inl rfl
  |false=>exact .inr<|HA hL hB hA h now f _ (.inr ⟨c,h5,by rw[←h8];exact hl⟩) (by rw[jB hL h5,←h6,h4];omega)
theorem IQ(hL:dr kc)(hB:fH kc kb)(hA: ∀i,A i→fK kc i=true)(h:KT kc A kk E)(now:Int): ∀(f:Nat)(i j:Int),oJ kc i→jQ kb kk now f i=some j→A j∧(dD kc j).hl=true
 |0,i,j,hi,hd=>by simp[jQ] at hd
 |f+1,i,j,hi,hd=>by
  unfold jQ at hd
  split at hd
  ·cases hd
  ·rename_i y hy
   obtain⟨v',-,-,h3,h4,-⟩:=Ag h hi hy
   obtain⟨c,h5,h6⟩:=kG<|hA _ h3
   obtain⟨m,h7,h8,-⟩:=tO hB h5
   have hlf:o9 kb y.ki=c.hl:=by unfold o9;rw[h7];simp[h8]
   split at hd
   ·rename_i hl;cases hd;exact⟨h3,by rw[h6,←hlf];exact hl⟩
   ·rename_i hl
    exact IQ hL hB hA h now f _ j (.inr ⟨c,h5,by rw[←hlf];simpa using hl⟩) hd
variable{c:Ss}
theorem Je(h:Iv c d)(hc:(eU d.et d.kb d.kk now).2.2=true):qk d.kb (eU d.et d.kb d.kk now).1≠[]:=by
 unfold eU at hc⊢
 split
 ·rename_i y hy
  exact(h.ekk _ (by rw[pq h.el (zN hy).1];simp)).1
 ·rename_i hy
  rw[hy] at hc
  obtain⟨A,hA,hK⟩:=h.ac
  cases e:jQ d.kb d.kk now 17 0 with
  |none=>rw[e] at hc;cases hc
  |some j=>
   obtain⟨h1,h2⟩:=IQ h.laid h.by_ hA.ast.sh hK now 17 0 j (.inl rfl) e
   exact((h.onk j).1 (xl h.laid hA.ast h1 h2)).2.2
theorem RD(h:Iv c d):od c d:=by
 obtain⟨A,hA,hK⟩:=h.ac
 refine{lt1:=h.lt1,lm1:=h.lm1,laid:=h.laid,aok:=h.aok,by_:=h.by_,nb:=h.nd.1,kd:=UI h.laid hA.ast.sh hK,ym:=h.ym,el:=h.el,len:= ?_,desc:=fun now=>HA h.laid h.by_ hA.ast.sh hK now 17 0 (.inl rfl)<|by omega,pk:=fun i m hm=>by rw[←kZ hm];exact h.pk i,ch:=fun now hc=>?_}
 ·have h3:=Gz (l:=d.ek.map (·.1)) (k:=d.kc.map (·.1)) h.el.nd fun i hi=>by
   obtain⟨m,-,h2,-⟩:=om h.by_ (h.ekk i<|lq.2 hi).1
   exact lq.1 (by rw[h2];simp)
  have h4:=h.laid.len
  simp at h3;omega
 ·have h1:=Je h hc
  obtain⟨m,h2,-⟩:=om h.by_ h1
  exact⟨m,h2,by rw[←kZ h2];exact h1⟩
theorem B6(hL:dr kc): ∀(n:Nat)(i z:Int),dep kc i≤n→z∈db kc i→(dD kc z).hp∈db kc i∨(dD kc z).hp=0
 |0,i,z,hn,hz=>by unfold db at hz;rw[show dep kc i=0 by omega] at hz;simp[fx] at hz
 |n+1,i,z,hn,hz=>by
  cases e:cu kc i with
  |none=>rw[nB e] at hz;cases hz
  |some c=>
   rw[jB hL e] at hn
   rw[jN hL e] at hz⊢
   rcases List.mem_cons.1 hz with rfl|hz
   ·rw[iu e];exact(AY hL e).imp (List.mem_cons_of_mem _) id
   ·exact(B6 hL n _ z (by omega) hz).imp (List.mem_cons_of_mem _) id
theorem HC(hn:(ek.map (·.1)).Nodup){d:Du}(j:Int):cu (vD ek i d) j=if i=j then some ⟨d.dq21,i,d.dq22,i⟩ else cu ek j:=by
 unfold vD;rw[fm];split
 ·rfl
 ·rename_i e;rw[iG hn,if_neg e]
theorem RE(hn:(ek.map (·.1)).Nodup)(i:Int)(d:Du):((vD ek i d).map (·.1)).Nodup:=kj (kB hn _) _ _
theorem B7(hL:dr kc)(hB:fH kc kb)(hR: ∀i m,cu kb i=some m→m.sh.sq11≤gh)(hLi: ∀i m,cu kb i=some m→m.li=q7)(hA: ∀q,cu kc q≠none→(fR on ka q=true↔A' q))
  (hsup: ∀q,A' q→(dD kc q).hl=false→ ∃r d,A' r∧cu kc r=some d∧d.hp=q):
  ∀(n:Nat)(i:Int)(B:Int→Prop)(kk kk':List (Int×Vt)),dep kc i≤n→kM on ka kb (db kc i) kk kk'→KT kc B kk (fun q=>q∈db kc i∨q=0)→(∀q,B q→A' q)→(∀q,A' q→B q∨q∈db kc i)→ZK kc kk→ZK kc kk'
 |n,i,B,kk,kk',hn,hS,hK,hBA,hAB,hZ=>by
  cases e:cu kc i with
  |none=>rw[nB e] at hS;cases hS;exact hZ
  |some c=>
   cases n with
   |zero=>rw[jB hL e] at hn;omega
   |succ n=>
    have hdi:=jB hL e
    rw[jN hL e] at hS hK hAB
    rcases hS with⟨h1,hS⟩|⟨h1,m,v,t,hm,hv,he,hS⟩
    ·have hni: ¬A' i:=fun h=>by have:=(hA i (by rw[e];simp)).2 h;rw[h1] at this;cases this
     refine B7 hL hB hR hLi hA hsup n c.hp B kk kk' (by omega) hS (pn hK fun q hq h=>?_) hBA (fun q hq=>?_) hZ
     ·rcases h with h|h
      ·rcases List.mem_cons.1 h with rfl|h
       ·exact absurd (hBA _ hq) hni
       ·exact .inl h
      ·exact .inr h
     ·rcases hAB q hq with h|h
      ·exact .inl h
      ·exact .inr<|(List.mem_cons.1 h).resolve_left fun e=>hni<|e▸hq
    ·have hi:=(hA i (by rw[e];simp)).1 h1
     have hec:m.ec=c:=by have:=lP hB hm;rw[e] at this;cases this;rfl
     have hf:kL on ka kk m=0:=by
      unfold kL;split
      ·rw[hLi i m hm];rfl
      ·rename_i hx
       have hl:c.hl=false:=by rw[←hec];cases q:m.ec.hl with|false=>rfl|true=>exact absurd (.inl q) hx
       have hid:m.ec.hi=i:=by rw[hec];exact(hL.key i c e).1
       obtain⟨r,d,h2,h3,h4⟩:=hsup i hi (by rw[iu e];exact hl)
       have hr:B r:=by
        refine(hAB r h2).resolve_right fun h=>?_
        have h5:=wX hL _ i r (Nat.le_refl _) (by rw[jN hL e];exact h)
        rw[jB hL h3,h4] at h5;omega
       obtain⟨w,h6,h7⟩:=hK i<|.inr ⟨c,e,hl⟩
       have h8:=(h7.key r).2 ⟨hr,by rw[iu h3];exact h4⟩
       have h9:i9 w.t.toL=0:=by
        refine IP (fun y hy=>h7.rng _ y<|pq h7.er hy) (fun y hy=>hZ i w (.inr ⟨c,e,hl⟩) h6 _ y<|pq h7.er hy) fun h=>?_
        have:=h7.er.len;rw[h] at this
        have:=List.eq_nil_of_length_eq_zero this.symm
        rw[this] at h8;exact h8 rfl
       rw[hLi i m hm,hid,h6];simp only[Option.map_some,Option.getD_some];rw[h9];rfl
     rw[hec] at hv hS
     have h2:=IM (E':=fun q=>q∈db kc c.hp∨q=0) hL hK e hec hv h1 (hR i m hm) he (fun q h=>by
      rcases h with h|h
      ·rcases List.mem_cons.1 h with h|h
       ·exact .inl h
       ·exact .inr<|.inl h
      ·exact .inr<|.inr h)<|AY hL e
     refine B7 hL hB hR hLi hA hsup n c.hp _ _ kk' (by omega) hS h2 (fun q h=>by rcases h with h|h;exact hBA q h;rw[h];exact hi) (fun q hq=>?_) fun p w hpi hw j y hy=>?_
     ·rcases hAB q hq with h|h
      ·exact .inl<|.inl h
      ·exact(List.mem_cons.1 h).imp (fun e=> .inr e) id
     ·rw[fm] at hw;split at hw
      ·cases hw
       change cu (dC v.kv i _) j=some y at hy
       rw[fm] at hy;split at hy
       ·cases hy;exact hf
       ·exact hZ _ v (wx hL e) hv j y hy
      ·exact hZ p w hpi hw j y hy
theorem IS(hL:dr kc): ∀(l:List Int)(B E:Int→Prop)(kk kk':List (Int×Vt)),KT kc B kk E→mW kc l kk kk'→ZK kc kk→ZK kc kk'
 |[],B,E,kk,kk',h,hd,hZ=>by cases hd;exact hZ
 |i::l,B,E,kk,kk',h,⟨c,v,t,hc,hv,he,hd⟩,hZ=>by
  refine IS hL l _ _ _ _ (IN hL h hc hv he) hd fun p w hpi hw j y hy=>?_
  rw[fm] at hw;split at hw
  ·cases hw
   change cu (dJ v.kv i) j=some y at hy
   obtain⟨v2,h1,h2⟩:=h c.hp<|wx hL hc
   rw[hv] at h1;cases h1
   rw[iG h2.er.nd] at hy;split at hy
   ·cases hy
   ·exact hZ _ v (wx hL hc) hv j y hy
  ·exact hZ p w hpi hw j y hy
theorem RF(hL:dr kc)(hA:AO kc on ka A): ∀q,A q→(dD kc q).hl=false→ ∃r d,A r∧cu kc r=some d∧d.hp=q:=fun q hq hl=>by
 rcases hA.ast.sup q hq with h|⟨r,h1,h2⟩
 ·have:=hA.ast.lf q h;rw[hl] at this;cases this
 ·obtain⟨d,h3,h4⟩:=kG<|hA.ast.sh r h1
  exact⟨r,d,h1,h3,by rw[←h4];exact h2⟩
theorem Ah(hL:dr kc)(hB:fH kc kb)(hR:RG kb)(hA:AO kc on ka A)(hS:kM on ka kb (db kc i) kk kk')(hK:KT kc B kk (fun q=>q∈db kc i∨q=0))
  (hBA: ∀q,B q→A q)(hAB: ∀q,A q→B q∨q∈db kc i):KT kc A kk' (fun q=>q=0)∧(gq kb→ZK kc kk→ZK kc kk'):=by
 refine⟨?_,fun hLi hZ=>B7 hL hB (fun j m hm=>(hR j m hm).2.2) (fun j m hm=>(hLi j m hm).2) (fun q hq=>ug hA<|rM hL hq) (RF hL hA) _ i B kk kk' (Nat.le_refl _) hS hK hBA hAB hZ⟩
 have h:=AZ hL hB (fun j m hm=>(hR j m hm).2.2) (A':=A) (fun q hq=>ug hA<|rM hL hq) _ i B kk kk' (Nat.le_refl _) hS hK hBA
 have:(fun q=>B q∨(q∈db kc i∧A q))=A:=by
  funext q;apply propext;constructor
  ·rintro(h|h);exact hBA q h;exact h.2
  ·intro h;exact(hAB q h).imp id fun h2=>⟨h2,h⟩
 rw[this] at h;exact h
variable{d':Sd}{z:Pd}{ok:Bool}
theorem HD(h:Iv c d)(ht:nj d now z ok d'):Iv c d'∧(∀i,qk d.kb i=(if ok=true∧z.gq1=i then[mC z] else[])++qk d'.kb i)∧(ok=true→qk d.kb z.gq1≠[])∧(gq d.kb∧ZK d.kc d.kk→gq d'.kb∧ZK d'.kc d'.kk):=by
 obtain⟨⟨hbt,hmc,hkc,ha,hnd⟩,hck,hac,hR⟩:=ht
 obtain⟨bt',mc',kc',kb',a',on',ka',et',ek',kk',ck',ac'⟩:=d'
 dsimp only at hbt hmc hkc ha hck hac hR⊢
 subst hbt hmc hkc ha hck hac
 rcases hR with⟨hc,rfl,rfl,rfl,rfl,rfl,rfl,rfl⟩|⟨hc,rfl,hz1,hz8,m,q,hm,hP,m2,kb2,kb3,kk2,hkb2,hm2,hqb,hq,hec,hD,hS,hSet⟩
 ·exact⟨⟨h.lt1,h.lm1,h.laid,h.aok,h.by_,hnd,h.ym,h.ac,h.onk,h.el,h.ekk,h.pk,h.rg,h.qv⟩,fun i=>by simp,fun e=>(by cases e),id⟩
 ·have hq0:=Je h hc
  rw[←hz1] at hm hkb2 hm2 hD hS hSet hq0
  generalize z.gq1=i at*
  obtain⟨m',h1,hci,hl,hg⟩:=om h.by_ hq0
  rw[hm] at h1;cases h1
  have hL:=h.laid
  have hid:m.ec.hi=i:=CU hL h.by_ hm
  have hqd:qk d.kb i=mC z::qC q:=by rw[kZ hm,hP.2.1]
  obtain⟨b,hb⟩:=Option.isSome_iff_exists.1<|((h.by_ i).2 m hm).lf.1 hl
  have hB1:=AM h.by_ hm hb hP.1
  have hG1:RG (dC d.kb i {m with q:=q}):=rN h.rg<|h.rg i m hm
  have k2:=Ab z.gq3 (db d.kc i)<|dC d.kb i {m with q:=q}
  have hG2:=Ae z.gq3 (db d.kc i) _ hG1
  rw[←hkb2] at k2 hG2
  have k3:=Qy hm2 hD
  have hG3:=RA hG2 hm2 hD
  have hk:KQ kb3 kb'∧RG kb'∧(gq kb3→gq kb'):=by
   rcases hS with⟨-,rfl,-⟩|⟨-,l,er,-,hSh,-⟩
   ·exact⟨oW,hG3,id⟩
   ·exact⟨UF hSh,UG hG3 hSh,fun h=>UH h hSh⟩
  have hli:gq d.kb→gq kb':=fun hl=>hk.2.2<|RB (by rw[hkb2];exact Af _ _ _<|rO hl hm rfl (hl i m hm).2) hm2 hD
  have k:=uQ (uQ k2 k3) hk.1
  have hB':=yU k hB1
  have hqk: ∀j,qk kb' j=if i=j then qC q else qk d.kb j:=fun j=>by rw[J1 k,B0]
  have hqi:qk kb' i=qC q:=by rw[hqk,if_pos rfl]
  have hne: ∀j,qk kb' j≠[]→qk d.kb j≠[]:=fun j hj=>by
   rw[hqk] at hj;split at hj
   ·rename_i e;subst e;exact hq0
   ·exact hj
  obtain⟨A,hA,hK⟩:=h.ac
  have hrl:jK m.ec=jK (dD d.kc i):=by rw[hg]
  have hAK:((∃A',AO d.kc on' ka' A'∧KT d.kc A' kk' (fun q=>q=0))∧ ∀j,j∈on'.map (·.1)↔fK d.kc j=true∧(dD d.kc j).hl=true∧qk kb' j≠[])∧(gq kb'→ZK d.kc d.kk→ZK d.kc kk'):=by
   have same:kk2=d.kk→on'=d.on→ka'=d.ka→(qC q≠[]∨i∉d.on.map (·.1))→((∃A',AO d.kc on' ka' A'∧KT d.kc A' kk' (fun q=>q=0))∧ ∀j,j∈on'.map (·.1)↔fK d.kc j=true∧(dD d.kc j).hl=true∧qk kb' j≠[])∧(gq kb'→ZK d.kc d.kk→ZK d.kc kk'):=by
    rintro rfl rfl rfl hx
    obtain⟨s1,s2⟩:=Ah hL hB' hk.2.1 hA hSet (pn hK fun q _ h=> .inr h) (fun _ h=>h) fun _ h=> .inl h
    refine⟨⟨⟨A,hA,s1⟩,fun j=>?_⟩,s2⟩
    rw[h.onk,hqk];by_cases e:i=j
    ·subst e;rw[if_pos rfl]
     rcases hx with hx|hx
     ·simp[hx,hq0]
     ·rw[h.onk] at hx;constructor
      ·exact fun h=>absurd h hx
      ·exact fun h=>absurd ⟨h.1,h.2.1,hq0⟩ hx
    ·rw[if_neg e]
   rcases hS with⟨h1,-,h2,h3,h4⟩|⟨h1,l,er,hO,-,-,hDr,-⟩
   ·exact same h4 h2 h3<|.inl h1
   ·rw[h.ym] at hO
    by_cases hi:i∈d.on.map (·.1)
    ·obtain⟨A',hA',hl',hAA,hon⟩:=Qx hL hA hO hi
     have hup: ∀z∈l,z∈db d.kc i:=fun z hz=>by rw[hl'] at hz;exact(List.mem_filter.1 hz).1
     have hK2:=Gw hL l A _ d.kk kk2 hK hDr
     have e:(fun q=>A q∧q∉l)=A':=by
      funext q;apply propext
      rw[hl',hAA q];simp only[List.mem_filter,decide_eq_true_eq]
      constructor
      ·rintro⟨h5|h5,h6⟩
       ·exact h5
       ·exact Classical.byContradiction fun h7=>h6 ⟨h5,h7⟩
      ·exact fun h5=>⟨.inl h5,fun h6=>h6.2 h5⟩
     rw[e] at hK2
     have hz2:=IS hL l _ _ d.kk kk2 hK hDr
     obtain⟨s1,s2⟩:=Ah hL hB' hk.2.1 hA' hSet (pn hK2 fun q _ h=>by
      rcases h with h|⟨z,hz,rfl⟩
      ·exact .inr h
      ·exact B6 hL _ i z (Nat.le_refl _)<|hup z hz) (fun _ h=>h) fun _ h=> .inl h
     refine⟨⟨⟨A',hA',s1⟩,fun j=>?_⟩,fun l1 l2=>s2 l1<|hz2 l2⟩
     ·rw[hon,h.onk,hqk];by_cases e:i=j
      ·subst e;rw[if_pos rfl];simp[h1]
      ·rw[if_neg e];simp[show¬j=i from fun h=>e h.symm]
    ·rcases hO with⟨-,h2,-⟩|⟨-,-,rfl,h2,h3⟩
     ·exact absurd (xl hL hA.ast ((ug hA<|rM hL (by rw[hci];simp)).1 h2) (by rw[hg];exact hl)) hi
     ·exact same hDr h2 h3<|.inr hi
  refine⟨?_,fun j=>?_,fun _=>hq0,fun hz=>⟨hli hz.1,hAK.2 (hli hz.1) hz.2⟩⟩
  ·have hEk:dq et' ek'∧ ∀j,cu ek' j≠none→qk kb' j≠[]∧jK (dD d.kc j)=true:=by
    have hgo: ∀j,i≠j→cu d.ek j≠none→qk kb' j≠[]∧jK (dD d.kc j)=true:=fun j hj h1=>by
     rw[hqk,if_neg hj];exact h.ekk j h1
    rcases hD with⟨h1,d0,-,h2,h3⟩|⟨h1,-,rfl,rfl⟩
    ·rw[hec] at h1 h3;rw[hid,hq] at h3
     refine⟨h2,fun j hj=>?_⟩
     rcases h3 with⟨h3,rfl⟩|⟨h3,rfl⟩
     ·rw[HC h.el.nd] at hj
      by_cases e:i=j
      ·subst e;exact⟨by rw[hqi];exact h3,by rw[←hrl];exact h1⟩
      ·rw[if_neg e] at hj;exact hgo j e hj
     ·rw[iG<|RE h.el.nd _ _] at hj
      by_cases e:i=j
      ·rw[if_pos e] at hj;exact absurd rfl hj
      ·rw[if_neg e,HC h.el.nd,if_neg e] at hj;exact hgo j e hj
    ·rw[hec] at h1
     refine⟨h.el,fun j hj=>?_⟩
     by_cases e:i=j
     ·subst e;have:=(h.ekk i hj).2;rw[←hrl,h1] at this;cases this
     ·exact hgo j e hj
   have hpk: ∀j,∀p∈qk kb' j,1≤p.qn∧p.qn≤16384:=fun j p hp=>by
    rw[hqk] at hp;split at hp
    ·exact h.pk i p (by rw[hqd];exact List.mem_cons_of_mem _ hp)
    ·exact h.pk j p hp
   exact⟨h.lt1,h.lm1,hL,h.aok,hB',hnd,h.ym,hAK.1.1,hAK.1.2,hEk.1,hEk.2,hpk,hk.2.1,Cb k<|B2 h.qv fun _=>Qz (h.qv i m hm hl) (by rw[←kZ hm];exact h.pk i) hP⟩
  ·show qk d.kb j=_++qk kb' j
   rw[hqk];by_cases e:i=j
   ·subst e;simp[hqd]
   ·simp[e]
theorem UJ{c:Cl}(h:dD kc i=c):pH c=fK kc i:=by rw[←h];rfl
theorem Ai(hL:dr kc)(hl: ∀p,oJ kc p→oq kk p≤gh): ∀(L:List Int)(kb:List (Int×En)),fH kc kb→RG kb→RG (j8 kk now L kb)
 |[],kb,hB,h=>h
 |i::L,kb,hB,h=>by
  unfold j8;cases e:cu kb i with
  |none=>exact Ai hL hl L kb hB h
  |some m=>exact Ai hL hl L _ (yU (uh (m':=oH kk now m) e rfl) hB)<|rN (m:=oH kk now m) h<|NS (h i m e)<|hl _<|wx hL<|lP hB e
variable{ci:Int}{p:Pk}
theorem IT(h:Iv c d)(ht:nt c d now ci p er d'):Iv c d'∧(∀i,qk d'.kb i=qk d.kb i++(if er=0∧ci=i then[p] else[]))∧(er=0→ci∈d.kc.map (·.1))∧(gq d.kb∧ZK d.kc d.kk→gq d'.kb∧ZK d'.kc d'.kk):=by
 obtain⟨⟨hbt,hmc,hkc,ha,hnd⟩,hck,hR⟩:=ht
 obtain⟨bt',mc',kc',kb',a',on',ka',et',ek',kk',ck',ac'⟩:=d'
 dsimp only at hbt hmc hkc ha hck hR⊢
 subst hbt hmc hkc ha hck
 have hL:=h.laid
 rcases hR with⟨he,-,-,hkb,rfl,rfl,rfl,rfl,rfl,-⟩|⟨rfl,-,m,q,hO,hP,hR⟩
 ·have hk:fH d.kc kb'∧RG kb'∧(∀i,qk kb' i=qk d.kb i)∧(gq d.kb→gq kb')∧QV kb':=by
   rcases hkb with rfl|⟨m,q,e,hm,hP,h0,rfl⟩
   ·exact⟨h.by_,h.rg,fun _=>rfl,id,h.qv⟩
   ·obtain⟨h1,-,-,⟨-,h2,-⟩|⟨-,-,h3,-⟩⟩:=id hP
    ·exact absurd h2 h0
    ·have ho:=(h.by_ ci).2 m hm
     refine⟨xU h.by_ hm rfl ⟨ho.lf,fun hb=>?_,fun _=>h1⟩,rN h.rg<|h.rg ci m hm,fun i=>?_,fun hl=>rO hl hm rfl (hl ci m hm).2,B2 h.qv fun hl=>Gx (h.qv ci m hm hl) (by rw[←kZ hm];exact h.pk ci) (.inr h0) hP⟩
     ·have h4:=congrArg List.length h3
      rw[kT,kT,ho.no hb] at h4;exact h4
     ·rw[B0];split
      ·rename_i e;subst e;rw[kZ hm];exact h3
      ·rfl
  refine⟨⟨h.lt1,h.lm1,hL,h.aok,hk.1,hnd,h.ym,h.ac,fun i=>?_,h.el,fun i hi=>?_,fun i q hq=>?_,hk.2.1,hk.2.2.2.2⟩,fun i=>?_,fun e=>absurd e he,fun hz=>⟨hk.2.2.2.1 hz.1,hz.2⟩⟩
  ·show i∈d.on.map (·.1)↔_
   rw[h.onk,←hk.2.2.1 i]
  ·show qk kb' i≠[]∧_
   rw[hk.2.2.1];exact h.ekk i hi
  ·exact h.pk i q (by rw[←hk.2.2.1];exact hq)
  ·rw[if_neg<|fun e=>he e.1,List.append_nil];exact hk.2.2.1 i
 ·obtain⟨hm,hl,hp1,hp2,-,-⟩:=hO
  have hci:=lP h.by_ hm
  have hg:=iu hci
  have hid:m.ec.hi=ci:=CU hL h.by_ hm
  have hqi:QV (dC d.kb ci {m with q:=q}):=B2 h.qv fun _=>Gx (h.qv ci m hm hl) (by rw[←kZ hm];exact h.pk ci) (.inl ⟨hp1,Int.le_trans hp2 h.lm1.2⟩) hP
  obtain⟨hqo,-,-,⟨-,-,hqq,-⟩|⟨-,h0,-⟩⟩:=hP
  rotate_left
  ·exact absurd h0<|by decide
  obtain⟨b,hb⟩:=Option.isSome_iff_exists.1<|((h.by_ ci).2 m hm).lf.1 hl
  have hB1:=AM h.by_ hm hb hqo
  have hG1:RG (dC d.kb ci {m with q:=q}):=rN h.rg<|h.rg ci m hm
  have hl1:gq d.kb→gq (dC d.kb ci {m with q:=q}):=fun hl=>rO hl hm rfl (hl ci m hm).2
  have hm1:cu (dC d.kb ci {m with q:=q}) ci=some {m with q:=q}:=jM _ _ _
  obtain⟨A,hA,hK⟩:=h.ac
  have hqn:qC q≠[]:=by rw[hqq];simp
  have fin: ∀{kb'},KQ (dC d.kb ci {m with q:=q}) kb'→ ∀i,qk kb' i=qk d.kb i++(if ci=i then[p] else[]):=fun{kb'}k i=>by
   rw[J1 k,B0];split
   ·rename_i e;subst e;rw[kZ hm,hqq]
   ·simp
  have hpk: ∀{kb'},KQ (dC d.kb ci {m with q:=q}) kb'→ ∀i,∀p∈qk kb' i,1≤p.qn∧p.qn≤16384:=fun{kb'}k i x hx=>by
   rw[fin k,List.mem_append] at hx
   rcases hx with hx|hx
   ·exact h.pk i x hx
   ·split at hx
    ·rw[List.mem_singleton] at hx;subst hx;exact⟨hp1,Int.le_trans hp2 h.lm1.2⟩
    ·cases hx
  have hek: ∀{kb'},KQ (dC d.kb ci {m with q:=q}) kb'→ ∀i,cu d.ek i≠none→qk kb' i≠[]∧jK (dD d.kc i)=true:=fun{kb'}k i hi=>by
   rw[fin k];exact⟨by have:=(h.ekk i hi).1;simp[this],(h.ekk i hi).2⟩
  have hck:ci∈d.kc.map (·.1):=lq.1 (by rw[hci];simp)
  rcases hR with⟨h1,kbw,hD,hW⟩|⟨h1,rfl,rfl,rfl,rfl,rfl,rfl⟩
  ·have hq0:qC m.q=[]:=by rw[hqq] at h1;simpa using h1
   have hq00:qk d.kb ci=[]:=by rw[kZ hm,hq0]
   have hkw:KQ (dC d.kb ci {m with q:=q}) kbw∧RG kbw∧dq et' ek'∧(gq d.kb→gq kbw):=by
    rcases hD with⟨-,rfl,-,h3⟩|⟨-,rfl,rfl,rfl⟩
    ·exact⟨uh hm1 rfl,rN hG1<|h.rg ci m hm,h3,fun hl=>rO (hl1 hl) hm1 rfl (hl ci m hm).2⟩
    ·exact⟨oW,hG1,h.el,hl1⟩
   have hek': ∀{kb'},KQ (dC d.kb ci {m with q:=q}) kb'→ ∀i,cu ek' i≠none→qk kb' i≠[]∧jK (dD d.kc i)=true:=fun{kb'}k i hi=>by
    rcases hD with⟨h2,-,rfl,-⟩|⟨-,-,rfl,-⟩
    ·rw[fm] at hi
     change jK m.ec=true at h2
     by_cases e:m.ec.hi=i
     ·rw[hid] at e;subst e;exact⟨by rw[fin k,if_pos rfl];simp,by rw[hg];exact h2⟩
     ·rw[if_neg e,iG h.el.nd,if_neg e] at hi;exact hek k i hi
    ·exact hek k i hi
   change(pH m.ec=true∧ ∃l er,oG d.a.ym d.on d.ka m.ec.hi on' ka' l er∧kb'=j8 d.kk ck' l kbw∧kM on' ka' kb' (db d.kc m.ec.hi) d.kk kk')∨(pH m.ec=false∧kb'=kbw∧on'=d.on∧ka'=d.ka∧kk'=d.kk) at hW
   rw[hid,UJ hg] at hW
   have hBw:=yU hkw.1 hB1
   rcases hW with⟨hs,l,er,hO,hkb,hS⟩|⟨hs,rfl,rfl,rfl,rfl⟩
   ·rw[h.ym] at hO
    have hn: ¬A ci:=fun ha=>((h.onk ci).1 (xl hL hA.ast ha (by rw[hg];exact hl))).2.2 hq00
    obtain⟨A',hA',hAA,hon⟩:=JZ hL hA hO hs (by rw[hg];exact hl) hn
    have k:=uQ hkw.1<|B1 d.kk ck' l kbw
    have hG':=Ai hL (fun p hp=>Oo hK hp) l kbw hBw hkw.2.1 (now:=ck')
    rw[←hkb] at k hG'
    have hB':=yU k hB1
    obtain⟨s1,s2⟩:=Ah hL hB' hG' hA' hS (pn hK fun q _ h=> .inr h) (fun q h=>(hAA q).2 (.inl h)) fun q h=>(hAA q).1 h
    have hl':gq d.kb→gq kb':=fun hl=>by rw[hkb];exact B5 _ _ _ _<|hkw.2.2.2 hl
    refine⟨⟨h.lt1,h.lm1,hL,h.aok,hB',hnd,h.ym,⟨A',hA',s1⟩,fun j=>?_,hkw.2.2.1,hek' k,hpk k,hG',Cb k hqi⟩,fun i=>by rw[fin k];simp,fun _=>hck,fun hz=>⟨hl' hz.1,s2 (hl' hz.1) hz.2⟩⟩
    show j∈on'.map (·.1)↔fK d.kc j=true∧(dD d.kc j).hl=true∧qk kb' j≠[]
    rw[hon,fin k,h.onk];by_cases e:ci=j
    ·subst e;simp[hs,hg,hl]
    ·simp[e,show¬j=ci from fun h=>e h.symm]
   ·refine⟨⟨h.lt1,h.lm1,hL,h.aok,hBw,hnd,h.ym,⟨A,hA,hK⟩,fun j=>?_,hkw.2.2.1,hek' hkw.1,hpk hkw.1,hkw.2.1,Cb hkw.1 hqi⟩,fun i=>by rw[fin hkw.1];simp,fun _=>hck,fun hz=>⟨hkw.2.2.2 hz.1,hz.2⟩⟩
    show j∈d.on.map (·.1)↔fK d.kc j=true∧(dD d.kc j).hl=true∧qk kb' j≠[]
    rw[fin hkw.1,h.onk];by_cases e:ci=j
    ·subst e;simp[hs]
    ·simp[e]
  ·have hq0:qk d.kb ci≠[]:=by
    rw[kZ hm];intro e;rw[hqq,e] at h1;exact h1 rfl
   refine⟨⟨h.lt1,h.lm1,hL,h.aok,hB1,hnd,h.ym,⟨A,hA,hK⟩,fun j=>?_,h.el,hek oW,hpk oW,hG1,hqi⟩,fun i=>by rw[fin oW];simp,fun _=>hck,fun hz=>⟨hl1 hz.1,hz.2⟩⟩
   show j∈d.on.map (·.1)↔fK d.kc j=true∧(dD d.kc j).hl=true∧qk (dC d.kb ci {m with q:=q}) j≠[]
   rw[fin oW,h.onk];by_cases e:ci=j
   ·subst e;simp[hq0]
   ·simp[e]
theorem zy(h:now≤4611686018427387904):dS now 9223372036854775807=now:=by unfold dS;split<;>omega
theorem LF(hr: ∀y∈L,y.ka≤gh)(h:i9 L≤now)(hn:now≤4611686018427387904): ∃y,eR now L=some y:=by
 unfold i9 at h
 split at h
 ·unfold oe at h;omega
 ·rename_i hL
  obtain⟨y,e⟩:=EO hr hL
  obtain⟨h1,-⟩:=zN e
  have h2:y.va≤now:=by rw[e] at h;simp only[Option.getD_some] at h;unfold dS oe at h;split at h<;>omega
  have:(eR now L).isSome:=by unfold eR;rw[List.find?_isSome];exact⟨y,h1,by simpa using h2⟩
  exact Option.isSome_iff_exists.1 this
theorem Fa(hL:dr kc)(hB:fH kc kb)(hA: ∀i,A i→fK kc i=true)(h:KT kc A kk (fun q=>q=0))(hn:now≤4611686018427387904): ∀(f:Nat)(i:Int),oJ kc i→17≤dep kc i+f→mg kk i≤now→ ∃j,jQ kb kk now f i=some j
 |0,i,hi,hd,_=>by have:=hL.dep i;omega
 |f+1,i,hi,hd,hf=>by
  obtain⟨v,h1,h2⟩:=h i hi
  unfold mg at hf;rw[h1] at hf;simp only[Option.map_some,Option.getD_some] at hf
  obtain⟨y,hy⟩:=LF (fun y hy=>h2.rng _ y<|pq h2.er hy) hf hn
  have hp:kY kk now i=some y:=by unfold kY;rw[h1,zy hn];exact hy
  obtain⟨v',h1',h5,h3,h4,h6⟩:=Ag h hi hp
  rw[h1] at h1';cases h1'
  rw[zy hn] at h6
  obtain⟨c,h7,h8⟩:=kG<|hA _ h3
  obtain⟨m,h9,h10,-⟩:=tO hB h7
  have hlf:o9 kb y.ki=c.hl:=by unfold o9;rw[h9];simp[h10]
  unfold jQ;rw[hp];dsimp only
  cases e:c.hl with
  |true=>rw[if_pos<|hlf.trans e];exact⟨_,rfl⟩
  |false=>
   rw[if_neg (by rw[hlf,e];simp)]
   refine Fa hL hB hA h hn f _ (.inr ⟨c,h7,e⟩) (by rw[jB hL h7,←h8,h4];omega) ?_
   have:=h2.fit _ y h5 (by rw[h8];exact e)<|rM hL (by rw[h7];simp)
   omega
theorem J2(h:Iv c d)(hd:jh d.et d.kk≤now)(hn:now≤4611686018427387904)(ht:nj d now z ok d'):ok=true:=by
 obtain⟨-,-,-,⟨hc,-⟩|⟨-,h2,-⟩⟩:=ht
 rotate_left
 ·exact h2
 exfalso
 have hch:(eU d.et d.kb d.kk now).2.2=true:=by
  unfold eU
  split
  ·rfl
  ·rename_i hb
   obtain⟨A,hA,hK⟩:=h.ac
   have hf:mg d.kk 0≤now:=by
    unfold jh dS at hd
    split at hd
    ·exact hd
    ·exfalso
     rename_i hlt
     unfold nG at hd hlt
     cases e:d.et.toL with
     |nil=>rw[e,if_pos rfl] at hd;unfold oe at hd;omega
     |cons y L=>
      rw[e] at hd;simp only[List.head?_cons,Option.getD_some,reduceCtorEq,if_false] at hd
      have h1:y.ka≤now:=by unfold dS oe at hd;split at hd<;>omega
      rw[zy hn,e] at hb
      unfold eS bl at hb
      rw[List.filter_cons_of_pos<|by simpa using h1] at hb
      exact zx _ y hb
   obtain⟨j,hj⟩:=Fa h.laid h.by_ hA.ast.sh hK hn 17 0 (.inl rfl) (by omega) hf
   rw[hj];rfl
 rw[hch] at hc;cases hc
structure mw where
 bs:Nat
 mc:Nat
 mr:Nat
def vI(s:mw)(cv:List (Int×SL))(rv:List (Int×SR)):List V.dB:=[cw s.bs [.map<|some s.mc,.map<|some s.mr] 157,dY (fun k:Int=>i_ k) V.jo s.mc cv,fX 40 iI cv,dY (fun k:Int=>i_ k) (fun y:SR=>(.agg #[u_ y.sp,u_ y.sb,u_ y.sr,u_ y.sw,u_ y.sg])) s.mr rv]
def fh(s:mw)(cv:List (Int×SL))(rv:List (Int×SR)):V.dB:=co<|vI s cv rv
def gi(n:Nat)(cv:List (Int×SL)):Prop:= ∀k,((cu cv k).getD dN).sx.length≤n
theorem U7(w:World)(hs:HS w (dE []) [] w):Calls Tryz.prog 44 #[] w fun e w'=> ∃zz:mw,e= .returned (p_ zz.bs)∧True∧Turn [] [fh zz [] []] w w':=by
 refine(Sr w hs).mono ?_
 rintro e w' ⟨⟨bs,mc,mr⟩,h1,-,h3⟩
 exact⟨⟨bs,mc,mr⟩,h1,trivial,Turn.coR (Y:=[]) (by rw[List.append_nil];exact h3)⟩
theorem Su(s:mw)(cv:List (Int×SL))(rv:List (Int×SR))(n:Nat)(ci a:Int)(hn:gi n cv)(h:n≤100000)(w:World)(hs:HS w (dE [fh s cv rv]) [fh s cv rv] w):Calls Tryz.prog 77 #[p_ s.bs,i_ ci,u_ a] w fun e w'=> ∃zz:List (Int×SL),e= .returned (i_ 0)∧gi (n+1) zz∧Turn [fh s cv rv] [fh s zz rv] w w':=by
 refine(P4 s.bs s.mc s.mr cv rv ci a (Nat.le_trans (hn ci) h) w<|HS.coS hs).mono ?_
 rintro e w' ⟨zc,h1,⟨A,c,h2⟩,h3⟩
 refine⟨zc,h1,fun k=>?_,Turn.coS h3⟩
 rw[h2,fm];by_cases e:ci=k
 ·rw[if_pos e];have:=hn ci;simp;omega
 ·rw[if_neg e];have:=hn k;omega
theorem Sv(s:mw)(cv:List (Int×SL))(rv:List (Int×SR))(n:Nat)(ci dn nb:Int)(rl:Bool)(hn:gi n cv)(w:World)(hs:HS w (dE [fh s cv rv]) [fh s cv rv] w):Calls Tryz.prog 116 #[p_ s.bs,i_ ci,u_ dn,i_ nb,b_ rl] w fun e w'=> ∃zz:Int×List (Int×SL)×List (Int×SR),e= .returned (i_ zz.1)∧gi n zz.2.1∧Turn [fh s cv rv] [fh s zz.2.1 zz.2.2] w w':=by
 have hf:=HS.coS hs
 by_cases hw:m8 cv ci dn nb=0
 ·refine(P5 s.bs s.mc s.mr cv rv ci dn nb rl hw w hf).mono ?_
  rintro e w' ⟨_,h1,-,h3⟩
  refine⟨(0,_,_),h1,fun k=>?_,Turn.coS h3⟩
  rw[fm];by_cases e:ci=k
  ·rw[if_pos e];have:=hn ci;simp[uy];omega
  ·rw[if_neg e];exact hn k
 ·refine(K9 s.bs s.mc s.mr cv rv ci dn nb rl hw w (hf.all _<|by simp[vI]) (hf.all _<|by simp[vI]) (hf.all _<|by simp[vI])<|hf.all _<|by simp[vI]).mono ?_
  rintro e w' ⟨rfl,h2⟩
  exact⟨(_,cv,rv),rfl,hn,Turn.of (hs.kept h2)<|.refl _⟩
structure Ru where
 bt:Nat
 ar:Option Addr
 cr:Nat
 mb:Nat
 am:Option Addr
 cm:Nat
 rl:List Rl
def vJ(r:Ru):List V.dB:=[cw r.bt [.slice r.ar r.rl.length r.cr,.map<|some r.mb,.slice r.am (dV r.rl r.rl.length).length r.cm] 150,sl r.ar r.rl.length r.cr 86 9<|V.dF ft r.rl,dY ic (fun x:Int=>i_ x) r.mb<|eF r.rl r.rl.length,sl r.am (dV r.rl r.rl.length).length r.cm 3 1 (V.dF iQ<|dV r.rl r.rl.length)]
def gj(r:Ru):V.dB:=co<|vJ r
structure lG(l:List Rl):Prop where
 len:l.length≤32
 good: ∀x∈l,x.good=true
 rng: ∀x∈l,kP x
theorem Sz(r:Ru)(h:Hd)(ho:lG r.rl)(hh:kO h)(w:World)(hr:(gj r).holds w):Calls Tryz.prog 75 #[p_ r.bt,.agg #[w_ h.ha,w_ h.hb,w_ h.hc,w_ h.hd]] w fun e w'=>e= .returned (.tuple #[i_<|fW r.rl h,i_<|lz<|fW r.rl h])∧Fr [] w w':=
 PD r.bt r.ar r.rl r.cr r.mb r.am r.cm h ho.len ho.rng hh ho.good w (hr _<|by simp[vJ]) (hr _<|by simp[vJ]) (rL<|hr (sl r.ar r.rl.length r.cr 86 9<|V.dF ft r.rl)<|by simp[vJ]) (rL<|hr (sl r.am (dV r.rl r.rl.length).length r.cm 3 1 (V.dF iQ<|dV r.rl r.rl.length))<|by simp[vJ])
theorem Ip(al:Option Addr)(l:List Rl)(cl:Nat)(ho:lG l)(w:World)(ha:eo w al (V.dF ft l))(hs:HS w (dE []) [] w):Calls Tryz.prog 43 #[.slice al l.length cl] w fun e w'=> ∃zz:Ru,e= .returned (.tuple #[p_ zz.bt,i_ 0])∧zz.rl=l∧Turn [] [gj zz] w w':=by
 refine(RP al l cl ho.len ho.good ho.rng w ha hs).mono ?_
 rintro e w' ⟨⟨bt,ar,cr,mb,am,cm⟩,h1,-,h3⟩
 exact⟨⟨bt,ar,cr,mb,am,cm,l⟩,h1,rfl,Turn.coR (Y:=[]) (by rw[List.append_nil];exact h3)⟩
def jq(l:List Rl):Int:=if l.length≤32 then 1 else 2
theorem TA(l:List Rl):jq l≠0:=by unfold jq;split<;>decide
theorem TB(al:Option Addr)(l:List Rl)(cl:Nat)(hR: ∀x∈l,kP x)(ho: ¬lG l)(w:World)(ha:eo w al (V.dF ft l)):Calls Tryz.prog 43 #[.slice al l.length cl] w fun e w'=>e= .returned (.tuple #[n_,i_<|jq l])∧Fr [] w w':=by
 by_cases hl:l.length≤32
 ·rw[show jq l=1 from if_pos hl];exact Ov al l cl hl (fun h=>ho ⟨hl,h,hR⟩) hR w ha
 ·rw[show jq l=2 from if_neg hl];exact NZ al l cl (by omega) w ha
structure Rs where
 wq1:Int
 wq2:Int
 wq3:Int
 deriving Inhabited,DecidableEq
def gV(x:Rs):List Value:=[(i_ x.wq1),(i_ x.wq2),(i_ x.wq3)]
theorem oP(x:Rs):(gV x).length=3:=rfl
theorem MD(x:Rs):(gV x).all Value.oneCell'=true:=rfl
structure Ev where
 vq1:Int
 vq2:Bool
 vq3:Bool
 vq4:Int
 vq5:Int
 vq6:Int
 vq7:Int
 vq8:Int
 vq9:Int
 vq10:Int
 vq11:Int
 vq12:Int
 deriving Inhabited,DecidableEq
def iJ(x:Ev):List Value:=[(i_ x.vq1),(b_ x.vq2),(b_ x.vq3),(u_ x.vq4),(u_ x.vq5),(i_ x.vq6),(u_ x.vq7),(i_ x.vq8),(w_ x.vq9),(w_ x.vq10),(w_ x.vq11),(w_ x.vq12)]
theorem ju(x:Ev):(iJ x).length=12:=rfl
theorem vn(x:Ev):(iJ x).all Value.oneCell'=true:=rfl
abbrev eV(A:Option Addr)(xs:List Ev)(c:Nat):V.dB:=sl A xs.length c 52 12<|V.dF iJ xs
def mG(x:Ev)(o:Int):Ev:={x with vq1:=o}
def gB(p:Pk):Hd:=⟨p.qa,p.qb,p.qc,p.qd⟩
set_option maxHeartbeats 4000000 in
set_option maxRecDepth 100000 in
theorem Iq(x:Ev)(bo bu:Nat)(oo:Int)(A_:Option Addr)(evs:List Ev)(c_:Nat)(hle:evs.length≤1000000):
  CS 45 #[.agg (iJ x).toArray,p_ bo,p_ bu] [cw bo [i_ oo] 3,cw bu [vS A_ evs c_] 30,eV A_ evs c_] (fun((A',c'):(Option Addr)×Nat)=>(.tuple #[])) (fun _=>True) fun(A',c')=>[cw bo [i_ oo] 3,cw bu [vS A' (evs++[mG x oo]) c'] 30,eV A' (evs++[mG x oo]) c']:=by
 intro w hs
 refine A.C Tryz.func45 rfl hs (A.c<|A.m1 [.al] (fun b1=>[(1,p_ bo),(2,p_ bu),(3,p_ b1)]) (fun _=>[]) (fun b1=>cw b1 (iJ x) 52) (fun b1=>[]) ?_)
 intro b1
 refine A.c<|A.gT [.ld 0,.p,.st 3] [(2,p_ bu),(3,p_ b1)] [(3,cw b1 [i_ oo,b_ x.vq2,b_ x.vq3,u_ x.vq4,u_ x.vq5,i_ x.vq6,u_ x.vq7,i_ x.vq8,w_ x.vq9,w_ x.vq10,w_ x.vq11,w_ x.vq12] 52)] [bo,b1]<|A.s<|A.hp [.ld 1,.ld 3] [(2,p_ bu),(6,vS A_ evs c_),(7,.agg #[i_ oo,b_ x.vq2,b_ x.vq3,u_ x.vq4,u_ x.vq5,i_ x.vq6,u_ x.vq7,i_ x.vq8,w_ x.vq9,w_ x.vq10,w_ x.vq11,w_ x.vq12])] [bu,b1]<|A.j<|A.aE 8 (e:=52) [i_ oo,b_ x.vq2,b_ x.vq3,u_ x.vq4,u_ x.vq5,i_ x.vq6,u_ x.vq7,i_ x.vq8,w_ x.vq9,w_ x.vq10,w_ x.vq11,w_ x.vq12] (by kernel_rfl) rfl (fun _=>by kernel_rfl) (fun b2=>[cw bo [i_ oo] 3,cw bu [vS A_ evs c_] 30,eV A_ evs c_,cw b1 [i_ oo,b_ x.vq2,b_ x.vq3,u_ x.vq4,u_ x.vq5,i_ x.vq6,u_ x.vq7,i_ x.vq8,w_ x.vq9,w_ x.vq10,w_ x.vq11,w_ x.vq12] 52,cw b2 [i_ oo,b_ x.vq2,b_ x.vq3,u_ x.vq4,u_ x.vq5,i_ x.vq6,u_ x.vq7,i_ x.vq8,w_ x.vq9,w_ x.vq10,w_ x.vq11,w_ x.vq12] 52]) (fun _=>rfl) ?_
 intro b2
 refine A.j<|A.an (enc:=iJ) (xs:=evs) ([(⟨oo,x.vq2,x.vq3,x.vq4,x.vq5,x.vq6,x.vq7,x.vq8,x.vq9,x.vq10,x.vq11,x.vq12⟩:Ev)]) 2 9 (e:=52) (z:=(.agg #[i_ 0,b_ false,b_ false,u_ 0,u_ 0,i_ 0,u_ 0,i_ 0,w_ 0,w_ 0,w_ 0,w_ 0])) (sz:=12) (by_:=64) (by kernel_rfl) rfl rfl rfl (by kernel_rfl) (by kernel_rfl) (by rfl) (by decide) ju vn rfl (gG (i:=4) rfl) (by first|omega|(simp;omega)|(simp;done)) (fun A3 c3=>[cw bo [i_ oo] 3,cw bu [vS A_ evs c_] 30,eV A3 (evs++([(⟨oo,x.vq2,x.vq3,x.vq4,x.vq5,x.vq6,x.vq7,x.vq8,x.vq9,x.vq10,x.vq11,x.vq12⟩:Ev)])) c3,cw b1 [i_ oo,b_ x.vq2,b_ x.vq3,u_ x.vq4,u_ x.vq5,i_ x.vq6,u_ x.vq7,i_ x.vq8,w_ x.vq9,w_ x.vq10,w_ x.vq11,w_ x.vq12] 52,cw b2 [i_ oo,b_ x.vq2,b_ x.vq3,u_ x.vq4,u_ x.vq5,i_ x.vq6,u_ x.vq7,i_ x.vq8,w_ x.vq9,w_ x.vq10,w_ x.vq11,w_ x.vq12] 52]) (fun _ _=>rfl) ?_
 intro A3 c3
 refine A.gT [.st 1] [] [(1,cw bu [vS A3 (evs++([(⟨oo,x.vq2,x.vq3,x.vq4,x.vq5,x.vq6,x.vq7,x.vq8,x.vq9,x.vq10,x.vq11,x.vq12⟩:Ev)])) c3] 30)] [bu]<|A.su 1 (cw bu [vS A3 (evs++[mG x oo]) c3] 30) rfl (iL<|cc (congrArg (fun z_:List Ev=>Value.slice A3 z_.length c3) (by first|rfl|omega|(simp;done)|grind:evs++([(⟨oo,x.vq2,x.vq3,x.vq4,x.vq5,x.vq6,x.vq7,x.vq8,x.vq9,x.vq10,x.vq11,x.vq12⟩:Ev)])=(evs++[mG x oo]))) rfl) (A.su 2 (eV A3 (evs++[mG x oo]) c3) rfl (eI (by first|rfl|omega|(simp;done)|grind:evs++([(⟨oo,x.vq2,x.vq3,x.vq4,x.vq5,x.vq6,x.vq7,x.vq8,x.vq9,x.vq10,x.vq11,x.vq12⟩:Ev)])=(evs++[mG x oo]))) (A.aN [0,0,0] [] (fun _ w r s=>trivial) (A3,c3) ?_ ?_<|by kernel_rfl))
 ·rfl
 ·trivial
def Up(oo:Int)(z:Pd)(now t:Int):Ev:=⟨oo,false,z.gq8,now,now+z.gq3*t,z.gq1,z.gq2,z.gq3,z.gq4,z.gq5,z.gq6,z.gq7⟩
def rS(d:Sd)(un t oo now:Int)(evs:List Ev)(d':Sd)(un':Int)(evs':List Ev):Prop:=
 (now<un∧d'=d∧un'=un∧evs'=evs)∨(un≤now∧ ∃z ok,nj d now z ok d'∧((ok=false∧un'=un∧evs'=evs)∨(ok=true∧un'=now+z.gq3*t∧evs'=evs++[Up oo z now t])))
theorem P7(h:od c d)(ht:nj d now z ok d')(ho:ok=true):1≤z.gq3∧z.gq3≤16384:=by
 obtain⟨-,-,-,⟨-,h2,-⟩|⟨-,-,-,-,m,q,h3,h4,-⟩⟩:=ht
 ·rw[ho] at h2;cases h2
 ·exact h.pk _ m h3 (mC z) (by rw[h4.2.1];exact List.mem_cons_self ..)
def iU(clk un:Int)(d:Sd):Int:=nn clk un<|jh d.et d.kk
abbrev yF(p0)(p1)(p2)(p3)(p4)(p5):=(cw p0 [u_ p1,u_ p2,u_ p3,i_ p4,u_ p5] 146:V.dB)
abbrev yG(p0)(p1:Ss)(p2)(p3:Ru)(p4:mw)(p5)(p6):=(cw p0 [p_ p1.sb,p_ p2,p_ p3.bt,p_ p4.bs,u_ p5,i_ p6] 114:V.dB)
theorem TC(sy:Nat)(c:Ss)(d:Sd)(bl:Nat)(k1 k2 k3 t un:Int)(r:Ru)(s:mw)(clk no:Int)(hP:od c d):
  CS 79 #[p_ sy] [yG sy c bl r s clk no,fF c d,yF bl k1 k2 k3 t un] (fun(zz:Unit)=>(u_<|iU clk un d)) (fun _=>True) fun _=>[yG sy c bl r s clk no,fF c d,yF bl k1 k2 k3 t un]:=by
 intro w hs
 refine A.C Tryz.func79 rfl hs (A.c<|A.g [.p] [] []<|A.d<|A.c<|A.g [.p,.p] [] [(4,b_ false)]<|A.cf<|A.p<|A.d<|A.O [14] 16<|A.kd 2 [.p,.p,.p,.ld 0,.p,.p,.p,.ld 0,.cq<|u_ un,.p,.p,.p,.ld 0,.cq<|u_<|jh d.et d.kk] (rg 0 14) [0,4] [(8,u_ clk),(13,u_ un),(18,u_<|jh d.et d.kk)] [sy,sy,sy] (oc (qo<|fun w s=>NW bl k1 k2 k3 t un w<|s.mem (i:=2) rfl)<|o1<|qo<|fun w s=>UB c d ‹_› w (s.mem (i:=1) rfl))<|A.F 14 rfl (A.I (some 19) [] (fun w s h=>Pg clk un (jh d.et d.kk) w h) ?_))
 rintro⟨⟩-
 refine A.E<|A.dT 0 [.p] [15] [8,13,18,19] [(2,u_<|nn clk un<|jh d.et d.kk)] []<|A.M<|A.e<|A.Y [0,0,0] [u_<|nn clk un<|jh d.et d.kk] () ?_ ?_
 ·rfl
 trivial
theorem Ir(sy:Nat)(c:Ss)(d:Sd)(bl:Nat)(k1 k2 k3 t un:Int)(r:Ru)(s:mw)(cv:List (Int×SL))(rv:List (Int×SR))(clk no:Int)(bo bu:Nat)(oo:Int)(A_:Option Addr)(evs:List Ev)(c_:Nat)(now:Int)(n:Nat)(hP:od c d)(hck:d.ck≤now)(hnw:0≤now∧now≤4611686018427387904)(htt:1≤t∧t≤65536)(hle:evs.length≤999999)(hst:gi n cv):
  CS 78 #[p_ sy,u_ now,.func (.func 45) #[] #[p_ bo,p_ bu]] [yG sy c bl r s clk no,fF c d,yF bl k1 k2 k3 t un,fh s cv rv,cw bo [i_ oo] 3,cw bu [vS A_ evs c_] 30,eV A_ evs c_] (fun((d',un',q1',q2',q3',cv',rv',evs',A',c'):Sd×Int×Int×Int×Int×(List<|Int×SL)×(List<|Int×SR)×(List Ev)×(Option Addr)×Nat)=>(.tuple #[])) (fun(d',un',q1',q2',q3',cv',rv',evs',A',c')=>rS d un t oo now evs d' un' evs'∧gi n cv') fun(d',un',q1',q2',q3',cv',rv',evs',A',c')=>[yG sy c bl r s clk no,fF c d',yF bl q1' q2' q3' t un',fh s cv' rv',cw bo [i_ oo] 3,cw bu [vS A' evs' c'] 30,eV A' evs' c']:=by
 intro w hs
 refine A.C Tryz.func78 rfl hs (A.d<|A.c<|A.k [.p,.p,.p,.ld 0,.p,.cq<|b_<|decide (now≥un),.p] [] [(16,b_ (!(decide (now≥un))))] [sy] (o1<|qo<|fun w s=>Ao bl k1 k2 k3 t un now w<|s.mem (i:=2) rfl)<|A.v rfl (fun e1=>?_) (fun e1=>?_))
 ·refine A.e<|A.aG [0,0,0,0,0,0,0] [] (fun _ w r s=>trivial) (d,un,k1,k2,k3,cv,rv,evs,A_,c_) ?_ ?_<|by kernel_rfl
  ·rfl
  exact⟨.inl ⟨by(simp_all;done),rfl,rfl,rfl⟩,hst⟩
 have p1:=e1;try simp only[dc] at p1
 refine A.p<|A.c<|A.gm [.p,.p,.p,.ld 0,.p] [16] [(21,p_ c.sb),(22,u_ now)] [sy]<|A.j<|A.I (some 23) [1] (fun w s h=>Q1 c d now ‹_› ‹_› (by omega) w h) ?_
 rintro⟨z1,ok2,d'3⟩ hz2
 refine A.g1 [.p,.p,.p,.al,.st 7,.p] [21,22,23] (fun b4=>[(6,p_ b4),(7,b_ ok2)]) (fun b4=>[]) (fun b4=>cw b4 (CY z1) 235) (fun b4=>[b4]) ?_
 intro b4
 refine A.d<|A.c<|A.g [.p,.p] [7] [(27,b_ (!ok2))]<|A.cn (!ok2) (fun e3=>?_)<|fun e3=>?_
 ·have p3:=e3
  refine A.e<|A.aG [1,0,0,0,0,0,0] [] (fun _ w r s=>trivial) (d'3,un,k1,k2,k3,cv,rv,evs,A_,c_) ?_ ?_<|by kernel_rfl
  ·rfl
  exact⟨.inr ⟨by(simp_all;done),_,_,by assumption,.inl ⟨by(simp_all;done),rfl,rfl⟩⟩,hst⟩
 have p3:=e3
 refine A.p<|A.d<|A.O [7] 13<|A.dT 6 [.p,.p,.p,.ld 1,.p,.p,.ld 7] (rg 0 7) [27] [(32,p_ bl),(33,u_ now),(35,.agg #[u_ z1.gq2,i_ z1.gq3,w_ z1.gq4,w_ z1.gq5,w_ z1.gq6,w_ z1.gq7])] [sy,b4]<|A.F 7 rfl (A.I (some 36) [2] (fun w s h=>Ot bl k1 k2 k3 t un now (mC z1) ‹_› (by exact P7 hP ‹_› (by(simp_all;done))) ‹_› ‹_› w h) ?_)
 rintro⟨z15,z26,z37⟩-
 refine A.E<|A.dT 0 (ps 5) (rg 8 5) [32,33,35,36] [(8,u_<|now+(mC z1).qn*t)] []<|A.M<|A.d<|A.O [12] 13<|A.dT 1 [.p,.p,.p,.ld 2,.p,.ld 7,.p,.p,.p,.ld 7,.p,.ld 7] (rg 0 12) [0] [(42,p_ s.bs),(44,i_ z1.gq1),(45,u_<|now+(mC z1).qn*t),(48,i_ z1.gq3),(50,b_ z1.gq8)] [sy,b4,b4,b4]<|A.F 12 rfl (A.I (some 51) [3] (fun w ss h=>Sv s cv rv n z1.gq1 (now+(mC z1).qn*t) z1.gq3 z1.gq8 ‹_› w h) ?_)
 rintro⟨zi8,cv'9,rv'10⟩ hz5
 refine A.E<|A.M<|A.s<|A.gm [.p,.p,.ld 7,.p,.p,.p,.ld 7,.p,.ld 7,.p] [1,2,6,8,42,44,45,48,50,51] [(52,.func (.func 45) #[] #[p_ bo,p_ bu]),(61,.agg #[i_ 0,b_ false,b_ z1.gq8,u_ now,u_<|now+(mC z1).qn*t,i_ z1.gq1,u_ z1.gq2,i_ z1.gq3,w_ z1.gq4,w_ z1.gq5,w_ z1.gq6,w_ z1.gq7])] [b4,b4,b4]<|A.j<|A.I (some 62) [4,4,4] (fun w s h=>Iq (⟨0,false,z1.gq8,now,now+(mC z1).qn*t,z1.gq1,z1.gq2,z1.gq3,z1.gq4,z1.gq5,z1.gq6,z1.gq7⟩:Ev) bo bu oo A_ evs c_ (by omega) w h) ?_
 rintro⟨A'11,c'12⟩-
 refine A.aB<|A.aN [6,5,4,3,0,0,0] [] (fun _ w r s=>trivial) (d'3,now+(mC z1).qn*t,z15,z26,z37,cv'9,rv'10,evs++[mG (⟨0,false,z1.gq8,now,now+(mC z1).qn*t,z1.gq1,z1.gq2,z1.gq3,z1.gq4,z1.gq5,z1.gq6,z1.gq7⟩:Ev) oo],A'11,c'12) ?_ ?_<|by kernel_rfl
 ·rfl
 exact⟨.inr ⟨by(simp_all;done),_,_,by assumption,.inr ⟨by(simp_all;done),rfl,rfl⟩⟩,by assumption⟩
structure ni(c:Ss)(I:Sd→Prop)(cnt:Sd→Nat):Prop where
 pre: ∀d,I d→od c d
 take: ∀d now z ok d',I d→d.ck≤now→nj d now z ok d'→I d'∧cnt d'≤cnt d∧(ok=true→cnt d'+1≤cnt d)
 put: ∀d now ci p er d',I d→d.ck≤now→nt c d now ci p er d'→I d'∧cnt d'≤cnt d+1
 chg: ∀d idle l pl er d',I d→(∀z∈l,j0 z)→qy c d idle l pl er d'→I d'∧cnt d'≤cnt d
 go: ∀d now z ok d',I d→jh d.et d.kk≤now→now≤4611686018427387904→nj d now z ok d'→ok=true
variable{I:Sd→Prop}{cnt:Sd→Nat}{un:Int}{evs evs':List Ev}
theorem uS(hW:ni c I cnt){t oo un':Int}(hI:I d)(h1:d.ck≤now)(h:rS d un t oo now evs d' un' evs'):I d'∧evs'.length+cnt d'≤evs.length+cnt d∧d'.ck≤now:=by
 rcases h with⟨-,rfl,-,rfl⟩|⟨-,z,ok,ht,h⟩
 ·exact⟨hI,Nat.le_refl _,h1⟩
 ·obtain⟨a1,a2,a3⟩:=hW.take d now z ok d' hI h1 ht
  have hc:d'.ck=now:=ht.2.1
  rcases h with⟨-,-,rfl⟩|⟨e,-,rfl⟩
  ·exact⟨a1,by omega,by omega⟩
  ·have:=a3 e;exact⟨a1,by simp;omega,by omega⟩
theorem xK{clk fin:Int}(h:iU clk un d≤fin)(hf:fin≤4611686018427387904):clk≤iU clk un d∧un≤iU clk un d∧jh d.et d.kk≤iU clk un d:=by
 unfold iU nn q8 dS at*;grind
theorem ME(hW:ni c I cnt){clk t oo un' fin:Int}(hI:I d)(h1:d.ck≤clk)(hx:iU clk un d≤fin)(hf:fin≤4611686018427387904)(h:rS d un t oo (iU clk un d) evs d' un' evs'):cnt d'<cnt d:=by
 obtain⟨b1,b2,b3⟩:=xK hx hf
 rcases h with⟨h2,-⟩|⟨-,z,ok,ht,h⟩
 ·omega
 ·have:=(hW.take d _ z ok d' hI (by omega) ht).2.2 (hW.go d _ z ok d' hI b3 (by omega) ht);omega
inductive oL(t oo fin:Int):Int→Sd→Int→List Ev→Sd→Int→List Ev→Prop
 |stop {clk:Int} {d:Sd} {un:Int} {evs:List Ev}:fin<iU clk un d→oL t oo fin clk d un evs d un evs
 |step {clk:Int} {d d1 d2:Sd} {un un1 un2:Int} {evs evs1 evs2:List Ev}:iU clk un d≤fin→rS d un t oo (iU clk un d) evs d1 un1 evs1→oL t oo fin (iU clk un d) d1 un1 evs1 d2 un2 evs2→oL t oo fin clk d un evs d2 un2 evs2
def rs(e p k:Int):Rs:=⟨e,p,k⟩
def VD(oo clk k:Int)(p:Pk):Ev:=⟨oo,true,false,clk,0,k,p.qi,p.qn,p.qa,p.qb,p.qc,p.qd⟩
def xM(c:Ss)(rl:List Rl)(d:Sd)(un t oo clk:Int)(p:Pk)(evs:List Ev)(x:Rs)(d':Sd)(un':Int)(evs':List Ev):Prop:=
 (lz (fW rl<|gB p)≠0∧x=rs (lz<|fW rl<|gB p) 0 0∧d'=d∧un'=un∧evs'=evs)∨
 (lz (fW rl<|gB p)=0∧ ∃er d1,nt c d clk (fW rl<|gB p) p er d1∧((er≠0∧x=rs er 0 (fW rl<|gB p)∧d'=d1∧un'=un∧evs'=evs)∨(er=0∧x=rs 0 0 (fW rl<|gB p)∧rS d1 un t oo clk (evs++[VD oo clk (fW rl<|gB p) p]) d' un' evs')))
def GF(d:Sd)(un t oo clk tk:Int)(evs:List Ev)(x:Rs)(clk':Int)(d':Sd)(un':Int)(evs':List Ev):Prop:=
 (4611686018427387904-clk<tk∧x=rs 27 0 0∧clk'=clk∧d'=d∧un'=un∧evs'=evs)∨(tk≤4611686018427387904-clk∧x=rs 0 0 0∧clk'=clk+tk∧oL t oo (clk+tk) clk d un evs d' un' evs')
theorem qt{n m:Nat}{cv:List (Int×SL)}(h:gi n cv)(hn:n≤m):gi m cv:=fun k=>Nat.le_trans (h k) hn
theorem Iu(h:nt c d now ci p er d'):d'.ck≤now:=by have:=h.2.1;omega
theorem P8(hW:ni c I cnt){e:Ev}(hI:I d)(h1:d.ck≤now)(hle:evs.length+cnt d≤900000)(h:nt c d now ci p er d'):(evs++[e]).length≤999999:=by simp;omega
abbrev yH(p0:Ru)(p1):=(i_ (lz<|fW p0.rl<|gB p1):Value)
theorem Nu(sy:Nat)(c:Ss)(d:Sd)(bl:Nat)(k1 k2 k3 t un:Int)(r:Ru)(s:mw)(cv:List (Int×SL))(rv:List (Int×SR))(clk no:Int)(bo bu:Nat)(oo:Int)(A_:Option Addr)(evs:List Ev)(c_:Nat)(p:Pk)(n:Nat)(I:Sd→Prop)(cnt:Sd→Nat)(hW:ni c I cnt)(hI:I d)(hck:d.ck≤clk)(hnw:0≤clk∧clk≤4611686018427387904)(htt:1≤t∧t≤65536)(hle:evs.length+cnt d≤900000)(hst:gi n cv)(hn:n≤90000)(hr:lG r.rl)(hp:kO (gB p)):
  CS 48 #[p_ sy,.agg (gn p).toArray,.func (.func 45) #[] #[p_ bo,p_ bu]] [cw sy [p_ c.sb,p_ bl,p_ r.bt,p_ s.bs,u_ clk,i_ no] 114,fF c d,cw bl [u_ k1,u_ k2,u_ k3,i_ t,u_ un] 146,fh s cv rv,cw bo [i_ oo] 3,cw bu [vS A_ evs c_] 30,eV A_ evs c_,gj r] (fun((x,d',un',q1',q2',q3',cv',rv',evs',A',c'):Rs×Sd×Int×Int×Int×Int×(List<|Int×SL)×(List<|Int×SR)×(List Ev)×(Option Addr)×Nat)=>(.agg (gV x).toArray)) (fun(x,d',un',q1',q2',q3',cv',rv',evs',A',c')=>xM c r.rl d un t oo clk p evs x d' un' evs'∧gi (n+1) cv') fun(x,d',un',q1',q2',q3',cv',rv',evs',A',c')=>[cw sy [p_ c.sb,p_ bl,p_ r.bt,p_ s.bs,u_ clk,i_ no] 114,fF c d',cw bl [u_ q1',u_ q2',u_ q3',i_ t,u_ un'] 146,fh s cv' rv',cw bo [i_ oo] 3,cw bu [vS A' evs' c'] 30,eV A' evs' c',gj r]:=by
 intro w hs
 refine A.C Tryz.func48 rfl hs (A.c<|A.n2 [.al,.al] [1] (fun b1 b2=>[(4,p_ b1),(6,p_ b2)]) (fun b1 b2=>[cw b1 (gn p) 45,cw b2 [i_ 0,i_ 0,i_ 0] 49]) ?_)
 intro b1 b2
 refine A.d<|A.ka [.p,.p,.p,.ld 0,.p,.ld 8,.cq<|.tuple #[i_<|fW r.rl<|gB p,yH r p],.p,.p,.p,.p,.p] (rg 0 12) [] [(7,i_<|fW r.rl<|gB p),(8,yH r p)] [sy,b1] (o1<|qo<|fun w s=>Sz r (gB p) ‹_› ‹_› w (s.mem (i:=7) rfl))<|A.d<|A.c<|A.g [.p,.p] [] [(20,b_<|(lz<|fW r.rl<|gB p)!=0)]<|A.v rfl (fun e1=>?_) (fun e1=>?_)
 ·have p1:=e1;try simp only[dc] at p1
  refine A.c<|A.gs [.p,.p,.st 9] [0,2,4,7,8,20] [] [(9,cw b2 [yH r p,i_ 0,i_ 0] 49)] [b2]<|A.e<|A.aG [0,0,0,0,0,0,0,0] [.agg #[yH r p,i_ 0,i_ 0]] (fun _ w r s=>⟨iF 9 r s,trivial⟩) ((⟨lz<|fW r.rl<|gB p,0,0⟩:Rs),d,un,k1,k2,k3,cv,rv,evs,A_,c_) ?_ ?_<|by kernel_rfl
  ·rfl
  exact⟨.inl ⟨‹_›,rfl,rfl,rfl,rfl⟩,qt hst<|by omega⟩
 have p1:=e1;try simp only[dc] at p1
 refine A.p<|A.d<|A.d<|A.O [10] 12<|A.dT 2 [.p,.p,.p,.ld 0,.p,.p,.p,.ld 0,.p,.ld 8] (rg 0 10) [20] [(26,p_ c.sb),(30,u_ clk),(31,i_<|fW r.rl<|gB p),(32,.agg (gn p).toArray)] [sy,sy,b1]<|A.F 10 rfl (A.I (some 33) [1] (fun w s h=>UA c d clk (fW r.rl<|gB p) p (hW.pre _ hI) ‹_› (by omega) w h) ?_)
 rintro⟨er3,d'4⟩ hz2
 refine A.E<|A.dT 0 [.p] [11] [26,30,31,32,33] [(8,i_ er3)] []<|A.M<|A.c<|A.g [.p,.p] [] [(35,b_<|er3 !=0)]<|A.v rfl (fun e3=>?_) (fun e3=>?_)
 ·have p3:=e3;try simp only[dc] at p3
  refine A.c<|A.gs [.p,.p,.p,.st 9] [0,2,4,7,8,35] [] [(9,cw b2 [i_ er3,i_ 0,i_<|fW r.rl<|gB p] 49)] [b2]<|A.e<|A.aG [1,0,0,0,0,0,0,0] [.agg #[i_ er3,i_ 0,i_<|fW r.rl<|gB p]] (fun _ w r s=>⟨iF 9 r s,trivial⟩) ((⟨er3,0,fW r.rl<|gB p⟩:Rs),d'4,un,k1,k2,k3,cv,rv,evs,A_,c_) ?_ ?_<|by kernel_rfl
  ·rfl
  exact⟨.inr ⟨‹_›,_,_,by assumption,.inl ⟨‹_›,rfl,rfl,rfl,rfl⟩⟩,qt hst<|by omega⟩
 have p3:=e3;try simp only[dc] at p3
 refine A.p<|A.d<|A.O [9] 10<|A.dT 1 [.p,.p,.p,.ld 1,.p,.p,.p,.p,.ld 1] (rg 0 9) [8,35] [(42,p_ s.bs),(43,i_<|fW r.rl<|gB p),(47,u_ clk)] [sy,sy]<|A.F 9 rfl (A.I (some 48) [3] (fun w ss h=>Su s cv rv n (fW r.rl<|gB p) clk ‹_› (by omega) w h) ?_)
 rintro cv'5 hz4
 refine A.E<|A.M<|A.d<|A.O [8] 9<|A.dT 1 [.p,.p,.p,.p,.ld 2,.p,.ld 8,.p] (rg 0 8) [4,42,43,47,48] [(49,.func (.func 45) #[] #[p_ bo,p_ bu]),(56,.agg #[i_ 0,b_ true,b_ false,u_ clk,u_ 0,i_<|fW r.rl<|gB p,u_ p.qi,i_ p.qn,w_ p.qa,w_ p.qb,w_ p.qc,w_ p.qd])] [sy,b1]<|A.F 8 rfl (A.I (some 57) [4,4,4] (fun w s h=>Iq (⟨0,true,false,clk,0,fW r.rl<|gB p,p.qi,p.qn,p.qa,p.qb,p.qc,p.qd⟩:Ev) bo bu oo A_ evs c_ (by omega) w h) ?_)
 rintro⟨A'6,c'7⟩-
 refine A.E<|A.M<|A.c<|A.gm [.p,.p,.p,.p,.ld 5,.p] [0,2,49,56,57] [(58,p_ sy),(62,u_ clk),(63,.func (.func 45) #[] #[p_ bo,p_ bu])] [sy]<|A.j<|A.I (some 64) [5,4,4,3,0,0,0] (fun w ss h=>Ir sy c d'4 bl k1 k2 k3 t un r s cv'5 rv clk no bo bu oo A'6 (evs++[mG (⟨0,true,false,clk,0,fW r.rl<|gB p,p.qi,p.qn,p.qa,p.qb,p.qc,p.qd⟩:Ev) oo]) c'7 clk (n+1) (hW.pre _ (hW.put _ _ _ _ _ _ hI hck ‹_›).1) (Iu ‹_›) ‹_› ‹_› (P8 hW hI hck hle ‹_›) ‹_› w h) ?_
 rintro⟨d'9,un'10,q1'11,q2'12,q3'13,cv'14,rv'15,evs'16,A'17,c'18⟩ hz6
 refine A.aB<|A.c<|A.gs [.p,.p,.st 9] [7,58,62,63,64] [] [(9,cw b2 [i_ 0,i_ 0,i_<|fW r.rl<|gB p] 49)] [b2]<|A.e<|A.aG [0,0,0,0,0,0,0,0] [.agg #[i_ 0,i_ 0,i_<|fW r.rl<|gB p]] (fun _ w r s=>⟨iF 9 r s,trivial⟩) ((⟨0,0,fW r.rl<|gB p⟩:Rs),d'9,un'10,q1'11,q2'12,q3'13,cv'14,rv'15,evs'16,A'17,c'18) ?_ ?_<|by kernel_rfl
 ·rfl
 exact⟨.inr ⟨‹_›,_,_,by assumption,.inr ⟨‹_›,rfl,(by assumption:_∧gi _ _).1⟩⟩,(by assumption:_∧gi _ _).2⟩
theorem U8(sy:Nat)(c:Ss)(d:Sd)(bl:Nat)(k1 k2 k3 t un:Int)(r:Ru)(s:mw)(cv:List (Int×SL))(rv:List (Int×SR))(clk no:Int)(bo bu:Nat)(oo:Int)(A_:Option Addr)(evs:List Ev)(c_:Nat)(tk:Int)(n:Nat)(I:Sd→Prop)(cnt:Sd→Nat)(hW:ni c I cnt)(hI:I d)(hck:d.ck≤clk)(hnw:0≤clk∧clk≤4611686018427387904)(htt:1≤t∧t≤65536)(hle:evs.length+cnt d≤900000)(hst:gi n cv)(hn:n≤90000)(htk:0≤tk):
  CS 49 #[p_ sy,u_ tk,.func (.func 45) #[] #[p_ bo,p_ bu]] [cw sy [p_ c.sb,p_ bl,p_ r.bt,p_ s.bs,u_ clk,i_ no] 114,fF c d,cw bl [u_ k1,u_ k2,u_ k3,i_ t,u_ un] 146,fh s cv rv,cw bo [i_ oo] 3,cw bu [vS A_ evs c_] 30,eV A_ evs c_] (fun((x,clk',d',un',q1',q2',q3',cv',rv',evs',A',c'):Rs×Int×Sd×Int×Int×Int×Int×(List<|Int×SL)×(List<|Int×SR)×(List Ev)×(Option Addr)×Nat)=>(.agg (gV x).toArray)) (fun(x,clk',d',un',q1',q2',q3',cv',rv',evs',A',c')=>GF d un t oo clk tk evs x clk' d' un' evs'∧gi n cv') fun(x,clk',d',un',q1',q2',q3',cv',rv',evs',A',c')=>[cw sy [p_ c.sb,p_ bl,p_ r.bt,p_ s.bs,u_ clk',i_ no] 114,fF c d',cw bl [u_ q1',u_ q2',u_ q3',i_ t,u_ un'] 146,fh s cv' rv',cw bo [i_ oo] 3,cw bu [vS A' evs' c'] 30,eV A' evs' c']:=by
 intro w hs
 refine A.C Tryz.func49 rfl hs (A.c<|A.n1 [.al] [] (fun b1=>[(6,p_ b1)]) (fun b1=>cw b1 [i_ 0,i_ 0,i_ 0] 49) ?_)
 intro b1
 refine A.d<|A.c<|A.k [.p,.p,.p,.p,.ld 0,.w<|4611686018427387904-clk,.p] [] [(15,b_<|decide (tk>(4611686018427387904-clk)))] [sy] (o1<|wv (4611686018427387904-clk)<|by omega)<|A.v rfl (fun e1=>?_) (fun e1=>?_)
 ·have p1:=of_decide_eq_true e1
  refine A.c<|A.gs [.p,.st 7] [0,1,2,15] [] [(7,cw b1 [i_ 27,i_ 0,i_ 0] 49)] [b1]<|A.e<|A.aG [0,0,0,0,0,0,0] [.agg #[i_ 27,i_ 0,i_ 0]] (fun _ w r s=>⟨iF 7 r s,trivial⟩) ((⟨27,0,0⟩:Rs),clk,d,un,k1,k2,k3,cv,rv,evs,A_,c_) ?_ ?_<|by kernel_rfl
  ·rfl
  exact⟨.inl ⟨by omega,rfl,rfl,rfl,rfl,rfl⟩,hst⟩
 have p1:=of_decide_eq_false e1
 refine A.p<|A.c<|A.k [.p,.p,.p,.ld 0,.p,.w<|clk+tk,.p] [1,15] [(7,u_<|clk+tk)] [sy] (o1<|wv (clk+tk)<|by omega)<|A.y<|A.lp (σ:=Int×Sd×Int×Int×Int×Int×(List<|Int×SL)×(List<|Int×SR)×(List Ev)×(Option Addr)×Nat) [] (fun(clkk,dk,unk,j1,j2,j3,cvk,rvk,evsk,Ak,cck)=>[]) [0,0,0,0,0,0,0] (fun(clkk,dk,unk,j1,j2,j3,cvk,rvk,evsk,Ak,cck)=>[cw sy [p_ c.sb,p_ bl,p_ r.bt,p_ s.bs,u_ clkk,i_ no] 114,fF c dk,cw bl [u_ j1,u_ j2,u_ j3,i_ t,u_ unk] 146,fh s cvk rvk,cw bo [i_ oo] 3,cw bu [vS Ak evsk cck] 30,eV Ak evsk cck]) (fun(clkk,dk,unk,j1,j2,j3,cvk,rvk,evsk,Ak,cck)=>(I dk)∧(dk.ck≤clkk)∧(clk≤clkk∧clkk≤clk+tk)∧(evsk.length+cnt dk≤900000)∧(gi n cvk)∧(∀d2 un2 evs2,oL t oo (clk+tk) clkk dk unk evsk d2 un2 evs2→oL t oo (clk+tk) clk d un evs d2 un2 evs2)) (fun(clkk,dk,unk,j1,j2,j3,cvk,rvk,evsk,Ak,cck)=>cnt dk) (clk,d,un,k1,k2,k3,cv,rv,evs,A_,c_) ⟨hI,hck,(by(constructor<;>omega)),hle,hst,(fun _ _ _ h=>h)⟩ ?_ ?_
 ·exact A.J [0,0,0,0,0,0,0,0]
 rintro⟨clkk,dk,unk,j1,j2,j3,cvk,rvk,evsk,Ak,cck⟩ ⟨hIk,hckk,hbk,hlk,hsk,hA⟩
 refine A.y<|A.c<|A.N [.p] [] [(23,p_ sy)]<|A.j<|A.I (some 24) [0,0,0] (fun w ss h=>TC sy c dk bl j1 j2 j3 t unk r s clkk no (hW.pre _ hIk) w h) ?_
 rintro⟨⟩-
 refine A.g [.p] [23,24] [(8,u_<|iU clkk unk dk)]<|A.d<|A.c<|A.g (ps 3) [] [(27,b_<|decide ((iU clkk unk dk)>(clk+tk)))]<|A.v rfl (fun e3=>?_) (fun e3=>?_)
 ·have p3:=of_decide_eq_true e3
  refine A.c<|A.gs [.p,.p,.p,.p,.st 0] [0,2,7,8,27] [] [(0,cw sy [p_ c.sb,p_ bl,p_ r.bt,p_ s.bs,u_<|clk+tk,i_ no] 114)] [sy]<|A.c<|A.gs [.p,.st 7] [] [] [] [b1]<|A.e<|A.aG [0,0,0,0,0,0,0] [.agg #[i_ 0,i_ 0,i_ 0]] (fun _ w r s=>⟨iF 7 r s,trivial⟩) ((⟨0,0,0⟩:Rs),clk+tk,dk,unk,j1,j2,j3,cvk,rvk,evsk,Ak,cck) ?_ ?_<|by kernel_rfl
  ·rfl
  exact⟨.inr ⟨by omega,rfl,rfl,hA _ _ _<|.stop<|by omega⟩,hsk⟩
 have p3:=of_decide_eq_false e3
 refine A.p<|A.d ?_
 have hnl:=xK (clk:=clkk) (un:=unk) (d:=dk) (fin:=clk+tk) (by omega)<|by omega
 refine A.s<|A.gs [.p,.p,.p,.p,.st 0] [27] [] [(0,cw sy [p_ c.sb,p_ bl,p_ r.bt,p_ s.bs,u_<|iU clkk unk dk,i_ no] 114)] [sy]<|A.s<|A.N (ps 3) [8] [(37,p_ sy),(38,u_<|iU clkk unk dk),(39,.func (.func 45) #[] #[p_ bo,p_ bu])]<|A.j<|A.I (some 40) [0,0,0,0,0,0,0] (fun w ss h=>Ir sy c dk bl j1 j2 j3 t unk r s cvk rvk (iU clkk unk dk) no bo bu oo Ak evsk cck (iU clkk unk dk) n (hW.pre _ hIk) (by omega) (by omega) ‹_› (by omega) ‹_› w h) ?_
 rintro⟨d'2,un'3,q1'4,q2'5,q3'6,cv'7,rv'8,evs'9,A'10,c'11⟩ hz4
 refine A.aB<|A.Z ((iU clkk unk dk),d'2,un'3,q1'4,q2'5,q3'6,cv'7,rv'8,evs'9,A'10,c'11) ⟨((uS hW hIk (now:=iU clkk unk dk) (by omega) (by assumption:_∧gi _ _).1).1),((uS hW hIk (now:=iU clkk unk dk) (by omega) (by assumption:_∧gi _ _).1).2.2),(by(constructor<;>omega)),(by(have h_:=(uS hW hIk (now:=iU clkk unk dk) (by omega) (by assumption:_∧gi _ _).1).2.1;omega)),((by assumption:_∧gi _ _).2),(fun _ _ _ h=>hA _ _ _<|.step (by omega) (by assumption:_∧gi _ _).1 h)⟩ (by(show cnt _<cnt dk;exact ME hW (un:=unk) hIk hckk (fin:=clk+tk) (by omega) (by omega) (by assumption:_∧gi _ _).1)) ?_
 exact A.J [0,0,0,0,0,0,0,0]
def pR(c:Ss)(t kd:Int)(l:List Zc)(lr:List Rl)(p:Pk)(tk:Int)(no:Int)(d:Sd)(un clk:Int)(rl:List Rl)(x:Rs)(evs':List Ev)(d':Sd)(un' clk':Int)(rl':List Rl):Prop:=
 (kd=1∧(∃er pl,qy c d (decide (clk≥un)) l pl er d'∧x=rs er pl 0)∧un'=un∧clk'=clk∧rl'=rl∧evs'=[])∨
 (kd=2∧d'=d∧un'=un∧clk'=clk∧evs'=[]∧((lG lr∧rl'=lr∧x=rs 0 0 0)∨(¬lG lr∧rl'=rl∧x=rs (jq lr) 0 0)))∨
 (kd=3∧clk'=clk∧rl'=rl∧xM c rl d un t no clk p [] x d' un' evs')∨
 (kd=4∧rl'=rl∧GF d un t no clk tk [] x clk' d' un' evs')∨
 ((kd≠1∧kd≠2∧kd≠3∧kd≠4)∧x=rs 1 0 0∧d'=d∧un'=un∧clk'=clk∧rl'=rl∧evs'=[])
theorem Ur(sy:Nat)(c:Ss)(d:Sd)(bl:Nat)(k1 k2 k3 t un:Int)(r:Ru)(s:mw)(cv:List (Int×SL))(rv:List (Int×SR))(clk no:Int)(W:World)(kd:Int)(za:Option Addr)(zl:List Zc)(zc:Nat)(ra:Option Addr)(rl:List Rl)(rc:Nat)(p:Pk)(tk:Int)(n:Nat)(I:Sd→Prop)(cnt:Sd→Nat)(hza:eo W za (V.dF jS zl))(hra:eo W ra (V.dF ft rl))(hz: ∀z∈zl,j0 z)(hrl: ∀x∈rl,kP x)(hp:kO (gB p))(htk:0≤tk)(hno:0≤no∧no≤90000)(hr:lG r.rl)(hW:ni c I cnt)(hI:I d)(hck:d.ck≤clk)(hnw:0≤clk∧clk≤4611686018427387904)(htt:1≤t∧t≤65536)(hst:gi n cv)(hn:n≤90000)(hcd:cnt d≤900000):
  CS 32 #[p_ sy,.agg #[i_ kd,vS za zl zc,vS ra rl rc,u_ p.qi,i_ p.qn,w_ p.qa,w_ p.qb,w_ p.qc,w_ p.qd,u_ tk]] [cw sy [p_ c.sb,p_ bl,p_ r.bt,p_ s.bs,u_ clk,i_ no] 114,fF c d,cw bl [u_ k1,u_ k2,u_ k3,i_ t,u_ un] 146,fh s cv rv,gj r,fA W] (fun((x,clk',d',un',q1',q2',q3',cv',rv',r',evs',A',c'):Rs×Int×Sd×Int×Int×Int×Int×(List<|Int×SL)×(List<|Int×SR)×Ru×(List Ev)×(Option Addr)×Nat)=>(.tuple #[.agg (gV x).toArray,vS A' evs' c'])) (fun(x,clk',d',un',q1',q2',q3',cv',rv',r',evs',A',c')=>pR c t kd zl rl p tk no d un clk r.rl x evs' d' un' clk' r'.rl∧gi (n+1) cv'∧lG r'.rl) fun(x,clk',d',un',q1',q2',q3',cv',rv',r',evs',A',c')=>[cw sy [p_ c.sb,p_ bl,p_ r'.bt,p_ s.bs,u_ clk',i_<|no+1] 114,fF c d',cw bl [u_ q1',u_ q2',u_ q3',i_ t,u_ un'] 146,fh s cv' rv',gj r',fA W,eV A' evs' c']:=by
 intro w hs
 refine A.C Tryz.func32 rfl hs (A.c<|A.n2 [.al,.al,.p] [1] (fun b1 b2=>[(3,p_ b1),(4,p_ b2)]) (fun b1 b2=>[cw b1 [i_ kd,vS za zl zc,vS ra rl rc,u_ p.qi,i_ p.qn,w_ p.qa,w_ p.qb,w_ p.qc,w_ p.qd,u_ tk] 47,cw b2 [i_ 0,i_ 0,i_ 0] 49]) ?_)
 intro b1 b2
 refine A.d<|A.c<|A.g [.p,.p] [] [(15,b_ false)]<|A.cf<|A.p<|A.c<|A.n1 [.al] [15] (fun b3=>[(6,p_ b3)]) (fun b3=>cw b3 [e_] 30) ?_
 intro b3
 refine A.c<|A.g1 [.p,.p,.p,.ld 0,.al,.st 9] [] (fun b4=>[(7,p_ b4)]) (fun b4=>[]) (fun b4=>cw b4 [i_ no] 3) (fun b4=>[sy,b4]) ?_
 intro b4
 refine A.c<|A.g [.p,.p] [7] [(8,.func (.func 45) #[] #[p_ b4,p_ b3])]<|A.c<|A.ks [.p,.p,.p,.ld 0,.w<|no+1,.p,.p,.st 0] [] [] [(0,cw sy [p_ c.sb,p_ bl,p_ r.bt,p_ s.bs,u_ clk,i_<|no+1] 114)] [sy,sy] (o1<|wj (no+1)<|by omega)<|A.c<|A.g1 [.p,.al,.st 10] [] (fun b5=>[(9,p_ b5)]) (fun b5=>[]) (fun b5=>cw b5 [i_ 1,i_ 0,i_ 0] 49) (fun b5=>[b5]) ?_
 intro b5
 refine A.d<|A.c<|A.gl [.p,.ld 6] [] [(31,i_ kd)] [b1]<|A.y<|A.c<|A.g [.p,.p] [] [(32,b_<|kd==1)]<|A.cn (kd==1) (fun e1=>?_)<|fun e1=>?_
 ·have p1:=e1;try simp only[dc] at p1
  refine A.d<|A.O [15] 21<|A.kd 6 [.p,.p,.p,.ld 0,.p,.p,.p,.ld 0,.p,.p,.p,.ld 0,.cq<|b_<|decide (clk≥un),.p,.ld 6] (rg 0 15) [0,3,8,31,32] [(38,p_ c.sb),(47,b_<|decide (clk≥un)),(49,vS za zl zc)] [sy,sy,sy,b1] (o1<|qo<|fun w s=>Ao bl k1 k2 k3 t un clk w<|s.mem (i:=2) rfl)<|A.F 15 rfl (A.I (some 50) [1,4] (fun w s h=>M6 c d W (decide (clk≥un)) za zl zc (hW.pre _ hI) ‹_› ‹_› w h) ?_)
  rintro⟨pl6,er7,d'8⟩ hz2
  refine A.E<|A.dT 0 (ps 5) (rg 16 5) [38,47,49,50] [(10,i_ pl6),(11,i_ er7)] []<|A.M<|A.s<|A.gs [.p,.p,.p,.st 10] [10,11] [] [(10,cw b5 [i_ er7,i_ pl6,i_ 0] 49)] [b5]<|(A.d<|A.d3 [2] 4 [fF c d'8,fA W,cw sy [p_ c.sb,p_ bl,p_ r.bt,p_ s.bs,u_ clk,i_<|no+1] 114,cw bl [u_ k1,u_ k2,u_ k3,i_ t,u_ un] 146,fh s cv rv,gj r,cw b1 [i_ kd,vS za zl zc,vS ra rl rc,u_ p.qi,i_ p.qn,w_ p.qa,w_ p.qb,w_ p.qc,w_ p.qd,u_ tk] 47,cw b3 [e_] 30,cw b4 [i_ no] 3,cw b5 [i_ er7,i_ pl6,i_ 0] 49]<|A.bT 2 [.ld 9,.ld 7] [0,1] [(4,p_ b2),(86,.agg #[i_ er7,i_ pl6,i_ 0]),(87,e_)] [b5,b3] (sd [7])<|A.o3 2 rfl (A.ai 7 (vs:=[i_ er7,i_ pl6,i_ 0]) [fF c d'8,fA W,cw sy [p_ c.sb,p_ bl,p_ r.bt,p_ s.bs,u_ clk,i_<|no+1] 114,cw bl [u_ k1,u_ k2,u_ k3,i_ t,u_ un] 146,fh s cv rv,gj r,cw b1 [i_ kd,vS za zl zc,vS ra rl rc,u_ p.qi,i_ p.qn,w_ p.qa,w_ p.qb,w_ p.qc,w_ p.qd,u_ tk] 47,cw b2 [i_ er7,i_ pl6,i_ 0] 49,cw b3 [e_] 30,cw b4 [i_ no] 3,cw b5 [i_ er7,i_ pl6,i_ 0] 49] (by kernel_rfl) rfl rfl rfl rfl (by kernel_rfl) rfl rfl (by kernel_rfl) rfl (A.aF (sd [7])<|A.bT 0 [.p] [3] [(4,p_ b2),(5,e_)] [] (sd [7])<|A.f3<|A.e<|A.aM 52 12 [fF c d'8,fA W,cw sy [p_ c.sb,p_ bl,p_ r.bt,p_ s.bs,u_ clk,i_<|no+1] 114,cw bl [u_ k1,u_ k2,u_ k3,i_ t,u_ un] 146,fh s cv rv,gj r,cw b1 [i_ kd,vS za zl zc,vS ra rl rc,u_ p.qi,i_ p.qn,w_ p.qa,w_ p.qb,w_ p.qc,w_ p.qd,u_ tk] 47,cw b2 [i_ er7,i_ pl6,i_ 0] 49,cw b3 [e_] 30,cw b4 [i_ no] 3,cw b5 [i_ er7,i_ pl6,i_ 0] 49,eV none ([]:List Ev) 0] rfl (A.aG [2,0,1,1,1,0,5] [.agg #[i_ er7,i_ pl6,i_ 0],e_] (fun _ w r s=>⟨iF 7 r s,fk r rfl,trivial⟩) ((⟨er7,pl6,0⟩:Rs),clk,d'8,un,k1,k2,k3,cv,rv,r,([]:List Ev),none,0) ?_ ?_<|by kernel_rfl))))
  ·rfl
  exact⟨.inl ⟨by omega,⟨_,_,by assumption,rfl⟩,rfl,rfl,rfl,rfl⟩,qt hst<|by omega,hr⟩
 have p1:=e1;try simp only[dc] at p1
 refine A.c<|A.g [.p,.p] [32] [(56,b_<|kd==2)]<|A.cn (kd==2) (fun e3=>?_)<|fun e3=>?_
 ·have p3:=e3;try simp only[dc] at p3
  refine A.d ?_
  by_cases hru:lG rl
  ·refine A.s<|A.gm [.p,.ld 6] [3,8,31,56] [(60,vS ra rl rc)] [b1]<|A.j<|A.I (some 61) [] (fun w s h=>Ip ra rl rc ‹_› w ((sJ (i:=5) rfl hra) w s) h) ?_
   rintro r10 hz4
   refine A.g (ps 5) [60,61] [(12,p_ r10.bt),(13,i_ 0)]<|A.d<|A.c<|A.g [.p,.p] [] [(65,b_ true)]<|A.ct<|A.s<|A.gs [.p,.p,.p,.p,.st 1] [0,12,65] [] [(1,cw sy [p_ c.sb,p_ bl,p_ r10.bt,p_ s.bs,u_ clk,i_<|no+1] 114)] [sy]<|A.s<|A.gs [.p,.p,.st 11] [13] [] [(11,cw b5 [i_ 0,i_ 0,i_ 0] 49)] [b5]<|(A.d<|A.d3 [2] 4 [gj r10,cw sy [p_ c.sb,p_ bl,p_ r10.bt,p_ s.bs,u_ clk,i_<|no+1] 114,fF c d,cw bl [u_ k1,u_ k2,u_ k3,i_ t,u_ un] 146,fh s cv rv,gj r,fA W,cw b1 [i_ kd,vS za zl zc,vS ra rl rc,u_ p.qi,i_ p.qn,w_ p.qa,w_ p.qb,w_ p.qc,w_ p.qd,u_ tk] 47,cw b2 [i_ 0,i_ 0,i_ 0] 49,cw b3 [e_] 30,cw b4 [i_ no] 3,cw b5 [i_ 0,i_ 0,i_ 0] 49]<|A.bT 2 [.ld 11,.ld 9] [0,1] [(4,p_ b2),(86,.agg #[i_ 0,i_ 0,i_ 0]),(87,e_)] [b5,b3] (.refl _)<|A.o3 2 rfl (A.ai 8 (vs:=[i_ 0,i_ 0,i_ 0]) [gj r10,cw sy [p_ c.sb,p_ bl,p_ r10.bt,p_ s.bs,u_ clk,i_<|no+1] 114,fF c d,cw bl [u_ k1,u_ k2,u_ k3,i_ t,u_ un] 146,fh s cv rv,gj r,fA W,cw b1 [i_ kd,vS za zl zc,vS ra rl rc,u_ p.qi,i_ p.qn,w_ p.qa,w_ p.qb,w_ p.qc,w_ p.qd,u_ tk] 47,cw b2 [i_ 0,i_ 0,i_ 0] 49,cw b3 [e_] 30,cw b4 [i_ no] 3,cw b5 [i_ 0,i_ 0,i_ 0] 49] (by kernel_rfl) rfl rfl rfl rfl (by kernel_rfl) rfl rfl (by kernel_rfl) rfl (A.aF (.refl _)<|A.bT 0 [.p] [3] [(4,p_ b2),(5,e_)] [] (.refl _)<|A.f3<|A.e<|A.aM 52 12 [gj r10,cw sy [p_ c.sb,p_ bl,p_ r10.bt,p_ s.bs,u_ clk,i_<|no+1] 114,fF c d,cw bl [u_ k1,u_ k2,u_ k3,i_ t,u_ un] 146,fh s cv rv,gj r,fA W,cw b1 [i_ kd,vS za zl zc,vS ra rl rc,u_ p.qi,i_ p.qn,w_ p.qa,w_ p.qb,w_ p.qc,w_ p.qd,u_ tk] 47,cw b2 [i_ 0,i_ 0,i_ 0] 49,cw b3 [e_] 30,cw b4 [i_ no] 3,cw b5 [i_ 0,i_ 0,i_ 0] 49,eV none ([]:List Ev) 0] rfl (A.aG [1,1,1,1,0,1,6] [.agg #[i_ 0,i_ 0,i_ 0],e_] (fun _ w r s=>⟨iF 8 r s,fk r rfl,trivial⟩) ((⟨0,0,0⟩:Rs),clk,d,un,k1,k2,k3,cv,rv,r10,([]:List Ev),none,0) ?_ ?_<|by kernel_rfl))))
   ·rfl
   exact⟨.inr<|.inl ⟨by omega,rfl,rfl,rfl,rfl,.inl ⟨by assumption,by assumption,rfl⟩⟩,qt hst<|by omega,by(simp_all;done)⟩
  refine A.s<|A.k [.p,.ld 6,.cq<|.tuple #[n_,i_<|jq rl],.p,.p,.p,.p,.p] [3,8,31,56] [(12,n_),(13,i_<|jq rl)] [b1] (o1<|qo<|fun w s=>TB ra rl rc ‹_› ‹_› w ((sJ (i:=5) rfl hra) w s))<|A.d<|A.c<|A.g [.p,.p] [] [(65,b_<|(jq rl)==0)]<|A.v rfl (fun e5=>?_) (fun e5=>?_)
  ·exact absurd e5<|by(intro h_;simp at h_;exact TA _ h_)
  have p5:=e5;try simp only[dc] at p5
  refine A.p<|A.s<|A.gs [.p,.p,.st 10] [0,12,13,65] [] [(10,cw b5 [i_<|jq rl,i_ 0,i_ 0] 49)] [b5]<|(A.d<|A.d3 [2] 4 [cw sy [p_ c.sb,p_ bl,p_ r.bt,p_ s.bs,u_ clk,i_<|no+1] 114,fF c d,cw bl [u_ k1,u_ k2,u_ k3,i_ t,u_ un] 146,fh s cv rv,gj r,fA W,cw b1 [i_ kd,vS za zl zc,vS ra rl rc,u_ p.qi,i_ p.qn,w_ p.qa,w_ p.qb,w_ p.qc,w_ p.qd,u_ tk] 47,cw b3 [e_] 30,cw b4 [i_ no] 3,cw b5 [i_<|jq rl,i_ 0,i_ 0] 49]<|A.bT 2 [.ld 9,.ld 7] [0,1] [(4,p_ b2),(86,.agg #[i_<|jq rl,i_ 0,i_ 0]),(87,e_)] [b5,b3] (sd [7])<|A.o3 2 rfl (A.ai 7 (vs:=[i_<|jq rl,i_ 0,i_ 0]) [cw sy [p_ c.sb,p_ bl,p_ r.bt,p_ s.bs,u_ clk,i_<|no+1] 114,fF c d,cw bl [u_ k1,u_ k2,u_ k3,i_ t,u_ un] 146,fh s cv rv,gj r,fA W,cw b1 [i_ kd,vS za zl zc,vS ra rl rc,u_ p.qi,i_ p.qn,w_ p.qa,w_ p.qb,w_ p.qc,w_ p.qd,u_ tk] 47,cw b2 [i_<|jq rl,i_ 0,i_ 0] 49,cw b3 [e_] 30,cw b4 [i_ no] 3,cw b5 [i_<|jq rl,i_ 0,i_ 0] 49] (by kernel_rfl) rfl rfl rfl rfl (by kernel_rfl) rfl rfl (by kernel_rfl) rfl (A.aF (sd [7])<|A.bT 0 [.p] [3] [(4,p_ b2),(5,e_)] [] (sd [7])<|A.f3<|A.e<|A.aM 52 12 [cw sy [p_ c.sb,p_ bl,p_ r.bt,p_ s.bs,u_ clk,i_<|no+1] 114,fF c d,cw bl [u_ k1,u_ k2,u_ k3,i_ t,u_ un] 146,fh s cv rv,gj r,fA W,cw b1 [i_ kd,vS za zl zc,vS ra rl rc,u_ p.qi,i_ p.qn,w_ p.qa,w_ p.qb,w_ p.qc,w_ p.qd,u_ tk] 47,cw b2 [i_<|jq rl,i_ 0,i_ 0] 49,cw b3 [e_] 30,cw b4 [i_ no] 3,cw b5 [i_<|jq rl,i_ 0,i_ 0] 49,eV none ([]:List Ev) 0] rfl (A.aG [0,0,0,0,0,0,5] [.agg #[i_<|jq rl,i_ 0,i_ 0],e_] (fun _ w r s=>⟨iF 7 r s,fk r rfl,trivial⟩) ((⟨jq rl,0,0⟩:Rs),clk,d,un,k1,k2,k3,cv,rv,r,([]:List Ev),none,0) ?_ ?_<|by kernel_rfl))))
  ·rfl
  exact⟨.inr<|.inl ⟨by omega,rfl,rfl,rfl,rfl,.inr ⟨by assumption,rfl,rfl⟩⟩,qt hst<|by omega,hr⟩
 have p3:=e3;try simp only[dc] at p3
 refine A.c<|A.g [.p,.p] [56] [(72,b_<|kd==3)]<|A.cn (kd==3) (fun e6=>?_)<|fun e6=>?_
 ·have p6:=e6;try simp only[dc] at p6
  refine A.s<|A.gm [.p,.p,.ld 6,.p] [0,3,8,31,72] [(74,p_ sy),(76,.agg (gn p).toArray),(77,.func (.func 45) #[] #[p_ b4,p_ b3])] [b1]<|A.aM 52 12 [cw sy [p_ c.sb,p_ bl,p_ r.bt,p_ s.bs,u_ clk,i_<|no+1] 114,fF c d,cw bl [u_ k1,u_ k2,u_ k3,i_ t,u_ un] 146,fh s cv rv,gj r,fA W,cw b1 [i_ kd,vS za zl zc,vS ra rl rc,u_ p.qi,i_ p.qn,w_ p.qa,w_ p.qb,w_ p.qc,w_ p.qd,u_ tk] 47,cw b2 [i_ 0,i_ 0,i_ 0] 49,cw b3 [e_] 30,cw b4 [i_ no] 3,cw b5 [i_ 1,i_ 0,i_ 0] 49,eV none ([]:List Ev) 0] rfl (A.j<|A.I (some 78) [0,0,0,0,5,4,5,0] (fun w ss h=>Nu sy c d bl k1 k2 k3 t un r s cv rv clk (no+1) b4 b3 no none ([]:List Ev) 0 p n I cnt ‹_› ‹_› ‹_› ‹_› ‹_› (by(simp;omega)) ‹_› ‹_› ‹_› ‹_› w h) ?_)
  rintro⟨x14,d'15,un'16,q1'17,q2'18,q3'19,cv'20,rv'21,evs'22,A'23,c'24⟩ hz7
  refine A.gs [.st 11] [74,76,77,78] [] [(11,cw b5 (gV x14) 49)] [b5]<|(A.d<|A.d3 [2] 4 [cw sy [p_ c.sb,p_ bl,p_ r.bt,p_ s.bs,u_ clk,i_<|no+1] 114,fF c d'15,cw bl [u_ q1'17,u_ q2'18,u_ q3'19,i_ t,u_ un'16] 146,fh s cv'20 rv'21,cw b4 [i_ no] 3,cw b3 [vS A'23 evs'22 c'24] 30,eV A'23 evs'22 c'24,gj r,fA W,cw b1 [i_ kd,vS za zl zc,vS ra rl rc,u_ p.qi,i_ p.qn,w_ p.qa,w_ p.qb,w_ p.qc,w_ p.qd,u_ tk] 47,cw b5 (gV x14) 49]<|A.bT 2 [.ld 10,.ld 5] [0,1] [(4,p_ b2),(86,.agg (gV x14).toArray),(87,vS A'23 evs'22 c'24)] [b5,b3] (sd [10])<|A.o3 2 rfl (A.ai 10 (vs:=(gV x14)) [cw sy [p_ c.sb,p_ bl,p_ r.bt,p_ s.bs,u_ clk,i_<|no+1] 114,fF c d'15,cw bl [u_ q1'17,u_ q2'18,u_ q3'19,i_ t,u_ un'16] 146,fh s cv'20 rv'21,cw b4 [i_ no] 3,cw b3 [vS A'23 evs'22 c'24] 30,eV A'23 evs'22 c'24,gj r,fA W,cw b1 [i_ kd,vS za zl zc,vS ra rl rc,u_ p.qi,i_ p.qn,w_ p.qa,w_ p.qb,w_ p.qc,w_ p.qd,u_ tk] 47,cw b2 (gV x14) 49,cw b5 (gV x14) 49] (by kernel_rfl) rfl rfl rfl rfl (by kernel_rfl) rfl rfl (by kernel_rfl) rfl (A.aF (sd [10])<|A.bT 0 [.p] [3] [(4,p_ b2),(5,vS A'23 evs'22 c'24)] [] (sd [10])<|A.f3<|A.e<|A.aG [0,0,0,0,3,3,2] [.agg (gV x14).toArray,vS A'23 evs'22 c'24] (fun _ w r s=>⟨iF 10 r s,fk r rfl,trivial⟩) (x14,clk,d'15,un'16,q1'17,q2'18,q3'19,cv'20,rv'21,r,evs'22,A'23,c'24) ?_ ?_<|by kernel_rfl)))
  ·rfl
  exact⟨.inr<|.inr<|.inl ⟨by omega,rfl,rfl,(by assumption:_∧gi _ _).1⟩,(by assumption:_∧gi _ _).2,hr⟩
 have p6:=e6;try simp only[dc] at p6
 refine A.c<|A.g [.p,.p] [31,72] [(79,b_<|kd==4)]<|A.cn (kd==4) (fun e8=>?_)<|fun e8=>?_
 ·have p8:=e8;try simp only[dc] at p8
  refine A.s<|A.gm [.p,.p,.ld 6,.p] [0,3,8,79] [(81,p_ sy),(83,u_ tk),(84,.func (.func 45) #[] #[p_ b4,p_ b3])] [b1]<|A.aM 52 12 [cw sy [p_ c.sb,p_ bl,p_ r.bt,p_ s.bs,u_ clk,i_<|no+1] 114,fF c d,cw bl [u_ k1,u_ k2,u_ k3,i_ t,u_ un] 146,fh s cv rv,gj r,fA W,cw b1 [i_ kd,vS za zl zc,vS ra rl rc,u_ p.qi,i_ p.qn,w_ p.qa,w_ p.qb,w_ p.qc,w_ p.qd,u_ tk] 47,cw b2 [i_ 0,i_ 0,i_ 0] 49,cw b3 [e_] 30,cw b4 [i_ no] 3,cw b5 [i_ 1,i_ 0,i_ 0] 49,eV none ([]:List Ev) 0] rfl (A.j<|A.I (some 85) [0,0,0,0,5,4,5] (fun w ss h=>U8 sy c d bl k1 k2 k3 t un r s cv rv clk (no+1) b4 b3 no none ([]:List Ev) 0 tk n I cnt ‹_› ‹_› ‹_› ‹_› ‹_› (by(simp;omega)) ‹_› ‹_› ‹_› w h) ?_)
  rintro⟨x27,clk'28,d'29,un'30,q1'31,q2'32,q3'33,cv'34,rv'35,evs'36,A'37,c'38⟩ hz9
  refine A.gs [.st 11] [81,83,84,85] [] [(11,cw b5 (gV x27) 49)] [b5]<|(A.d<|A.d3 [2] 4 [cw sy [p_ c.sb,p_ bl,p_ r.bt,p_ s.bs,u_ clk'28,i_<|no+1] 114,fF c d'29,cw bl [u_ q1'31,u_ q2'32,u_ q3'33,i_ t,u_ un'30] 146,fh s cv'34 rv'35,cw b4 [i_ no] 3,cw b3 [vS A'37 evs'36 c'38] 30,eV A'37 evs'36 c'38,gj r,fA W,cw b1 [i_ kd,vS za zl zc,vS ra rl rc,u_ p.qi,i_ p.qn,w_ p.qa,w_ p.qb,w_ p.qc,w_ p.qd,u_ tk] 47,cw b5 (gV x27) 49]<|A.bT 2 [.ld 10,.ld 5] [0,1] [(4,p_ b2),(86,.agg (gV x27).toArray),(87,vS A'37 evs'36 c'38)] [b5,b3] (sd [10])<|A.o3 2 rfl (A.ai 10 (vs:=(gV x27)) [cw sy [p_ c.sb,p_ bl,p_ r.bt,p_ s.bs,u_ clk'28,i_<|no+1] 114,fF c d'29,cw bl [u_ q1'31,u_ q2'32,u_ q3'33,i_ t,u_ un'30] 146,fh s cv'34 rv'35,cw b4 [i_ no] 3,cw b3 [vS A'37 evs'36 c'38] 30,eV A'37 evs'36 c'38,gj r,fA W,cw b1 [i_ kd,vS za zl zc,vS ra rl rc,u_ p.qi,i_ p.qn,w_ p.qa,w_ p.qb,w_ p.qc,w_ p.qd,u_ tk] 47,cw b2 (gV x27) 49,cw b5 (gV x27) 49] (by kernel_rfl) rfl rfl rfl rfl (by kernel_rfl) rfl rfl (by kernel_rfl) rfl (A.aF (sd [10])<|A.bT 0 [.p] [3] [(4,p_ b2),(5,vS A'37 evs'36 c'38)] [] (sd [10])<|A.f3<|A.e<|A.aG [0,0,0,0,3,3,2] [.agg (gV x27).toArray,vS A'37 evs'36 c'38] (fun _ w r s=>⟨iF 10 r s,fk r rfl,trivial⟩) (x27,clk'28,d'29,un'30,q1'31,q2'32,q3'33,cv'34,rv'35,r,evs'36,A'37,c'38) ?_ ?_<|by kernel_rfl)))
  ·rfl
  exact⟨.inr<|.inr<|.inr<|.inl ⟨by omega,rfl,(by assumption:_∧gi _ _).1⟩,qt (by assumption:_∧gi _ _).2 (by omega),hr⟩
 have p8:=e8;try simp only[dc] at p8
 refine A.p<|A.d<|A.d3 [2] 4 [cw sy [p_ c.sb,p_ bl,p_ r.bt,p_ s.bs,u_ clk,i_<|no+1] 114,fF c d,cw bl [u_ k1,u_ k2,u_ k3,i_ t,u_ un] 146,fh s cv rv,gj r,fA W,cw b1 [i_ kd,vS za zl zc,vS ra rl rc,u_ p.qi,i_ p.qn,w_ p.qa,w_ p.qb,w_ p.qc,w_ p.qd,u_ tk] 47,cw b3 [e_] 30,cw b4 [i_ no] 3,cw b5 [i_ 1,i_ 0,i_ 0] 49]<|A.bT 2 [.ld 9,.ld 7] [0,1] [(4,p_ b2),(86,.agg #[i_ 1,i_ 0,i_ 0]),(87,e_)] [b5,b3] (sd [7])<|A.o3 2 rfl (A.ai 7 (vs:=[i_ 1,i_ 0,i_ 0]) [cw sy [p_ c.sb,p_ bl,p_ r.bt,p_ s.bs,u_ clk,i_<|no+1] 114,fF c d,cw bl [u_ k1,u_ k2,u_ k3,i_ t,u_ un] 146,fh s cv rv,gj r,fA W,cw b1 [i_ kd,vS za zl zc,vS ra rl rc,u_ p.qi,i_ p.qn,w_ p.qa,w_ p.qb,w_ p.qc,w_ p.qd,u_ tk] 47,cw b2 [i_ 1,i_ 0,i_ 0] 49,cw b3 [e_] 30,cw b4 [i_ no] 3,cw b5 [i_ 1,i_ 0,i_ 0] 49] (by kernel_rfl) rfl rfl rfl rfl (by kernel_rfl) rfl rfl (by kernel_rfl) rfl (A.aF (sd [7])<|A.bT 0 [.p] [3] [(4,p_ b2),(5,e_)] [] (sd [7])<|A.f3<|A.e<|A.aM 52 12 [cw sy [p_ c.sb,p_ bl,p_ r.bt,p_ s.bs,u_ clk,i_<|no+1] 114,fF c d,cw bl [u_ k1,u_ k2,u_ k3,i_ t,u_ un] 146,fh s cv rv,gj r,fA W,cw b1 [i_ kd,vS za zl zc,vS ra rl rc,u_ p.qi,i_ p.qn,w_ p.qa,w_ p.qb,w_ p.qc,w_ p.qd,u_ tk] 47,cw b2 [i_ 1,i_ 0,i_ 0] 49,cw b3 [e_] 30,cw b4 [i_ no] 3,cw b5 [i_ 1,i_ 0,i_ 0] 49,eV none ([]:List Ev) 0] rfl (A.aG [0,0,0,0,0,0,5] [.agg #[i_ 1,i_ 0,i_ 0],e_] (fun _ w r s=>⟨iF 7 r s,fk r rfl,trivial⟩) ((⟨1,0,0⟩:Rs),clk,d,un,k1,k2,k3,cv,rv,r,([]:List Ev),none,0) ?_ ?_<|by kernel_rfl)))
 ·rfl
 exact⟨.inr<|.inr<|.inr<|.inr ⟨by omega,rfl,rfl,rfl,rfl,rfl,rfl⟩,qt hst<|by omega,hr⟩
end Go.Proofs.YtobgjpigngoggaaGreat
namespace Go.Proofs.YtobgjpigngoggaaGreat.V
open Go
section
variable{P:Program}{n:Nat}{env:dM}{w0:World}{S:List Nat}{H Hs:List dB}{ops:Array Oper}{o:Oper}{K:Act→World→Prop}{f:Nat}{listed:Array Bool}
def ParH(P:Program)(n:Nat)(env:dM)(w0:World)(S:List Nat)(H Hs:List dB)(ops:Array Oper)(K:Act→World→Prop)(f:Nat)(listed:Array Bool):List Nat→Prop
 |[]=>True
 |i::l=>(∃o,ops[i]? =some o∧A n env w0 S H (eG P ops o<|fun a w=>HS w0 S Hs w∧U P ops K (HS w0 S Hs) f (listed.setIfInBounds i true) a w))∧ParH P n env w0 S H Hs ops K f listed l
theorem ParH.at: ∀{l:List Nat}{i:Nat},ParH P n env w0 S H Hs ops K f listed l→i∈l→ ∃o,ops[i]? =some o∧A n env w0 S H (eG P ops o<|fun a w=>HS w0 S Hs w∧U P ops K (HS w0 S Hs) f (listed.setIfInBounds i true) a w)
 |j::l,i,h,hi=>by
  rcases List.mem_cons.1 hi with rfl|hi
  ·exact h.1
  ·exact ParH.at h.2 hi
theorem A.aS(is:List Nat)(hr:(Region.ready .any ops listed,is.isEmpty)=(is,false))(h:ParH P n env w0 S H Hs ops K f listed is):A n env w0 S H (U P ops K (HS w0 S Hs) (f+1) listed):=by
 intro a w r s
 simp only[Prod.mk.injEq] at hr
 refine⟨fun h0=>(by rw[hr.1] at h0;rw[h0] at hr;cases hr.2),fun j hj w' hf=>?_⟩
 rw[hr.1] at hj
 obtain⟨o,ho,h1⟩:=h.at hj
 have h1:=h1 a w' r<|s.kept hf
 unfold eG at h1
 unfold wpOp
 simp only[ho]
 split
 ·rename_i hw;rw[if_pos hw] at h1;exact .inl h1
 ·rename_i hw;rw[if_neg hw] at h1;exact h1
theorem A.aT{σ:Type}(env':σ→dM)(H':σ→List dB)(φ:σ→Prop)(f':Nat)(l':Array Bool)(h1: ∀x,φ x→A n (env' x) w0 S (H' x) (U P ops K (HS w0 S Hs) f' l'))
 (h2:(∀x,φ x→A n (env' x) w0 S (H' x) (U P ops K (HS w0 S Hs) f' l'))→A n env w0 S H (U P ops K (HS w0 S Hs) f listed)):A n env w0 S H (U P ops K (HS w0 S Hs) f listed):=h2 h1
theorem A.aH{σ:Type}{env':σ→dM}{H':σ→List dB}{φ:σ→Prop}{f':Nat}{l':Array Bool}(hn: ∀x,φ x→A n (env' x) w0 S (H' x) (U P ops K (HS w0 S Hs) f' l'))(x:σ)(hx:φ x)(is:List Nat)(hl:listed=l')(hs:V.sub env (env' x))(hp:(match gI is H with|some x=>some x.1|none=>none)=some (H' x)):
  A n env w0 S H (U P ops K (HS w0 S Hs) f' listed):=by
 subst hl
 exact A.aQ _ hs<|A.cB is _ hp<|hn x hx
theorem A.bU{t:TypeId}{x y z:Operand}(ho:o.op= .insert t x y z)(h:A n env w0 S H (eG P ops {o with op:= .mapUpdate t x y z} K)):A n env w0 S H (eG P ops o K):=by
 intro a w r s
 have h1:=h a w r s
 have he:execOp a.eval o=execOp a.eval {o with op:= .mapUpdate t x y z}:=by simp[execOp,ho]
 unfold eG Oper.wp at*
 rw[he]
 exact h1
end
section
variable{P:Program}{n:Nat}{env:dM}{w0:World}{S:List Nat}{H H':List dB}{ops:Array Oper}{o:Oper}{K:Act→World→Prop}{β:Type}{f:β→List dB}{ek:Int→Value}{ev:β→Value}
theorem Ey: ∀(H:List dB)(x:dB),gI [H.length] (H++[x])=some ([x],H)
 |[],x=>rfl
 |y::H,x=>by
  have:=Ey H x
  simp only[gI] at this⊢
  simpa using this
theorem A.aU(f:β→List dB)(ek:Int→Value)(ev:β→Value)(d:Nat){t:TypeId}(hok:gC ops n env o (some d)=true)(ho:o.op= .makeMap t none)(H':Nat→List dB)(hH: ∀b,co [dY ek ev b [],eP f []]::H=H' b)
  (h: ∀b,V.A n ((d,.map<|some b)::env) w0 S (H' b) K):V.A n env w0 S H (eG P ops o K):=
 A.aY ek ev d hok ho (fun b=>H++[dY ek ev b []]) (fun _=>rfl) fun b=>A.cb [H.length] (Ey H _) (hH b)<|h b
end
end Go.Proofs.YtobgjpigngoggaaGreat.V
namespace Go.Proofs.YtobgjpigngoggaaGreat
open Go V
abbrev BR(p0)(p1)(p2)(p3)(p4:Vt)(p5):=(.agg #[i_ p0,i_ p1,p_ p2,.map<|some p3,n_,p_ p4.be,.map<|some p5,u_ 0,u_ 0]:Value)
abbrev qB(p0)(p1):=(ep p0 (dC ([]:List (Int×Vt)) 0 p1):V.dB)
abbrev kW(p0)(p1):=((23,.agg #[i_ p0,i_ p1]):Nat×Value)
abbrev fj(p0)(p1)(p2):=(cw p0 [i_ p1,i_ p2] 23:V.dB)
abbrev jV(p0):=(ep p0 ([]:List (Int×Vt)):V.dB)
abbrev gY(p0)(p1):=(cw p0 [.map<|some p1] 185:V.dB)
abbrev iW(p0):=(eT p0 ([]:List (Int×En)):V.dB)
abbrev ip(p0):=(fY p0 T.nil ([]:List (Int×It)):V.dB)
abbrev gZ(p0):=(dy p0 ([]:List (Int×Cl)):V.dB)
theorem Tz(lt lm:Int)(h1:1≤lt∧lt≤65536)(h2:1≤lm∧lm≤16384):
  CS 41 #[.agg #[i_ lt,i_ lm]] [] (fun((sb,bt,mc,my,a,tl,mk,v):Nat×Nat×Nat×Nat×Ac×Vt×Nat×Vt)=>(.tuple #[p_ sb,i_ 0])) (fun(sb,bt,mc,my,a,tl,mk,v)=>a.ym=fO []∧v.kv=[]∧v.t=T.nil) fun(sb,bt,mc,my,a,tl,mk,v)=>[cw sb [i_ lt,i_ lm,p_ bt,.map<|some my,p_ a.bs,p_ tl.be,.map<|some mk,u_ 0,u_ 0] 141,gY bt mc,gZ mc,iW my,fE a ([])<|[],ip tl,qB mk v]:=by
 intro w hs
 refine A.C Tryz.func41 rfl hs (A.c<|A.n1 [.al,.p,.p] [0] (fun b1=>[(1,p_ b1)]) (fun b1=>cw b1 [i_ lt,i_ lm] 23) ?_)
 intro b1
 refine A.d<|A.c<|A.gl [.p,.ld 0,.p,.p,.o,.p,.ld 0,.p,.cl,.p,.o,.p,.ld 0,.p,.cl,.p,.o,.p,.ld 0,.p,.cl] [] [(22,b_<|(((decide (lt<1))||(decide (lt>65536)))||(decide (lm<1)))||(decide (lm>16384)))] [b1,b1,b1,b1]<|A.v rfl (fun e1=>?_) (fun e1=>?_)
 ·exact absurd e1<|by(intro h_;simp at h_;omega)
 refine A.p<|A.d<|A.cV [fj b1 lt lm] (by kernel_rfl)<|A.bE 0 (some 23) (.agg #[i_ lt,i_ lm]) rfl (by kernel_rfl) (by kernel_rfl) (.refl _) (wA (vs:=[i_ lt,i_ lm]) rfl rfl (by kernel_rfl) (l0 (i:=0) rfl rfl)) (A.aT (fun((bt2,mb3,m4,tl5,m6,v7,b8):Nat×Nat×Nat×Vt×Nat×Vt×Nat)=>[(4,p_ b8)]) (fun((bt2,mb3,m4,tl5,m6,v7,b8):Nat×Nat×Nat×Vt×Nat×Vt×Nat)=>[qB m6 v7,ip tl5,iW m4,gY bt2 mb3,gZ mb3,fj b1 lt lm,cw b8 [i_ lt,i_ lm,p_ bt2,.map<|some m4,n_,p_ tl5.be,.map<|some m6,u_ 0,u_ 0] 141]) (fun((bt2,mb3,m4,tl5,m6,v7,b8):Nat×Nat×Nat×Vt×Nat×Vt×Nat)=>(v7.kv=[]∧v7.t=T.nil)∧True) 0 #[true,true,true,true,true,true,true,true,true,true,true] ?_ (fun hN0=>?_))
 ·rintro⟨bt2,mb3,m4,tl5,m6,v7,b8⟩ ⟨hpf5,-⟩
  refine A.cI (by kernel_rfl)<|A.c<|A.hp [.p,.p,.p,.p,.ld 6] [(4,p_ b8),(32,p_ b8),(36,p_ bt2)] [b8]<|A.j<|A.I (some 37) [] (fun w s h=>JO bt2 mb3 ([]:List (Int×Cl)) (by(simp;done)) w (s.mem (i:=3) rfl) (s.mem (i:=4) rfl) h) ?_
  rintro a36 hz14
  refine A.gs [.p,.p,.st 7] [32,36,37] [] [(7,cw b8 [i_ lt,i_ lm,p_ bt2,.map<|some m4,p_ a36.bs,p_ tl5.be,.map<|some m6,u_ 0,u_ 0] 141)] [b8]<|A.c<|A.g (ps 3) [4] [(2,p_ b8),(3,i_ 0)]<|A.e<|A.Y [7,4,4,3,0,1,0] [p_ b8,i_ 0] (b8,bt2,mb3,m4,a36,tl5,m6,v7) ?_ ?_
  ·rfl
  (simp_all;done)
 refine A.aT (fun((bt2,mb3,m4,tl5,m6,v7):Nat×Nat×Nat×Vt×Nat×Vt)=>[(30,BR lt lm bt2 m4 tl5 m6)]) (fun((bt2,mb3,m4,tl5,m6,v7):Nat×Nat×Nat×Vt×Nat×Vt)=>[qB m6 v7,ip tl5,iW m4,gY bt2 mb3,gZ mb3,fj b1 lt lm]) (fun((bt2,mb3,m4,tl5,m6,v7):Nat×Nat×Nat×Vt×Nat×Vt)=>(v7.kv=[]∧v7.t=T.nil)∧True) 2 #[true,true,true,true,true,true,true,true,true,false,false] ?_ (fun hN1=>?_)
 ·rintro⟨bt2,mb3,m4,tl5,m6,v7⟩ ⟨hpf5,-⟩
  refine A.aS [9] (by kernel_rfl) ⟨⟨_,rfl,?_⟩,trivial⟩
  ·refine A.cO 31 [i_ lt,i_ lm,p_ bt2,.map<|some m4,n_,p_ tl5.be,.map<|some m6,u_ 0,u_ 0] (by kernel_rfl) rfl rfl rfl (fun b37=>[qB m6 v7,ip tl5,iW m4,gY bt2 mb3,gZ mb3,fj b1 lt lm,cw b37 [i_ lt,i_ lm,p_ bt2,.map<|some m4,n_,p_ tl5.be,.map<|some m6,u_ 0,u_ 0] 141]) (fun _=>rfl) ?_
   intro b37
   refine A.aD (sd [6,4,3,2,1,0])<|A.bE 10 (some 4) (p_ b37) rfl (by kernel_rfl) (by kernel_rfl) (sd [6,4,3,2,1,0]) (La rfl rfl) ?_
   exact A.aH hN0 (bt2,mb3,m4,tl5,m6,v7,b37) ⟨hpf5,trivial⟩ [0,0,0,0,0,0,0] (by kernel_rfl) ⟨rfl,trivial⟩ rfl
 refine A.aT (fun((bt2,mb3,tl5,m6,v7):Nat×Nat×Vt×Nat×Vt)=>[(kW lt lm),(24,p_ bt2),(26,p_ tl5.be),(29,.map<|some m6)]) (fun((bt2,mb3,tl5,m6,v7):Nat×Nat×Vt×Nat×Vt)=>[qB m6 v7,ip tl5,gY bt2 mb3,gZ mb3,fj b1 lt lm]) (fun((bt2,mb3,tl5,m6,v7):Nat×Nat×Vt×Nat×Vt)=>(v7.kv=[]∧v7.t=T.nil)∧True) 4 #[true,true,false,true,true,true,true,true,false,false,false] ?_ (fun hN2=>?_)
 ·rintro⟨bt2,mb3,tl5,m6,v7⟩ ⟨hpf5,-⟩
  refine A.aS [2] (by kernel_rfl) ⟨⟨_,rfl,?_⟩,trivial⟩
  ·refine A.aU fz (fun k:Int=>i_ k) (fun m:En=>p_ m.eb) 25 (by kernel_rfl) rfl (fun m38=>[iW m38,qB m6 v7,ip tl5,gY bt2 mb3,gZ mb3,fj b1 lt lm]) (fun _=>rfl) ?_
   intro m38
   refine A.aD (sd [4,3,2,1,0])<|A.bE 8 (some 30) (BR lt lm bt2 m38 tl5 m6) rfl (by kernel_rfl) (by kernel_rfl) (sd [4,3,2,1,0]) (jv (by kernel_rfl) fun _=>by kernel_rfl) ?_
   exact A.aH hN1 (bt2,mb3,m38,tl5,m6,v7) ⟨hpf5,trivial⟩ [1,1,0,0,0,0] (by kernel_rfl) ⟨rfl,trivial⟩ rfl
 refine A.aT (fun((bt2,mb3,m4,tl5,m6,v7):Nat×Nat×Nat×Vt×Nat×Vt)=>[(kW lt lm),(24,p_ bt2),(25,.map<|some m4),(26,p_ tl5.be),(27,.map<|some m6),(28,p_ v7.be)]) (fun((bt2,mb3,m4,tl5,m6,v7):Nat×Nat×Nat×Vt×Nat×Vt)=>[pG v7,jV m6,ip tl5,iW m4,gY bt2 mb3,gZ mb3,fj b1 lt lm]) (fun((bt2,mb3,m4,tl5,m6,v7):Nat×Nat×Nat×Vt×Nat×Vt)=>(v7.kv=[]∧v7.t=T.nil)∧True) 5 #[true,true,true,true,true,true,false,false,false,false,false] ?_ (fun hN3=>?_)
 ·rintro⟨bt2,mb3,m4,tl5,m6,v7⟩ ⟨hpf5,-⟩
  refine A.aS [6] (by kernel_rfl) ⟨⟨_,rfl,?_⟩,trivial⟩
  ·refine A.bU rfl (A.bP (f:=(ew 192)) (kt:=3) (et:=136) (ek:=(fun k:Int=>i_ k)) (ev:=(fun m:Vt=>p_ m.be)) (kv:=([]:List (Int×Vt))) (k:=0) (H':=[qB m6 v7,ip tl5,iW m4,gY bt2 mb3,gZ mb3,fj b1 lt lm]) 1 0 v7 (by kernel_rfl) rfl rfl rfl rfl (by kernel_rfl) (ee<|by kernel_rfl) rfl rfl rfl (A.aD (sd [4,3,2,1,0])<|A.bE 7 (some 29) (.map<|some m6) rfl (by kernel_rfl) (by kernel_rfl) (sd [4,3,2,1,0]) (Gp rfl rfl) (A.bE 8 (some 30) (BR lt lm bt2 m4 tl5 m6) rfl (by kernel_rfl) (by kernel_rfl) (sd [4,3,2,1,0]) (jv (by kernel_rfl) fun _=>by kernel_rfl) ?_)))
   exact A.aH hN1 (bt2,mb3,m4,tl5,m6,v7) ⟨hpf5,trivial⟩ [0,0,0,0,0,0] (by kernel_rfl) ⟨rfl,trivial⟩ rfl
 refine A.aT (fun((bt2,mb3,m4,tl5,m6):Nat×Nat×Nat×Vt×Nat)=>[(kW lt lm),(24,p_ bt2),(25,.map<|some m4),(26,p_ tl5.be),(27,.map<|some m6)]) (fun((bt2,mb3,m4,tl5,m6):Nat×Nat×Nat×Vt×Nat)=>[jV m6,ip tl5,iW m4,gY bt2 mb3,gZ mb3,fj b1 lt lm]) (fun((bt2,mb3,m4,tl5,m6):Nat×Nat×Nat×Vt×Nat)=>True) 6 #[true,true,true,true,true,false,false,false,false,false,false] ?_ (fun hN4=>?_)
 ·rintro⟨bt2,mb3,m4,tl5,m6⟩-
  refine A.aS [5] (by kernel_rfl) ⟨⟨_,rfl,?_⟩,trivial⟩
  ·refine A.I (some 28) [] (fun w s h=>uu w h) ?_
   rintro v39 hz15
   refine A.aD (sd [5,4,3,2,1,0]) ?_
   exact A.aH hN3 (bt2,mb3,m4,tl5,m6,v39) ⟨hz15,trivial⟩ [0,0,0,0,0,0,0] (by kernel_rfl) ⟨rfl,rfl,rfl,rfl,rfl,rfl,trivial⟩ rfl
 refine A.aT (fun((bt2,mb3,m4,tl5,v7):Nat×Nat×Nat×Vt×Vt)=>[(kW lt lm),(24,p_ bt2),(25,.map<|some m4),(26,p_ tl5.be),(28,p_ v7.be)]) (fun((bt2,mb3,m4,tl5,v7):Nat×Nat×Nat×Vt×Vt)=>[pG v7,ip tl5,iW m4,gY bt2 mb3,gZ mb3,fj b1 lt lm]) (fun((bt2,mb3,m4,tl5,v7):Nat×Nat×Nat×Vt×Vt)=>(v7.kv=[]∧v7.t=T.nil)∧True) 6 #[true,true,true,true,false,true,false,false,false,false,false] ?_ (fun hN5=>?_)
 ·rintro⟨bt2,mb3,m4,tl5,v7⟩ ⟨hpf5,-⟩
  refine A.aS [4] (by kernel_rfl) ⟨⟨_,rfl,?_⟩,trivial⟩
  ·refine A.aU (ew 192) (fun k:Int=>i_ k) (fun m:Vt=>p_ m.be) 27 (by kernel_rfl) rfl (fun m40=>[jV m40,pG v7,ip tl5,iW m4,gY bt2 mb3,gZ mb3,fj b1 lt lm]) (fun _=>rfl) ?_
   intro m40
   refine A.aD (sd [5,4,3,2,1,0]) ?_
   exact A.aH hN3 (bt2,mb3,m4,tl5,m40,v7) ⟨hpf5,trivial⟩ [1,0,0,0,0,0,0] (by kernel_rfl) ⟨rfl,rfl,rfl,rfl,rfl,rfl,trivial⟩ rfl
 refine A.aT (fun((bt2,mb3,tl5,m6,v7):Nat×Nat×Vt×Nat×Vt)=>[(kW lt lm),(24,p_ bt2),(26,p_ tl5.be),(27,.map<|some m6),(28,p_ v7.be)]) (fun((bt2,mb3,tl5,m6,v7):Nat×Nat×Vt×Nat×Vt)=>[pG v7,jV m6,ip tl5,gY bt2 mb3,gZ mb3,fj b1 lt lm]) (fun((bt2,mb3,tl5,m6,v7):Nat×Nat×Vt×Nat×Vt)=>(v7.kv=[]∧v7.t=T.nil)∧True) 6 #[true,true,false,true,true,true,false,false,false,false,false] ?_ (fun hN6=>?_)
 ·rintro⟨bt2,mb3,tl5,m6,v7⟩ ⟨hpf5,-⟩
  refine A.aS [2,6] (by kernel_rfl) ⟨⟨_,rfl,?_⟩,⟨_,rfl,?_⟩,trivial⟩
  ·refine A.aU fz (fun k:Int=>i_ k) (fun m:En=>p_ m.eb) 25 (by kernel_rfl) rfl (fun m41=>[iW m41,pG v7,jV m6,ip tl5,gY bt2 mb3,gZ mb3,fj b1 lt lm]) (fun _=>rfl) ?_
   intro m41
   refine A.aD (sd [5,4,3,2,1,0]) ?_
   exact A.aH hN3 (bt2,mb3,m41,tl5,m6,v7) ⟨hpf5,trivial⟩ [1,1,1,0,0,0,0] (by kernel_rfl) ⟨rfl,rfl,rfl,rfl,rfl,rfl,trivial⟩ rfl
  refine A.bU rfl (A.bP (f:=(ew 192)) (kt:=3) (et:=136) (ek:=(fun k:Int=>i_ k)) (ev:=(fun m:Vt=>p_ m.be)) (kv:=([]:List (Int×Vt))) (k:=0) (H':=[qB m6 v7,ip tl5,gY bt2 mb3,gZ mb3,fj b1 lt lm]) 1 0 v7 (by kernel_rfl) rfl rfl rfl rfl (by kernel_rfl) (ee<|by kernel_rfl) rfl rfl rfl (A.aD (sd [3,2,1,0])<|A.bE 7 (some 29) (.map<|some m6) rfl (by kernel_rfl) (by kernel_rfl) (sd [3,2,1,0]) (Gp rfl rfl) ?_))
  exact A.aH hN2 (bt2,mb3,tl5,m6,v7) ⟨hpf5,trivial⟩ [0,0,0,0,0] (by kernel_rfl) ⟨rfl,rfl,rfl,rfl,trivial⟩ rfl
 refine A.aT (fun((bt2,mb3,m4,tl5):Nat×Nat×Nat×Vt)=>[(kW lt lm),(24,p_ bt2),(25,.map<|some m4),(26,p_ tl5.be)]) (fun((bt2,mb3,m4,tl5):Nat×Nat×Nat×Vt)=>[ip tl5,iW m4,gY bt2 mb3,gZ mb3,fj b1 lt lm]) (fun((bt2,mb3,m4,tl5):Nat×Nat×Nat×Vt)=>True) 7 #[true,true,true,true,false,false,false,false,false,false,false] ?_ (fun hN7=>?_)
 ·rintro⟨bt2,mb3,m4,tl5⟩-
  refine A.aS [4,5] (by kernel_rfl) ⟨⟨_,rfl,?_⟩,⟨_,rfl,?_⟩,trivial⟩
  ·refine A.aU (ew 192) (fun k:Int=>i_ k) (fun m:Vt=>p_ m.be) 27 (by kernel_rfl) rfl (fun m42=>[jV m42,ip tl5,iW m4,gY bt2 mb3,gZ mb3,fj b1 lt lm]) (fun _=>rfl) ?_
   intro m42
   refine A.aD (sd [4,3,2,1,0]) ?_
   exact A.aH hN4 (bt2,mb3,m4,tl5,m42) trivial [0,0,0,0,0,0] (by kernel_rfl) ⟨rfl,rfl,rfl,rfl,rfl,trivial⟩ rfl
  refine A.I (some 28) [] (fun w s h=>uu w h) ?_
  rintro v43 hz16
  refine A.aD (sd [4,3,2,1,0]) ?_
  exact A.aH hN5 (bt2,mb3,m4,tl5,v43) ⟨hz16,trivial⟩ [0,0,0,0,0,0] (by kernel_rfl) ⟨rfl,rfl,rfl,rfl,rfl,trivial⟩ rfl
 refine A.aT (fun((bt2,mb3,m4,m6):Nat×Nat×Nat×Nat)=>[(kW lt lm),(24,p_ bt2),(25,.map<|some m4),(27,.map<|some m6)]) (fun((bt2,mb3,m4,m6):Nat×Nat×Nat×Nat)=>[jV m6,iW m4,gY bt2 mb3,gZ mb3,fj b1 lt lm]) (fun((bt2,mb3,m4,m6):Nat×Nat×Nat×Nat)=>True) 7 #[true,true,true,false,true,false,false,false,false,false,false] ?_ (fun hN8=>?_)
 ·rintro⟨bt2,mb3,m4,m6⟩-
  refine A.aS [3] (by kernel_rfl) ⟨⟨_,rfl,?_⟩,trivial⟩
  ·refine A.I (some 26) [] (fun w s h=>yO w h) ?_
   rintro tl44-
   refine A.aD (sd [4,3,2,1,0]) ?_
   exact A.aH hN4 (bt2,mb3,m4,tl44,m6) trivial [1,0,0,0,0,0] (by kernel_rfl) ⟨rfl,rfl,rfl,rfl,rfl,trivial⟩ rfl
 refine A.aT (fun((bt2,mb3,tl5,m6):Nat×Nat×Vt×Nat)=>[(kW lt lm),(24,p_ bt2),(26,p_ tl5.be),(27,.map<|some m6)]) (fun((bt2,mb3,tl5,m6):Nat×Nat×Vt×Nat)=>[jV m6,ip tl5,gY bt2 mb3,gZ mb3,fj b1 lt lm]) (fun((bt2,mb3,tl5,m6):Nat×Nat×Vt×Nat)=>True) 7 #[true,true,false,true,true,false,false,false,false,false,false] ?_ (fun hN9=>?_)
 ·rintro⟨bt2,mb3,tl5,m6⟩-
  refine A.aS [2,5] (by kernel_rfl) ⟨⟨_,rfl,?_⟩,⟨_,rfl,?_⟩,trivial⟩
  ·refine A.aU fz (fun k:Int=>i_ k) (fun m:En=>p_ m.eb) 25 (by kernel_rfl) rfl (fun m45=>[iW m45,jV m6,ip tl5,gY bt2 mb3,gZ mb3,fj b1 lt lm]) (fun _=>rfl) ?_
   intro m45
   refine A.aD (sd [4,3,2,1,0]) ?_
   exact A.aH hN4 (bt2,mb3,m45,tl5,m6) trivial [1,1,0,0,0,0] (by kernel_rfl) ⟨rfl,rfl,rfl,rfl,rfl,trivial⟩ rfl
  refine A.I (some 28) [] (fun w s h=>uu w h) ?_
  rintro v46 hz18
  refine A.aD (sd [4,3,2,1,0]) ?_
  exact A.aH hN6 (bt2,mb3,tl5,m6,v46) ⟨hz18,trivial⟩ [0,0,0,0,0,0] (by kernel_rfl) ⟨rfl,rfl,rfl,rfl,rfl,trivial⟩ rfl
 refine A.aT (fun((bt2,mb3,tl5,v7):Nat×Nat×Vt×Vt)=>[(kW lt lm),(24,p_ bt2),(26,p_ tl5.be),(28,p_ v7.be)]) (fun((bt2,mb3,tl5,v7):Nat×Nat×Vt×Vt)=>[pG v7,ip tl5,gY bt2 mb3,gZ mb3,fj b1 lt lm]) (fun((bt2,mb3,tl5,v7):Nat×Nat×Vt×Vt)=>(v7.kv=[]∧v7.t=T.nil)∧True) 7 #[true,true,false,true,false,true,false,false,false,false,false] ?_ (fun hN10=>?_)
 ·rintro⟨bt2,mb3,tl5,v7⟩ ⟨hpf5,-⟩
  refine A.aS [2,4] (by kernel_rfl) ⟨⟨_,rfl,?_⟩,⟨_,rfl,?_⟩,trivial⟩
  ·refine A.aU fz (fun k:Int=>i_ k) (fun m:En=>p_ m.eb) 25 (by kernel_rfl) rfl (fun m47=>[iW m47,pG v7,ip tl5,gY bt2 mb3,gZ mb3,fj b1 lt lm]) (fun _=>rfl) ?_
   intro m47
   refine A.aD (sd [4,3,2,1,0]) ?_
   exact A.aH hN5 (bt2,mb3,m47,tl5,v7) ⟨hpf5,trivial⟩ [1,1,0,0,0,0] (by kernel_rfl) ⟨rfl,rfl,rfl,rfl,rfl,trivial⟩ rfl
  refine A.aU (ew 192) (fun k:Int=>i_ k) (fun m:Vt=>p_ m.be) 27 (by kernel_rfl) rfl (fun m48=>[jV m48,pG v7,ip tl5,gY bt2 mb3,gZ mb3,fj b1 lt lm]) (fun _=>rfl) ?_
  intro m48
  refine A.aD (sd [4,3,2,1,0]) ?_
  exact A.aH hN6 (bt2,mb3,tl5,m48,v7) ⟨hpf5,trivial⟩ [1,0,0,0,0,0] (by kernel_rfl) ⟨rfl,rfl,rfl,rfl,rfl,trivial⟩ rfl
 refine A.aT (fun((bt2,mb3,m4):Nat×Nat×Nat)=>[(kW lt lm),(24,p_ bt2),(25,.map<|some m4)]) (fun((bt2,mb3,m4):Nat×Nat×Nat)=>[iW m4,gY bt2 mb3,gZ mb3,fj b1 lt lm]) (fun((bt2,mb3,m4):Nat×Nat×Nat)=>True) 8 #[true,true,true,false,false,false,false,false,false,false,false] ?_ (fun hN11=>?_)
 ·rintro⟨bt2,mb3,m4⟩-
  refine A.aS [3,4] (by kernel_rfl) ⟨⟨_,rfl,?_⟩,⟨_,rfl,?_⟩,trivial⟩
  ·refine A.I (some 26) [] (fun w s h=>yO w h) ?_
   rintro tl49-
   refine A.aD (sd [3,2,1,0]) ?_
   exact A.aH hN7 (bt2,mb3,m4,tl49) trivial [0,0,0,0,0] (by kernel_rfl) ⟨rfl,rfl,rfl,rfl,trivial⟩ rfl
  refine A.aU (ew 192) (fun k:Int=>i_ k) (fun m:Vt=>p_ m.be) 27 (by kernel_rfl) rfl (fun m50=>[jV m50,iW m4,gY bt2 mb3,gZ mb3,fj b1 lt lm]) (fun _=>rfl) ?_
  intro m50
  refine A.aD (sd [3,2,1,0]) ?_
  exact A.aH hN8 (bt2,mb3,m4,m50) trivial [0,0,0,0,0] (by kernel_rfl) ⟨rfl,rfl,rfl,rfl,trivial⟩ rfl
 refine A.aT (fun((bt2,mb3,tl5):Nat×Nat×Vt)=>[(kW lt lm),(24,p_ bt2),(26,p_ tl5.be)]) (fun((bt2,mb3,tl5):Nat×Nat×Vt)=>[ip tl5,gY bt2 mb3,gZ mb3,fj b1 lt lm]) (fun((bt2,mb3,tl5):Nat×Nat×Vt)=>True) 8 #[true,true,false,true,false,false,false,false,false,false,false] ?_ (fun hN12=>?_)
 ·rintro⟨bt2,mb3,tl5⟩-
  refine A.aS [2,4,5] (by kernel_rfl) ⟨⟨_,rfl,?_⟩,⟨_,rfl,?_⟩,⟨_,rfl,?_⟩,trivial⟩
  ·refine A.aU fz (fun k:Int=>i_ k) (fun m:En=>p_ m.eb) 25 (by kernel_rfl) rfl (fun m51=>[iW m51,ip tl5,gY bt2 mb3,gZ mb3,fj b1 lt lm]) (fun _=>rfl) ?_
   intro m51
   refine A.aD (sd [3,2,1,0]) ?_
   exact A.aH hN7 (bt2,mb3,m51,tl5) trivial [1,0,0,0,0] (by kernel_rfl) ⟨rfl,rfl,rfl,rfl,trivial⟩ rfl
  ·refine A.aU (ew 192) (fun k:Int=>i_ k) (fun m:Vt=>p_ m.be) 27 (by kernel_rfl) rfl (fun m52=>[jV m52,ip tl5,gY bt2 mb3,gZ mb3,fj b1 lt lm]) (fun _=>rfl) ?_
   intro m52
   refine A.aD (sd [3,2,1,0]) ?_
   exact A.aH hN9 (bt2,mb3,tl5,m52) trivial [0,0,0,0,0] (by kernel_rfl) ⟨rfl,rfl,rfl,rfl,trivial⟩ rfl
  refine A.I (some 28) [] (fun w s h=>uu w h) ?_
  rintro v53 hz20
  refine A.aD (sd [3,2,1,0]) ?_
  exact A.aH hN10 (bt2,mb3,tl5,v53) ⟨hz20,trivial⟩ [0,0,0,0,0] (by kernel_rfl) ⟨rfl,rfl,rfl,rfl,trivial⟩ rfl
 refine A.aT (fun((bt2,mb3,m6):Nat×Nat×Nat)=>[(kW lt lm),(24,p_ bt2),(27,.map<|some m6)]) (fun((bt2,mb3,m6):Nat×Nat×Nat)=>[jV m6,gY bt2 mb3,gZ mb3,fj b1 lt lm]) (fun((bt2,mb3,m6):Nat×Nat×Nat)=>True) 8 #[true,true,false,false,true,false,false,false,false,false,false] ?_ (fun hN13=>?_)
 ·rintro⟨bt2,mb3,m6⟩-
  refine A.aS [2,3] (by kernel_rfl) ⟨⟨_,rfl,?_⟩,⟨_,rfl,?_⟩,trivial⟩
  ·refine A.aU fz (fun k:Int=>i_ k) (fun m:En=>p_ m.eb) 25 (by kernel_rfl) rfl (fun m54=>[iW m54,jV m6,gY bt2 mb3,gZ mb3,fj b1 lt lm]) (fun _=>rfl) ?_
   intro m54
   refine A.aD (sd [3,2,1,0]) ?_
   exact A.aH hN8 (bt2,mb3,m54,m6) trivial [1,0,0,0,0] (by kernel_rfl) ⟨rfl,rfl,rfl,rfl,trivial⟩ rfl
  refine A.I (some 26) [] (fun w s h=>yO w h) ?_
  rintro tl55-
  refine A.aD (sd [3,2,1,0]) ?_
  exact A.aH hN9 (bt2,mb3,tl55,m6) trivial [1,0,0,0,0] (by kernel_rfl) ⟨rfl,rfl,rfl,rfl,trivial⟩ rfl
 refine A.aT (fun((m4,m6):Nat×Nat)=>[(kW lt lm),(25,.map<|some m4),(27,.map<|some m6)]) (fun((m4,m6):Nat×Nat)=>[jV m6,iW m4,fj b1 lt lm]) (fun((m4,m6):Nat×Nat)=>True) 8 #[true,false,true,false,true,false,false,false,false,false,false] ?_ (fun hN14=>?_)
 ·rintro⟨m4,m6⟩-
  refine A.aS [1] (by kernel_rfl) ⟨⟨_,rfl,?_⟩,trivial⟩
  ·refine A.I (some 24) [] (fun w s h=>vX w h) ?_
   rintro⟨bt56,mb57⟩-
   refine A.aD (sd [3,2,1,0]) ?_
   exact A.aH hN8 (bt56,mb57,m4,m6) trivial [2,2,0,0,0] (by kernel_rfl) ⟨rfl,rfl,rfl,rfl,trivial⟩ rfl
 refine A.aT (fun((bt2,mb3):Nat×Nat)=>[(kW lt lm),(24,p_ bt2)]) (fun((bt2,mb3):Nat×Nat)=>[gY bt2 mb3,gZ mb3,fj b1 lt lm]) (fun((bt2,mb3):Nat×Nat)=>True) 9 #[true,true,false,false,false,false,false,false,false,false,false] ?_ (fun hN15=>?_)
 ·rintro⟨bt2,mb3⟩-
  refine A.aS [2,3,4] (by kernel_rfl) ⟨⟨_,rfl,?_⟩,⟨_,rfl,?_⟩,⟨_,rfl,?_⟩,trivial⟩
  ·refine A.aU fz (fun k:Int=>i_ k) (fun m:En=>p_ m.eb) 25 (by kernel_rfl) rfl (fun m58=>[iW m58,gY bt2 mb3,gZ mb3,fj b1 lt lm]) (fun _=>rfl) ?_
   intro m58
   refine A.aD (sd [2,1,0]) ?_
   exact A.aH hN11 (bt2,mb3,m58) trivial [0,0,0,0] (by kernel_rfl) ⟨rfl,rfl,rfl,trivial⟩ rfl
  ·refine A.I (some 26) [] (fun w s h=>yO w h) ?_
   rintro tl59-
   refine A.aD (sd [2,1,0]) ?_
   exact A.aH hN12 (bt2,mb3,tl59) trivial [0,0,0,0] (by kernel_rfl) ⟨rfl,rfl,rfl,trivial⟩ rfl
  refine A.aU (ew 192) (fun k:Int=>i_ k) (fun m:Vt=>p_ m.be) 27 (by kernel_rfl) rfl (fun m60=>[jV m60,gY bt2 mb3,gZ mb3,fj b1 lt lm]) (fun _=>rfl) ?_
  intro m60
  refine A.aD (sd [2,1,0]) ?_
  exact A.aH hN13 (bt2,mb3,m60) trivial [0,0,0,0] (by kernel_rfl) ⟨rfl,rfl,rfl,trivial⟩ rfl
 refine A.aT (fun(m4:Nat)=>[(kW lt lm),(25,.map<|some m4)]) (fun(m4:Nat)=>[iW m4,fj b1 lt lm]) (fun(m4:Nat)=>True) 9 #[true,false,true,false,false,false,false,false,false,false,false] ?_ (fun hN16=>?_)
 ·rintro m4-
  refine A.aS [1,4] (by kernel_rfl) ⟨⟨_,rfl,?_⟩,⟨_,rfl,?_⟩,trivial⟩
  ·refine A.I (some 24) [] (fun w s h=>vX w h) ?_
   rintro⟨bt61,mb62⟩-
   refine A.aD (sd [2,1,0]) ?_
   exact A.aH hN11 (bt61,mb62,m4) trivial [2,0,0,0] (by kernel_rfl) ⟨rfl,rfl,rfl,trivial⟩ rfl
  refine A.aU (ew 192) (fun k:Int=>i_ k) (fun m:Vt=>p_ m.be) 27 (by kernel_rfl) rfl (fun m63=>[jV m63,iW m4,fj b1 lt lm]) (fun _=>rfl) ?_
  intro m63
  refine A.aD (sd [1,0]) ?_
  exact A.aH hN14 (m4,m63) trivial [0,0,0] (by kernel_rfl) ⟨rfl,rfl,rfl,trivial⟩ rfl
 refine A.aT (fun(m6:Nat)=>[(kW lt lm),(27,.map<|some m6)]) (fun(m6:Nat)=>[jV m6,fj b1 lt lm]) (fun(m6:Nat)=>True) 9 #[true,false,false,false,true,false,false,false,false,false,false] ?_ (fun hN17=>?_)
 ·rintro m6-
  refine A.aS [1,2] (by kernel_rfl) ⟨⟨_,rfl,?_⟩,⟨_,rfl,?_⟩,trivial⟩
  ·refine A.I (some 24) [] (fun w s h=>vX w h) ?_
   rintro⟨bt64,mb65⟩-
   refine A.aD (sd [2,1,0]) ?_
   exact A.aH hN13 (bt64,mb65,m6) trivial [2,0,0,0] (by kernel_rfl) ⟨rfl,rfl,rfl,trivial⟩ rfl
  refine A.aU fz (fun k:Int=>i_ k) (fun m:En=>p_ m.eb) 25 (by kernel_rfl) rfl (fun m66=>[iW m66,jV m6,fj b1 lt lm]) (fun _=>rfl) ?_
  intro m66
  refine A.aD (sd [1,0]) ?_
  exact A.aH hN14 (m66,m6) trivial [1,0,0] (by kernel_rfl) ⟨rfl,rfl,rfl,trivial⟩ rfl
 refine A.aS [1,2,4] (by kernel_rfl) ⟨⟨_,rfl,?_⟩,⟨_,rfl,?_⟩,⟨_,rfl,?_⟩,trivial⟩
 ·refine A.I (some 24) [] (fun w s h=>vX w h) ?_
  rintro⟨bt67,mb68⟩-
  refine A.aD (sd [1,0]) ?_
  exact A.aH hN15 (bt67,mb68) trivial [0,0,0] (by kernel_rfl) ⟨rfl,rfl,trivial⟩ rfl
 ·refine A.aU fz (fun k:Int=>i_ k) (fun m:En=>p_ m.eb) 25 (by kernel_rfl) rfl (fun m69=>[iW m69,fj b1 lt lm]) (fun _=>rfl) ?_
  intro m69
  refine A.aD (sd [0]) ?_
  exact A.aH hN16 m69 trivial [0,0] (by kernel_rfl) ⟨rfl,rfl,trivial⟩ rfl
 refine A.aU (ew 192) (fun k:Int=>i_ k) (fun m:Vt=>p_ m.be) 27 (by kernel_rfl) rfl (fun m70=>[jV m70,fj b1 lt lm]) (fun _=>rfl) ?_
 intro m70
 refine A.aD (sd [0]) ?_
 exact A.aH hN17 m70 trivial [0,0] (by kernel_rfl) ⟨rfl,rfl,trivial⟩ rfl
def jT(d:Sd):Prop:=d.kc=[]∧d.kb=[]∧d.a.ym=fO []∧d.on=[]∧d.ka=[]∧d.et=T.nil∧d.ek=[]∧(∃v,d.kk=[(0,v)]∧v.kv=[]∧v.t=T.nil)∧d.ck=0∧d.ac=0
theorem Ua(lt lm:Int)(h1:1≤lt∧lt≤65536)(h2:1≤lm∧lm≤16384)(w:World)(hs:HS w (dE []) [] w):Calls Tryz.prog 41 #[.agg #[i_ lt,i_ lm]] w fun e w'=> ∃zz:Ss×Sd,e= .returned (.tuple #[p_ zz.1.sb,i_ 0])∧(zz.1.lt=lt∧zz.1.lm=lm∧jT zz.2)∧Turn [] [fF zz.1 zz.2] w w':=by
 refine(Tz lt lm h1 h2 w hs).mono ?_
 rintro e w' ⟨⟨sb,bt,mc,my,a,tl,mk,v⟩,a1,a2,a3⟩
 exact⟨(⟨sb,lt,lm,my,mk,tl⟩,⟨bt,mc,[],[],a,[],[],T.nil,[],[(0,v)],0,0⟩),a1,⟨rfl,rfl,rfl,rfl,a2.1,rfl,rfl,rfl,rfl,⟨v,rfl,a2.2⟩,rfl,rfl⟩,Turn.coR (Y:=[]) (by rw[List.append_nil];exact a3)⟩
theorem TD(w:World)(hs:HS w (dE []) [] w):Calls Tryz.prog 43 #[.slice none 0 0] w fun e w'=> ∃zz:Ru,e= .returned (.tuple #[p_ zz.bt,i_ 0])∧zz.rl=[]∧Turn [] [gj zz] w w':=
 Ip none [] 0 ⟨by simp,by simp,by simp⟩ w (fun j u h=>by cases h) hs
theorem Ub(t lm:Int)(htt:1≤t∧t≤65536)(hlm:1≤lm∧lm≤16384):
  CS 31 #[.agg #[i_ t,i_ lm]] [] (fun((sy,c,d,bl,r,s):Nat×Ss×Sd×Nat×Ru×mw)=>(.tuple #[p_ sy,i_ 0])) (fun(sy,c,d,bl,r,s)=>c.lt=t∧c.lm=lm∧jT d∧r.rl=[]) fun(sy,c,d,bl,r,s)=>[cw sy [p_ c.sb,p_ bl,p_ r.bt,p_ s.bs,u_ 0,i_ 0] 114,fF c d,cw bl [u_ 0,u_ 0,u_ 0,i_ t,u_ 0] 146,fh s ([])<|[],gj r]:=by
 intro w hs
 refine A.C Tryz.func31 rfl hs (A.c<|A.n1 [.al,.p,.p] [0] (fun b1=>[(1,p_ b1)]) (fun b1=>cw b1 [i_ t,i_ lm] 23) ?_)
 intro b1
 refine A.c<|A.gm [.ld 0] [] [(11,.agg #[i_ t,i_ lm])] [b1]<|A.j<|A.I (some 12) [] (fun w s h=>Ua t lm ‹_› ‹_› w h) ?_
 rintro⟨c2,d3⟩ hz1
 refine A.g (ps 5) [11,12] [(4,p_ c2.sb),(5,i_ 0)]<|A.d<|A.c<|A.g [.p,.p] [] [(16,b_ false)]<|A.cf<|A.p<|A.c<|A.gm [.p,.ld 1] [1,5,16] [(20,i_ t)] [b1]<|A.j<|A.I (some 21) [] (fun w s h=>RN t ‹_› w h) ?_
 rintro bl4-
 refine A.g (ps 5) [20,21] [(6,p_ bl4)]<|A.c<|A.j<|A.I (some 25) [] (fun w s h=>TD w h) ?_
 rintro r5 hz3
 refine A.g (ps 5) [25] [(8,p_ r5.bt)]<|A.c<|A.N (ps 3) [4,6,8] [(28,p_ c2.sb),(29,p_ bl4),(30,p_ r5.bt)]<|A.j<|A.I (some 31) [] (fun w s h=>U7 w h) ?_
 rintro s6-
 refine A.n1 [.p,.al,.p,.p] [28,29,30,31] (fun b7=>[(2,p_ b7),(3,i_ 0)]) (fun b7=>cw b7 [p_ c2.sb,p_ bl4,p_ r5.bt,p_ s6.bs,u_ 0,i_ 0] 114) ?_
 intro b7
 refine A.e<|A.Y [5,3,2,0,0] [p_ b7,i_ 0] (b7,c2,d3,bl4,r5,s6) ?_ ?_
 ·rfl
 exact⟨(by assumption:_∧_∧jT _).1,(by assumption:_∧_∧jT _).2.1,(by assumption:_∧_∧jT _).2.2,by assumption⟩
abbrev gy(A:Option Addr)(xs:List Rs)(c:Nat):V.dB:=sl A xs.length c 49 3<|V.dF gV xs
structure fC where
 kd:Int
 za:Option Addr
 zl:List Zc
 zc:Nat
 ra:Option Addr
 rl:List Rl
 rc:Nat
 op:Pk
 tk:Int
 deriving Inhabited
def eM(x:fC):List Value:=[i_ x.kd,.slice x.za x.zl.length x.zc,.slice x.ra x.rl.length x.rc,u_ x.op.qi,i_ x.op.qn,w_ x.op.qa,w_ x.op.qb,w_ x.op.qc,w_ x.op.qd,u_ x.tk]
theorem nR(x:fC):(eM x).length=10:=rfl
def mf(W:World)(ops:List fC):Prop:= ∀x∈ops,eo W x.za (V.dF jS x.zl)∧eo W x.ra (V.dF ft x.rl)∧(∀z∈x.zl,j0 z)∧(∀y∈x.rl,kP y)∧kO (gB x.op)∧0≤x.tk
def jn(c:Ss)(t:Int):List fC→Int→Sd→Int→Int→List Rl→List Rs→List Ev→Prop
 |[],_,_,_,_,_,rsl,evl=>rsl=[]∧evl=[]
 |o::l,no,d,un,clk,rl,rsl,evl=> ∃x evs d' un' clk' rl' rsl' evl',pR c t o.kd o.zl o.rl o.op o.tk no d un clk rl x evs d' un' clk' rl'∧jn c t l (no+1) d' un' clk' rl' rsl' evl'∧rsl=x::rsl'∧evl=evs++evl'
variable{c:Ss}{t un' clk':Int}{d d':Sd}{rl rl':List Rl}{evs:List Ev}{rsl:List Rs}
theorem Nv{ops:List fC}{k:Nat}{o:fC}{no un clk:Int}{x:Rs}{evl:List Ev}(hk:ops[k]? =some o)(h:pR c t o.kd o.zl o.rl o.op o.tk no d un clk rl x evs d' un' clk' rl')
  (hr:jn c t (ops.drop<|k+1) (no+1) d' un' clk' rl' rsl evl):jn c t (ops.drop k) no d un clk rl (x::rsl) (evs++evl):=by
 obtain⟨e1,e2⟩:=List.getElem?_eq_some_iff.1 hk
 rw[List.drop_eq_getElem_cons e1,e2];exact⟨x,evs,d',un',clk',rl',rsl,evl,h,hr,rfl,rfl⟩
variable{I:Sd→Prop}{cnt:Sd→Nat}
theorem P9(hW:ni c I cnt){oo fin:Int}(hf:fin≤4611686018427387904): ∀{clk un un':Int}{d d':Sd}{evs evs':List Ev},oL t oo fin clk d un evs d' un' evs'→I d→d.ck≤clk→clk≤fin→I d'∧evs'.length+cnt d'≤evs.length+cnt d∧d'.ck≤fin:=by
 intro clk un un' d d' evs evs' h
 induction h with
 |stop h=>intro hI h1 h2;exact⟨hI,Nat.le_refl _,by omega⟩
 |step hx hp _ ih=>
  intro hI h1 h2
  have b:=xK hx hf
  obtain⟨a1,a2,a3⟩:=uS hW hI (by omega) hp
  obtain⟨c1,c2,c3⟩:=ih a1 a3 hx
  exact⟨c1,by omega,c3⟩
variable{l:List Zc}
theorem CC(hW:ni c I cnt){kd tk no un clk:Int}{lr:List Rl}{p:Pk}{x:Rs}(hz: ∀z∈l,j0 z)(htk:0≤tk)(hI:I d)(hck:d.ck≤clk)(hc:0≤clk∧clk≤4611686018427387904)(h:pR c t kd l lr p tk no d un clk rl x evs d' un' clk' rl'):
  I d'∧d'.ck≤clk'∧(0≤clk'∧clk'≤4611686018427387904)∧evs.length+cnt d'≤cnt d+2:=by
 rcases h with⟨-,⟨er,pl,h,-⟩,-,rfl,-,rfl⟩|⟨-,rfl,-,rfl,rfl,-⟩|⟨-,rfl,-,h⟩|⟨-,-,h⟩|⟨-,-,rfl,-,rfl,-,rfl⟩
 ·obtain⟨a1,a2⟩:=hW.chg _ _ _ _ _ _ hI hz h
  exact⟨a1,by have h_:=h.2.2.1;omega,hc,by(simp;omega)⟩
 ·exact⟨hI,hck,hc,by(simp;done)⟩
 ·rcases h with⟨-,-,rfl,-,rfl⟩|⟨-,er,d1,hp,h⟩
  ·exact⟨hI,hck,hc,by(simp;done)⟩
  ·obtain⟨a1,a2⟩:=hW.put _ _ _ _ _ _ hI hck hp
   have hk:=Iu hp
   rcases h with⟨-,-,rfl,-,rfl⟩|⟨-,-,h⟩
   ·exact⟨a1,hk,hc,by(simp;omega)⟩
   ·obtain⟨b1,b2,b3⟩:=uS hW a1 hk h
    exact⟨b1,b3,hc,by simp at b2;omega⟩
 ·rcases h with⟨-,-,rfl,rfl,-,rfl⟩|⟨h1,-,rfl,h⟩
  ·exact⟨hI,hck,hc,by(simp;done)⟩
  ·obtain⟨b1,b2,b3⟩:=P9 hW (by omega) h hI hck<|by omega
   exact⟨b1,b3,by omega,by simp at b2;omega⟩
 ·exact⟨hI,hck,hc,by(simp;done)⟩
theorem U9(W:World)(t lm:Int)(al:Option Addr)(ops:List fC)(cl:Nat)(hoa:eo W al (V.dF eM ops))(hops:mf W ops)(hol:ops.length≤1000)(htt:1≤t∧t≤65536)(hlm:1≤lm∧lm≤16384)(hLaw: ∀c d,c.lt=t→c.lm=lm→jT d→ ∃(I:Sd→Prop)(cnt:Sd→Nat),ni c I cnt∧I d∧cnt d=0):
  CS 9 #[.agg #[i_ t,i_ lm,vS al ops cl]] [fA W] (fun((A',rs',a',B',ev',b'):(Option Addr)×(List Rs)×Nat×(Option Addr)×(List Ev)×Nat)=>(.tuple #[.agg #[vS A' rs' a',vS B' ev' b'],i_ 0])) (fun(A',rs',a',B',ev',b')=> ∃c d,c.lt=t∧c.lm=lm∧jT d∧jn c t ops 0 d 0 0 [] rs' ev') fun(A',rs',a',B',ev',b')=>[fA W,gy A' rs' a',eV B' ev' b']:=by
 intro w hs
 refine A.C Tryz.func9 rfl hs (A.c<|A.n2 [.al,.al,.p] [0] (fun b1 b2=>[(1,p_ b1),(2,p_ b2)]) (fun b1 b2=>[cw b1 [i_ t,i_ lm,vS al ops cl] 26,cw b2 [e_,e_] 32]) ?_)
 intro b1 b2
 refine A.c<|A.gm [.p,.ld 1] [] [(13,.agg #[i_ t,i_ lm])] [b1]<|A.j<|A.I (some 14) [] (fun w s h=>Ub t lm ‹_› ‹_› w h) ?_
 rintro⟨sy3,c4,d5,bl6,r7,s8⟩ hz1
 refine A.g (ps 5) [13,14] [(4,p_ sy3),(5,i_ 0)]<|A.d<|A.y<|A.c<|A.g (ps 3) [] [(17,b_ false)]<|A.cf<|A.c<|A.gl [.p,.ld 6,.p,.p,.p] [5,17] [(22,b_<|decide ((ops.length:Int)>1000))] [b1]<|A.v rfl (fun e2=>?_) (fun e2=>?_)
 ·exact absurd e2<|by(intro h_;simp at h_;omega)
 have p2:=of_decide_eq_false e2
 refine A.p<|A.d ?_
 obtain⟨hct,hcm,hnS,hrl0⟩:=(by assumption:_∧_∧jT _∧_)
 obtain⟨I,cnt,hW,hI0,hc0⟩:=hLaw c4 d5 hct hcm hnS
 have hck0:d5.ck=0:=hnS.2.2.2.2.2.2.2.2.1
 refine A.s<|A.n1 [.al] [22] (fun b9=>[(6,p_ b9)]) (fun b9=>cw b9 [e_,e_] 32) ?_
 intro b9
 refine A.d<|A.c<|A.gl [.p,.ld 6,.p,.p] [1] [(29,vS al ops cl),(30,c_ ops.length),(31,i_ 0)] [b1]<|A.y<|A.aM 49 3 [cw sy3 [p_ c4.sb,p_ bl6,p_ r7.bt,p_ s8.bs,u_ 0,i_ 0] 114,fF c4 d5,cw bl6 [u_ 0,u_ 0,u_ 0,i_ t,u_ 0] 146,fh s8 ([])<|[],gj r7,fA W,cw b1 [i_ t,i_ lm,vS al ops cl] 26,cw b2 [e_,e_] 32,cw b9 [e_,e_] 32,gy none ([]:List Rs) 0] rfl (A.aM 52 12 [cw sy3 [p_ c4.sb,p_ bl6,p_ r7.bt,p_ s8.bs,u_ 0,i_ 0] 114,fF c4 d5,cw bl6 [u_ 0,u_ 0,u_ 0,i_ t,u_ 0] 146,fh s8 ([])<|[],gj r7,fA W,cw b1 [i_ t,i_ lm,vS al ops cl] 26,cw b2 [e_,e_] 32,cw b9 [e_,e_] 32,gy none ([]:List Rs) 0,eV none ([]:List Ev) 0] rfl (A.lp (σ:=Nat×Int×Sd×Int×Int×Int×Int×(List<|Int×SL)×(List<|Int×SR)×Ru×(List Rs)×(Option Addr)×Nat×(List Ev)×(Option Addr)×Nat) [] (fun(k,clkk,dk,unk,j1,j2,j3,cvk,rvk,rk,rsk,Ar,ar,evk,Br,br)=>[(31,c_ k)]) [0,0,0,0,0,0,2,2,2] (fun(k,clkk,dk,unk,j1,j2,j3,cvk,rvk,rk,rsk,Ar,ar,evk,Br,br)=>[cw sy3 [p_ c4.sb,p_ bl6,p_ rk.bt,p_ s8.bs,u_ clkk,c_ k] 114,fF c4 dk,cw bl6 [u_ j1,u_ j2,u_ j3,i_ t,u_ unk] 146,fh s8 cvk rvk,gj rk,fA W,cw b9 [vS Ar rsk ar,vS Br evk br] 32,gy Ar rsk ar,eV Br evk br]) (fun(k,clkk,dk,unk,j1,j2,j3,cvk,rvk,rk,rsk,Ar,ar,evk,Br,br)=>(k≤ops.length)∧(I dk)∧(dk.ck≤clkk)∧(0≤clkk∧clkk≤4611686018427387904)∧(evk.length+cnt dk≤2*k)∧(rsk.length=k)∧(gi k cvk)∧(lG rk.rl)∧(∀r2 e2,jn c4 t (ops.drop k) (k:Int) dk unk clkk rk.rl r2 e2→jn c4 t ops 0 d5 0 0 [] (rsk++r2) (evk++e2))) (fun(k,clkk,dk,unk,j1,j2,j3,cvk,rvk,rk,rsk,Ar,ar,evk,Br,br)=>ops.length-k) (0,0,d5,0,0,0,0,[],[],r7,([]:List Rs),none,0,([]:List Ev),none,0) ⟨(by omega),hI0,(by omega),(by omega),(by(simp;omega)),(by rfl),(by(intro k_;simp[cu,dN])),(by(rw[hrl0];exact⟨by simp,by simp,by simp⟩)),(by(intro r2 e2 h;rw[hrl0] at h;exact h))⟩ ?_ ?_))
 ·exact A.J [0,0,0,0,0,0,2,2,2,0,0]
 rintro⟨k,clkk,dk,unk,j1,j2,j3,cvk,rvk,rk,rsk,Ar,ar,evk,Br,br⟩ ⟨hk,hIk,hckk,hbk,hlk,hrk,hsk,hRk,hA⟩
 refine A.c<|A.g [.p] [] [(32,b_<|decide ((k:Int)<(ops.length:Int)))]<|A.d<|A.v rfl (fun e3=>?_) (fun e3=>?_)
 ·have p3:=of_decide_eq_true e3
  refine A.p<|A.d<|A.y<|A.c<|A.kp [.ix] [32] [(33,.pointer<|some<|(dR al).add (k*10))] [] (o1<|io (k:Int)<|gW nR (by decide) (sJ (i:=5) rfl hoa)<|by omega) ?_
  obtain⟨x12,hx12⟩: ∃x,(ops)[k]? =some x:=⟨_,List.getElem?_eq_getElem<|by omega⟩
  refine A.no [.rd [i_ x12.kd,vS x12.za x12.zl x12.zc,vS x12.ra x12.rl x12.rc,u_ x12.op.qi,i_ x12.op.qn,w_ x12.op.qa,w_ x12.op.qb,w_ x12.op.qc,w_ x12.op.qd,u_ x12.tk],.al,.st 11] [33] (fun b13=>[(8,p_ b13)]) (fun b13=>[]) (fun b13=>cw b13 [i_ x12.kd,vS x12.za x12.zl x12.zc,vS x12.ra x12.rl x12.rc,u_ x12.op.qi,i_ x12.op.qn,w_ x12.op.qa,w_ x12.op.qb,w_ x12.op.qc,w_ x12.op.qd,u_ x12.tk] 47) (fun b13=>[b13]) (fun b13=>o1<|ro ((dR al).add (k*10))<|fS (vs:=[i_ x12.kd,vS x12.za x12.zl x12.zc,vS x12.ra x12.rl x12.rc,u_ x12.op.qi,i_ x12.op.qn,w_ x12.op.qa,w_ x12.op.qb,w_ x12.op.qc,w_ x12.op.qd,u_ x12.tk]) nR (sJ (i:=5) rfl hoa) hx12 (Nat.le_of_ble_eq_true rfl) rfl) ?_
  intro b13
  refine A.c<|A.gm [.p,.ld 11] [8] [(36,p_ sy3),(37,.agg #[i_ x12.kd,vS x12.za x12.zl x12.zc,vS x12.ra x12.rl x12.rc,u_ x12.op.qi,i_ x12.op.qn,w_ x12.op.qa,w_ x12.op.qb,w_ x12.op.qc,w_ x12.op.qd,u_ x12.tk])] [b13]<|A.j<|A.I (some 38) [0,0,0,0,0,0] (fun w s h=>Ur sy3 c4 dk bl6 j1 j2 j3 t unk rk s8 cvk rvk clkk (k:Int) W x12.kd x12.za x12.zl x12.zc x12.ra x12.rl x12.rc x12.op x12.tk k I cnt ((hops _<|List.mem_of_getElem? ‹_›).1) ((hops _<|List.mem_of_getElem? ‹_›).2.1) ((hops _<|List.mem_of_getElem? ‹_›).2.2.1) ((hops _<|List.mem_of_getElem? ‹_›).2.2.2.1) ((hops _<|List.mem_of_getElem? ‹_›).2.2.2.2.1) ((hops _<|List.mem_of_getElem? ‹_›).2.2.2.2.2) (by omega) ‹_› ‹_› ‹_› ‹_› ‹_› ‹_› ‹_› (by omega) (by omega) w h) ?_
  rintro⟨x14,clk'15,d'16,un'17,q1'18,q2'19,q3'20,cv'21,rv'22,r'23,evs'24,A'25,c'26⟩ hz4
  refine A.g1 [.p,.p,.p,.al,.st 13,.p] [36,37,38] (fun b28=>[(9,p_ b28),(10,vS A'25 evs'24 c'26)]) (fun b28=>[]) (fun b28=>cw b28 (gV x14) 49) (fun b28=>[b28]) ?_
  intro b28
  refine A.d ?_
  have hdo:=CC hW (hops _<|List.mem_of_getElem? ‹_›).2.2.1 (hops _<|List.mem_of_getElem? ‹_›).2.2.2.2.2 hIk hckk hbk (by assumption:_∧gi _ _∧lG _).1
  refine A.s<|A.gm [.p,.ld 7,.ld 13] [9] [(42,vS Ar rsk ar),(43,.agg (gV x14).toArray)] [b9,b28]<|A.j<|A.aE 44 (e:=49) (gV x14) (by kernel_rfl) rfl (fun _=>by kernel_rfl) _ (fun _=>rfl) ?_
  intro b29
  refine A.j<|A.ap gV rsk ([x14]) 8 45 (.agg #[i_ 0,i_ 0,i_ 0]) 24 oP MD (gG (i:=14) rfl) (by(simp;omega)) ?_
  intro A30 c30
  refine A.gs [.p,.st 7] [42,43,44,45] [] [(7,cw b9 [vS A30 (rsk++([x14])) c30,vS Br evk br] 32)] [b9]<|A.s<|A.hp [.p,.ld 7,.p] [(2,p_ b2),(4,p_ sy3),(6,p_ b9),(29,vS al ops cl),(30,c_ ops.length),(31,c_ k),(48,vS Br evk br),(49,vS A'25 evs'24 c'26)] [b9]<|A.j<|A.ap iJ evk evs'24 9 50 (.agg #[i_ 0,b_ false,b_ false,u_ 0,u_ 0,i_ 0,u_ 0,i_ 0,w_ 0,w_ 0,w_ 0,w_ 0]) 64 ju vn (fM (i:=6) rfl) (by omega) ?_
  intro A31 c31
  refine A.gs [.p,.st 7] [48,49,50] [] [(7,cw b9 [vS A30 (rsk++([x14])) c30,vS A31 (evk++evs'24) c31] 32)] [b9]<|A.s<|A.k [.w<|(k:Int)+1,.p] [] [(31,i_<|(k:Int)+1)] [] (o1<|wj ((k:Int)+1)<|by omega)<|A.Z (k+1,clk'15,d'16,un'17,q1'18,q2'19,q3'20,cv'21,rv'22,r'23,rsk++([x14]),A30,c30,evk++evs'24,A31,c31) ⟨(by omega),hdo.1,hdo.2.1,hdo.2.2.1,(by(have h_:=hdo.2.2.2;simp;omega)),(by(simp;omega)),((by assumption:_∧gi _ _∧lG _).2.1),((by assumption:_∧gi _ _∧lG _).2.2),(by(intro r2 e2 h;rw[List.append_assoc,List.append_assoc];exact hA _ _<|Nv ‹_› (by assumption:_∧gi _ _∧lG _).1 (by simpa using h)))⟩ (by(show ops.length-(k+1)<ops.length-k;omega)) ?_
  exact A.J [0,0,0,0,0,0,1,1,1,1,1]
 have p3:=of_decide_eq_false e3
 refine A.aA<|A.c<|A.gs [.ld 6,.st 10,.p] [4,6,29,30,31,32] [(3,i_ 0)] [(10,cw b2 [vS Ar rsk ar,vS Br evk br] 32)] [b9,b2]<|A.e<|A.aG [5,6,6] [.agg #[vS Ar rsk ar,vS Br evk br],i_ 0] (fun _ w r s=>⟨iF 10 r s,fk r rfl,trivial⟩) (Ar,rsk,ar,Br,evk,br) ?_ ?_<|by kernel_rfl
 ·rfl
 exact⟨_,_,hct,hcm,hnS,by have h_:=hA [] [] (by rw[List.drop_eq_nil_of_le<|by omega];exact⟨rfl,rfl⟩);simpa using h_⟩
variable{i:Int}
theorem HE{β:Type}{c:β}: ∀{kv:List (Int×β)},(kv.map (·.1)).Nodup→(i,c)∈kv→cu kv i=some c
 |[],_,h=>by cases h
 |p::kv,hn,h=>by
  obtain⟨h1,h2⟩:=List.nodup_cons.1 hn
  unfold cu
  rcases List.mem_cons.1 h with rfl|h
  ·rw[if_pos rfl]
  ·rw[if_neg fun e=>h1 (by show p.1∈_;rw[e];exact List.mem_map_of_mem (f:=(·.1)) h)];exact HE h2 h
variable{kc:List (Int×Cl)}
theorem NT(hn:(kc.map (·.1)).Nodup){f:Cl→Bool}(h:i∈dH kc f): ∃c,cu kc i=some c∧f c=true:=by
 unfold dH ga at h;rw[(List.mergeSort_perm _ _).mem_iff,List.mem_map] at h
 obtain⟨⟨j,c⟩,h1,h2⟩:=h
 obtain⟨h3,h4⟩:=List.mem_filter.1 h1
 dsimp only at h2;subst h2
 exact⟨c,HE hn h3,h4⟩
variable{kb:List (Int×En)}
theorem J3:qE kb i=false↔qk kb i≠[]:=by
 unfold qE qk;cases cu kb i with
 |none=>simp
 |some m=>simp
theorem B8(hn:(kc.map (·.1)).Nodup):i∈eu kc kb↔(∃c,cu kc i=some c∧c.hl=true)∧qk kb i≠[]:=by
 unfold eu ta;rw[List.mem_filter];constructor
 ·rintro⟨h1,h2⟩;exact⟨NT hn h1,J3.1<|by simpa using h2⟩
 ·rintro⟨⟨c,h1,h2⟩,h3⟩;exact⟨rj h1 h2,by simpa using J3.2 h3⟩
theorem UK(hn:(kc.map (·.1)).Nodup):(eu kc kb).Nodup:=by
 unfold eu ta dH ga
 refine List.Nodup.sublist List.filter_sublist<|(List.mergeSort_perm _ _).nodup_iff.2 ?_
 exact List.Nodup.sublist (List.filter_sublist.map _) hn
def vG(kc:List (Int×Cl))(i:Int)(kb:List (Int×En))(kk:List (Int×Vt)):Prop:=
 (fZ kc i≠0∧cu kb i=none)∨(fZ kc i=0∧ ∃m,u9 (dD kc i) m∧cu kb i=some m∧((dD kc i).hl=false→ ∃v,v.kv=[]∧v.t=T.nil∧cu kk i=some v))
variable{kk:List (Int×Vt)}
theorem Oq{j:Int}{kb':List (Int×En)}{kk':List (Int×Vt)}(hn:(kb.map (·.1)).Nodup)(hm:(kk.map (·.1)).Nodup)(h:yd kc j kb kk kb' kk'):
  (kb'.map (·.1)).Nodup∧(kk'.map (·.1)).Nodup∧(∀i,i≠j→cu kb' i=cu kb i∧cu kk' i=cu kk i)∧vG kc j kb' kk':=by
 rcases h with⟨h1,rfl,rfl⟩|⟨h1,m,h2,rfl,⟨h3,rfl⟩|⟨h3,v,h4,h5,rfl⟩⟩
 ·exact⟨kB hn _,kB hm _,fun i hi=>by rw[iG hn,iG hm,if_neg<|fun e=>hi e.symm,if_neg<|fun e=>hi e.symm];exact⟨rfl,rfl⟩,.inl ⟨h1,by rw[iG hn,if_pos rfl]⟩⟩
 ·exact⟨kj (kB hn _) _ _,kB hm _,fun i hi=>by rw[fm,iG hn,iG hm,if_neg<|fun e=>hi e.symm,if_neg<|fun e=>hi e.symm,if_neg<|fun e=>hi e.symm];exact⟨rfl,rfl⟩,.inr ⟨h1,m,h2,jM _ _ _,fun e=>by rw[h3] at e;cases e⟩⟩
 ·exact⟨kj (kB hn _) _ _,kj (kB hm _) _ _,fun i hi=>by rw[fm,iG hn,fm,iG hm,if_neg<|fun e=>hi e.symm,if_neg<|fun e=>hi e.symm,if_neg<|fun e=>hi e.symm,if_neg<|fun e=>hi e.symm];exact⟨rfl,rfl⟩,.inr ⟨h1,m,h2,jM _ _ _,fun _=>⟨v,h4,h5,jM _ _ _⟩⟩⟩
theorem Aj: ∀{l:List Int}{kb kb':List (Int×En)}{kk kk':List (Int×Vt)},(kb.map (·.1)).Nodup→(kk.map (·.1)).Nodup→nN kc l kb kk kb' kk'→ ∀i,(i∉l→cu kb' i=cu kb i∧cu kk' i=cu kk i)∧(i∈l∨vG kc i kb kk→vG kc i kb' kk')
 |[],kb,kb',kk,kk',hn,hm,⟨h1,h2⟩,i=>by subst h1 h2;exact⟨fun _=>⟨rfl,rfl⟩,fun h=>h.resolve_left<|by simp⟩
 |j::l,kb,kb',kk,kk',hn,hm,⟨kb1,kk1,hs,h⟩,i=>by
  obtain⟨a1,a2,a3,a4⟩:=Oq hn hm hs
  obtain⟨b1,b2⟩:=Aj a1 a2 h i
  refine⟨fun hi=>?_,fun hi=>b2 ?_⟩
  ·obtain⟨c1,c2⟩:=b1 fun h=>hi<|List.mem_cons_of_mem _ h
   obtain⟨d1,d2⟩:=a3 i fun e=>hi<|e▸List.mem_cons_self ..
   exact⟨c1.trans d1,c2.trans d2⟩
  ·by_cases e:i=j
   ·subst e;exact .inr a4
   ·rcases hi with hi|hi
    ·exact .inl<|(List.mem_cons.1 hi).resolve_left e
    ·right
     obtain⟨d1,d2⟩:=a3 i e
     unfold vG at hi⊢;rw[d1,d2];exact hi
theorem UL(h:vG kc i kb kk):qk kb i=[]:=by
 rcases h with⟨-,h⟩|⟨-,m,h1,h2,-⟩
 ·unfold qk;rw[h];rfl
 ·rw[kZ h2]
  obtain⟨e1,-,-,-,-,-,e2,e3⟩:=h1
  cases hl:(dD kc i).hl with
  |true=>exact(e2 hl).2.1
  |false=>exact List.eq_nil_of_length_eq_zero (by rw[kT];exact(by rw[e3 hl];rfl))
theorem HF{kw:List (Int×Cl)}(hL:dr kc)(hW:dr kw): ∀(n:Nat)(i:Int),dep kc i≤n→(i=0∨cu kc i≠none)→(∀q∈db kc i,cu kc q=cu kw q)→db kw i=db kc i
 |n,i,hn,hi,h=>by
  cases e:cu kc i with
  |none=>
   have h0:=hi.resolve_right fun h=>h e
   subst h0;rw[nB<|mU hL,nB<|mU hW]
  |some c=>
   have hu:=jN hL e
   cases n with
   |zero=>rw[jB hL e] at hn;omega
   |succ n=>
    rw[jB hL e] at hn
    have e2:cu kw i=some c:=by rw[←h i (by rw[hu];exact List.mem_cons_self ..)];exact e
    rw[hu,jN hW e2,HF hL hW n c.hp (by omega) ?_ fun q hq=>h q (by rw[hu];exact List.mem_cons_of_mem _ hq)]
    rcases hL.par i c e with h1|⟨p,h1,-⟩
    ·exact .inl h1
    ·exact .inr (by rw[h1];simp)
theorem B9(hL:dr kc): ∀{l:List Int}{on on':List (Int×Int)}{ka ka':List (Int×MB)}{A:Int→Prop},AO kc on ka A→ow (fO kc) l on ka on' ka'→l.Nodup→(∀i∈l,(dD kc i).hl=true∧i∉on.map (·.1))→
  ∃A',AO kc on' ka' A'∧ ∀i,i∈on'.map (·.1)↔i∈on.map (·.1)∨(i∈l∧fK kc i=true)
 |[],on,on',ka,ka',A,hA,⟨h1,h2⟩,_,_=>by subst h1 h2;exact⟨A,hA,fun i=>by simp⟩
 |j::l,on,on',ka,ka',A,hA,⟨on1,ka1,l1,e1,hO,h⟩,hn,hl=>by
  obtain⟨n1,n2⟩:=List.nodup_cons.1 hn
  obtain⟨l1,l2⟩:=hl j<|List.mem_cons_self ..
  have hno: ¬A j:=fun h=>l2<|xl hL hA.ast h l1
  by_cases hs:fK kc j=true
  ·obtain⟨A1,a1,-,a3⟩:=JZ hL hA hO hs l1 hno
   obtain⟨A',b1,b2⟩:=B9 hL a1 h n2 fun i hi=>⟨(hl i<|List.mem_cons_of_mem _ hi).1,fun h=>by
    rcases(a3 i).1 h with e|e
    ·exact n1<|e▸hi
    ·exact(hl i<|List.mem_cons_of_mem _ hi).2 e⟩
   refine⟨A',b1,fun i=>?_⟩
   rw[b2,a3,List.mem_cons];constructor
   ·rintro((rfl|h)|h)
    ·exact .inr ⟨.inl rfl,hs⟩
    ·exact .inl h
    ·exact .inr ⟨.inr h.1,h.2⟩
   ·rintro(h|⟨rfl|h,h2⟩)
    ·exact .inl<|.inr h
    ·exact .inl<|.inl rfl
    ·exact .inr ⟨h,h2⟩
  ·rcases hO with⟨h1,-⟩|⟨-,-,-,h1,h2⟩
   ·rw[uU,Bool.and_eq_true] at h1;exact absurd h1.1 hs
   ·subst h1 h2
    obtain⟨A',b1,b2⟩:=B9 hL hA h n2 fun i hi=>hl i<|List.mem_cons_of_mem _ hi
    refine⟨A',b1,fun i=>?_⟩
    rw[b2,List.mem_cons];constructor
    ·rintro(h|h)
     ·exact .inl h
     ·exact .inr ⟨.inr h.1,h.2⟩
    ·rintro(h|⟨rfl|h,h2⟩)
     ·exact .inl h
     ·exact absurd h2 hs
     ·exact .inr ⟨h,h2⟩
theorem IU:AO kc [] [] (fun _=>False):=by
 refine⟨⟨fun i h=>h.elim,fun i h=>h.elim,fun i h=>h.elim,fun i h=>(by cases h),fun i h=>(by cases h)⟩,fun p=>?_,by simp⟩
 simp[kx,cu,m0]
theorem RH{c:Cl}(h:cu kc i=some c):fZ kc i=0:=by unfold fZ;rw[h];rfl
variable{er:Int}
theorem IV{idle:Bool}{pl:Int}(h:Iv c d)(hz: ∀z∈l,j0 z)(ht:qy c d idle l pl er d'):Iv c d'∧ ∀i,qk d'.kb i=qk d.kb i:=by
 obtain⟨het,hek,hck,hac,hR,hnd⟩:=ht
 obtain⟨bt',mc',kc',kb',a',on',ka',et',ek',kk',ck',ac'⟩:=d'
 dsimp only at het hek hck hac hR⊢
 subst het hek hck hac
 rcases hR with⟨-,-,rfl,rfl,rfl,rfl,rfl,rfl,rfl,rfl,-⟩|⟨-,⟨-,hbz,-⟩,hkc,hC,hy,hO,-⟩
 ·exact⟨⟨h.lt1,h.lm1,h.laid,h.aok,h.by_,hnd,h.ym,h.ac,h.onk,h.el,h.ekk,h.pk,h.rg,h.qv⟩,fun _=>rfl⟩
 ·rw[←hkc] at hbz
  have hL:=h.laid
  have hW:dr kc':=hkc▸BF hL
  have hAw:mH kc':=hkc▸Ix h.aok hL hz
  have hB':=IC h.by_ h.nd.1 hC
  have hg:=fun i=>Aj h.nd.1 h.nd.2.1 hC i
  rw[hy] at hO
  have hbusy: ∀i∈eH d.kc kc',∀lf,qk d.kb lf≠[]→i∉db d.kc lf:=fun i hi lf hlf hup=>by
   obtain⟨m,-,h2,h3,-⟩:=om h.by_ hlf
   have:mD d.kc d.kb i=true:=by
    unfold mD;rw[List.any_eq_true]
    exact⟨lf,(B8 hL.nd).2 ⟨⟨_,h2,h3⟩,hlf⟩,by rw[List.contains_iff_mem];exact hup⟩
   have h4:(eH d.kc kc').any (mD d.kc d.kb)=true:=List.any_eq_true.2 ⟨i,hi,this⟩
   rw[hbz] at h4;cases h4
  have hself: ∀lf,qk d.kb lf≠[]→lf∈db d.kc lf:=fun lf hlf=>by
   obtain⟨m,-,h2,-⟩:=om h.by_ hlf
   rw[jN hL h2];exact List.mem_cons_self ..
  have hqk: ∀i,qk kb' i=qk d.kb i:=fun i=>by
   by_cases e:i∈eH d.kc kc'
   ·rw[UL<|(hg i).2 (.inl e)]
    exact(Classical.byContradiction fun hne=>hbusy i e i (fun h=>hne h.symm)<|hself i fun h=>hne h.symm)
   ·unfold qk;rw[((hg i).1 e).1]
  have hsame: ∀lf,qk d.kb lf≠[]→ ∀q∈db d.kc lf,q∉eH d.kc kc':=fun lf hlf q hq ht=>hbusy q ht lf hlf hq
  have hup: ∀lf,qk d.kb lf≠[]→db kc' lf=db d.kc lf:=fun lf hlf=>by
   obtain⟨m,-,h2,-⟩:=om h.by_ hlf
   exact HF hL hW _ lf (Nat.le_refl _) (.inr (by rw[h2];simp)) fun q hq=>wW<|hsame lf hlf q hq
  have hcl: ∀q,q∉eH d.kc kc'→dD kc' q=dD d.kc q:=fun q hq=>by unfold dD;rw[wW hq]
  have hlsame: ∀lf,qk d.kb lf≠[]→dD kc' lf=dD d.kc lf:=fun lf hlf=>hcl lf<|hsame lf hlf lf<|hself lf hlf
  obtain⟨A,hA,hK⟩:=h.ac
  obtain⟨A',hA',hon⟩:=B9 hW (IU (kc:=kc')) hO (UK hW.nd) fun i hi=>by
   obtain⟨⟨c,h1,h2⟩,-⟩:=(B8 hW.nd).1 hi
   exact⟨by rw[iu h1];exact h2,by simp⟩
  have honk: ∀i,i∈on'.map (·.1)↔fK kc' i=true∧(dD kc' i).hl=true∧qk kb' i≠[]:=fun i=>by
   rw[hon,B8 hW.nd];simp only[List.map_nil,List.not_mem_nil,false_or]
   constructor
   ·rintro⟨⟨⟨c,h1,h2⟩,h3⟩,h4⟩;exact⟨h4,by rw[iu h1];exact h2,h3⟩
   ·rintro⟨h1,h2,h3⟩;obtain⟨c,h4,h5⟩:=kG h1;exact⟨⟨⟨c,h4,by rw[←h5];exact h2⟩,h3⟩,h1⟩
  have hkeys: ∀i,i∈on'.map (·.1)↔i∈d.on.map (·.1):=fun i=>by
   rw[honk,h.onk,hqk]
   by_cases e:qk d.kb i=[]
   ·simp[e]
   ·have:=hlsame i e
    unfold fK;rw[this]
  have hAA: ∀q,A' q↔A q:=fun q=>by
   rw[qm hW hA'.ast,qm hL hA.ast]
   constructor
   ·rintro⟨m,h1,h2⟩
    have h3:=(hkeys m).1 h1
    exact⟨m,h3,by rw[←hup m ((h.onk m).1 h3).2.2];exact h2⟩
   ·rintro⟨m,h1,h2⟩
    exact⟨m,(hkeys m).2 h1,by rw[hup m ((h.onk m).1 h1).2.2];exact h2⟩
  have hAeq:A'=A:=funext fun q=>propext<|hAA q
  subst hAeq
  have hAt: ∀q,A' q→q∉eH d.kc kc'∧((dD d.kc q).hp∉eH d.kc kc'):=fun q hq=>by
   obtain⟨m,h1,h2⟩:=(qm hL hA.ast q).1 hq
   have hm:=((h.onk m).1 h1).2.2
   refine⟨hsame m hm q h2,fun ht=>?_⟩
   rcases B6 hL _ m q (Nat.le_refl _) h2 with h3|h3
   ·exact hsame m hm _ h3 ht
   ·rw[h3] at ht
    have:=((xP d.kc kc').2 0).1 ht
    unfold kg at this;rw[mU hL,mU hW] at this;simp at this
  have hfit: ∀i,i∉eH d.kc kc'→mg kk' i=mg d.kk i:=fun i hi=>by unfold mg;rw[((hg i).1 hi).2]
  have hK':KT kc' A' kk' (fun q=>q=0):=fun p hp=>by
   by_cases e:p∈eH d.kc kc'
   ·rcases hp with rfl|⟨cp,hp,hl⟩
    ·have:=((xP d.kc kc').2 0).1 e
     unfold kg at this;rw[mU hL,mU hW] at this;simp at this
    ·rcases(hg p).2 (.inl e) with⟨h1,-⟩|⟨-,m,-,-,h4⟩
     ·exact absurd (RH hp) h1
     ·obtain⟨v,h5,h6,h7⟩:=h4 (by rw[iu hp];exact hl)
      refine⟨v,h7,by rw[h5,h6];exact pX,fun i=>?_,fun i y hy=>(by rw[h5] at hy;cases hy),fun i y hy=>(by rw[h5] at hy;cases hy)⟩
      rw[h5];refine⟨fun h8=>absurd rfl h8,fun⟨h8,h9⟩=>?_⟩
      obtain⟨a1,a2⟩:=hAt i h8
      rw[hcl i a1] at h9;rw[h9] at a2;exact absurd e a2
   ·have hpi:oJ d.kc p:=by
     rcases hp with hp|⟨cp,hp,hl⟩
     ·exact .inl hp
     ·exact .inr ⟨cp,by rw[wW e];exact hp,hl⟩
    obtain⟨v,h1,h2⟩:=hK p hpi
    refine⟨v,by rw[((hg p).1 e).2];exact h1,h2.er,fun i=>?_,h2.rng,fun i y hy hl hn=>?_⟩
    ·rw[h2.key];constructor
     ·rintro⟨a,b⟩;exact⟨a,by rw[hcl i (hAt i a).1];exact b⟩
     ·rintro⟨a,b⟩;exact⟨a,by rw[←hcl i (hAt i a).1];exact b⟩
    ·have ha:=((h2.key i).1 (by rw[hy];simp)).1
     rw[hfit i (hAt i ha).1]
     exact h2.fit i y hy (by rw[←hcl i (hAt i ha).1];exact hl) hn
  have hrg:RG kb':=fun i m hm=>by
   by_cases e:i∈eH d.kc kc'
   ·rcases(hg i).2 (.inl e) with⟨-,h1⟩|⟨-,m',h1,h2,-⟩
    ·rw[h1] at hm;cases hm
    ·rw[h2] at hm;cases hm
     obtain⟨-,-,-,-,h3,-⟩:=h1
     rw[h3];exact Jr
   ·rw[((hg i).1 e).1] at hm;exact h.rg i m hm
  have hqv:QV kb':=fun i m hm hl=>by
   by_cases e:i∈eH d.kc kc'
   ·rcases(hg i).2 (.inl e) with⟨-,h1⟩|⟨-,m',h1,h2,-⟩
    ·rw[h1] at hm;cases hm
    ·rw[h2] at hm;cases hm
     obtain⟨h3,-,-,-,-,-,h4,-⟩:=h1
     obtain⟨-,h5,h6,h7,h8⟩:=h4 (by rw[←h3];exact hl)
     exact⟨by rw[h6,h3],by rw[h8,h3],by rw[h7,h5];rfl⟩
   ·rw[((hg i).1 e).1] at hm;exact h.qv i m hm hl
  refine⟨⟨h.lt1,h.lm1,hW,hAw,hB',hnd,hy,⟨A',hA',hK'⟩,honk,h.el,fun i hi=>?_,fun i p hp=>?_,hrg,hqv⟩,hqk⟩
  ·obtain⟨h1,h2⟩:=h.ekk i hi
   show qk kb' i≠[]∧jK (dD kc' i)=true
   rw[hqk,hlsame i h1];exact⟨h1,h2⟩
  ·exact h.pk i p (by rw[←hqk];exact hp)
theorem xm(h1:1≤c.lt∧c.lt≤65536)(h2:1≤c.lm∧c.lm≤16384)(h:jT d):Iv c d:=by
 obtain⟨bt,mc,kc,kb,a,on,ka,et,ek,kk,ck,ac⟩:=d
 obtain⟨e1,e2,e3,e4,e5,e6,e7,⟨v,e8,e9,e10⟩,-,-⟩:=h
 dsimp only at e1 e2 e3 e4 e5 e6 e7 e8
 subst e1 e2 e4 e5 e6 e7 e8
 refine⟨h1,h2,Me,⟨[],Qd⟩,fun i=>⟨rfl,fun m hm=>(by cases hm)⟩,⟨by simp,by simp,by simp⟩,e3,⟨_,IU,fun p hp=>?_⟩,fun i=>by simp[qk,cu],pX,fun i hi=>absurd rfl hi,fun i p hp=>(by cases hp),fun i m hm=>(by cases hm),fun i m hm=>(by cases hm)⟩
 rcases hp with rfl|⟨cp,hp,-⟩
 ·refine⟨v,by simp[cu],by rw[e9,e10];exact pX,fun i=>by rw[e9];simp[cu],fun i y hy=>(by rw[e9] at hy;cases hy),fun i y hy=>(by rw[e9] at hy;cases hy)⟩
 ·cases hp
def qW(d:Sd):Nat:=((d.kc.map (·.1)).map fun i=>(qk d.kb i).length).sum
theorem Am:ni c (Iv c) qW where
 pre d h:=RD h
 take d now z ok d' h _ ht:=by
  obtain⟨h1,h2,h3,-⟩:=HD h ht
  have hkc:d'.kc=d.kc:=ht.1.2.2.1
  refine⟨h1,?_⟩
  unfold qW;rw[hkc]
  cases ok with
  |false=>
   have:(fun i=>(qk d'.kb i).length)=fun i=>(qk d.kb i).length:=funext fun i=>by rw[h2 i];simp
   rw[this];exact⟨Nat.le_refl _,fun e=>by cases e⟩
  |true=>
   obtain⟨m,-,h4,-⟩:=om h.by_<|h3 rfl
   have:=Aa (f:=fun i=>(qk d.kb i).length) (g:=fun i=>(qk d'.kb i).length) (i:=z.gq1) (fun j hj=>by
    rw[h2 j];simp[show¬z.gq1=j from fun e=>hj e.symm]) h.laid.nd<|lq.1 (by rw[h4];simp)
   have h5:=congrArg List.length<|h2 z.gq1;simp at h5
   omega
 put d now ci p er d' h _ ht:=by
  obtain⟨h1,h2,h3,-⟩:=IT h ht
  have hkc:d'.kc=d.kc:=ht.1.2.2.1
  refine⟨h1,?_⟩
  unfold qW;rw[hkc]
  by_cases e:er=0
  ·have:=Aa (f:=fun i=>(qk d.kb i).length) (g:=fun i=>(qk d'.kb i).length) (i:=ci) (fun j hj=>by
    rw[h2 j];simp[show¬ci=j from fun e=>hj e.symm]) h.laid.nd<|h3 e
   have h5:=congrArg List.length<|h2 ci;simp[e] at h5
   omega
  ·have:(fun i=>(qk d'.kb i).length)=fun i=>(qk d.kb i).length:=funext fun i=>by rw[h2 i];simp[e]
   rw[this];omega
 chg d idle l pl er d' h hz ht:=by
  obtain⟨h1,h2⟩:=IV h hz ht
  refine⟨h1,?_⟩
  unfold qW
  have:(fun i=>(qk d'.kb i).length)=fun i=>(qk d.kb i).length:=funext fun i=>by rw[h2 i]
  rw[this]
  refine wu h1.laid.nd fun i _ hi=>?_
  obtain⟨m,-,h4,-⟩:=om h.by_ (i:=i) fun e=>hi (by rw[e];rfl)
  exact lq.1 (by rw[h4];simp)
 go d now z ok d' h hd hn ht:=J2 h hd hn ht
theorem An(h:jT d):qW d=0:=by unfold qW;rw[h.1];rfl
theorem IW(hL:dr kc): ∀(n:Nat)(i:Int),dep kc i≤n→cu kc i≠none→ ∃r∈db kc i,(dD kc r).hp=0
 |n,i,hn,hi=>by
  cases e:cu kc i with
  |none=>exact absurd e hi
  |some c=>
   have hd:=jB hL e
   cases n with
   |zero=>omega
   |succ n=>
    rw[jN hL e]
    rcases hL.par i c e with h1|⟨p,h1,-⟩
    ·exact⟨i,List.mem_cons_self ..,by rw[iu e];exact h1⟩
    ·obtain⟨r,h2,h3⟩:=IW hL n c.hp (by omega) (by rw[h1];simp)
     exact⟨r,List.mem_cons_of_mem _ h2,h3⟩
theorem J4(h:Iv c d)(hz:gq d.kb∧ZK d.kc d.kk)(hs:fK d.kc i=true)(hl:(dD d.kc i).hl=true)(hq:qk d.kb i≠[]):jh d.et d.kk≤0:=by
 obtain⟨A,hA,hK⟩:=h.ac
 have hi:=hA.ast.ons i<|(h.onk i).2 ⟨hs,hl,hq⟩
 obtain⟨r,h1,h2⟩:=IW h.laid _ i (Nat.le_refl _)<|uv hs
 have hr:=uN h.laid hA.ast _ i (Nat.le_refl _) hi r h1
 obtain⟨v,h3,h4⟩:=hK 0<|.inl rfl
 have h5:=(h4.key r).2 ⟨hr,h2⟩
 have h6:i9 v.t.toL=0:=by
  refine IP (fun y hy=>h4.rng _ y<|pq h4.er hy) (fun y hy=>hz.2 0 v (.inl rfl) h3 _ y<|pq h4.er hy) fun h=>?_
  have:=h4.er.len;rw[h] at this
  have:=List.eq_nil_of_length_eq_zero this.symm
  rw[this] at h5;exact h5 rfl
 unfold jh;rw[h3];simp only[Option.map_some,Option.getD_some];rw[h6]
 unfold dS;split<;>omega
variable{now:Int}
theorem UM{ci:Int}{p:Pk}{cl:Cl}(h:Iv c d)(hc:cu d.kc ci=some cl)(hl:cl.hl=true)(h1:1≤p.qn∧p.qn≤c.lm)(h2:IntKind.u64.wrap (d.ac+IntKind.u64.wrap p.qn)≤1099511627776)(h3:mh (qk d.kb ci)+p.qn≤cl.hq)(h4:((qk d.kb ci).length:Int)<cl.hk)
  (ht:nt c d now ci p er d'):er=0∧d'.ac=IntKind.u64.wrap (d.ac+IntKind.u64.wrap p.qn)∧d'.kc=d.kc:=by
 obtain⟨⟨-,-,hkc,-⟩,-,⟨-,hn,-⟩|⟨h5,h6,-⟩⟩:=ht
 rotate_left
 ·exact⟨h5,h6,hkc⟩
 exfalso
 obtain⟨m,hm,he,ho⟩:=tO h.by_ hc
 have hq:=h.qv ci m hm (by rw[he];exact hl)
 rw[kZ hm] at h3 h4
 obtain⟨b,hb⟩:=Option.isSome_iff_exists.1<|ho.lf.1 (by rw[he];exact hl)
 have hk:=ho.qu (by rw[hb];rfl)
 have hr:=wH (l:=qC m.q) (by rw[←kZ hm];exact h.pk ci)
 have hn2:(qC m.q).length≤64:=by rw[kT];unfold j7 at hk;omega
 have hlm:=h.lm1
 refine hn m ⟨hm,by rw[he];exact hl,h1.1,h1.2,h2,?_,?_⟩
 ·rw[hq.1,hq.2.2,he]
  have hh:cl.hq≤1048576:=by
   have:=(h.laid.key ci cl hc).2;unfold fc at this;rw[if_pos hl] at this;grind
  rw[Ad (by constructor<;>omega)];omega
 ·have:=hq.2.1;rw[he] at this;rw[kT] at h4;omega
def zA:Zc:=⟨1,1,0,true,0,0,0,65536,0,65536,0,0,0,3,300⟩
def rA:Rl:=⟨0,0,0,0,0,0,0,0,1⟩
def pA:Pk:=⟨7,100,0,0,0,0⟩
def cA:Cl:=⟨1,0,true,0,0,0,65536,0,65536,0,0,0,3,300⟩
theorem Uz:di [] [zA]=[(1,cA)]:=by kernel_rfl
theorem VA:iN [] 1 [zA]=0:=by kernel_rfl
theorem VB:lG [rA]:=⟨by decide,by decide,by simp[kP,rA]⟩
theorem Js:fW [rA] (gB pA)=1:=by kernel_rfl
structure tg(c:Ss)(d:Sd)(l:List Pk)(ac:Int):Prop where
 iv:Iv c d
 kc:d.kc=[(1,cA)]
 z:gq d.kb∧ZK d.kc d.kk
 q:qk d.kb 1=l
 ac:d.ac=ac
theorem DO(h:kc=[(1,cA)]){x:Cl}(hx:cu kc i=some x):i=1∧x=cA:=by
 subst h;simp only[cu] at hx;split at hx
 ·rename_i e;cases hx;exact⟨e.symm,rfl⟩
 ·cases hx
theorem RI{pl:Int}(h1:c.lt=1)(h2:c.lm=100)(hn:jT d)(ht:qy c d true [zA] pl er d'):tg c d' [] 0:=by
 have hz: ∀z∈[zA],j0 z:=by simp[j0,zA]
 have hI:=xm (c:=c) (by rw[h1];decide) (by rw[h2];decide) hn
 obtain⟨k1,k2⟩:=IV hI hz ht
 obtain⟨e1,e2,-,-,-,-,-,⟨v,e8,e9,-⟩,-,e11⟩:=hn
 obtain⟨-,-,-,hac,hR,-⟩:=ht
 rw[e1,e2,e8,h1] at hR
 have hld:eu [] d.kb=[]:=by unfold eu ta dH ga;simp
 have hok:qT [] 1 true [] [zA]:=by
  refine⟨VA,?_,.inr ⟨rfl,by rw[←e2];exact hld⟩⟩
  rw[List.any_eq_false];intro x _;unfold mD;rw[←e2,hld];simp
 rcases hR with⟨-,h,-⟩|⟨-,-,hkc,hC,-⟩
 ·exact absurd hok h
 rw[Uz] at hkc;rw[hkc] at hC
 have hg:=fun i=>Aj (kb:=([]:List (Int×En))) (kk:=[((0:Int),v)]) (by simp) (by simp) hC i
 refine⟨k1,hkc,⟨fun i m hm=>?_,fun p w hp hw i y hy=>?_⟩,by rw[k2];unfold qk;rw[e2];rfl,by rw[hac,e11]⟩
 ·obtain⟨q1,q2⟩:=DO hkc<|lP k1.by_ hm
  refine⟨by rw[q2];decide,?_⟩
  by_cases e:i∈eH [] [(1,cA)]
  ·rcases(hg i).2 (.inl e) with⟨-,h1⟩|⟨-,m',h1,h2,-⟩
   ·rw[h1] at hm;cases hm
   ·rw[h2] at hm;cases hm
    exact h1.2.2.2.2.2.1
  ·rw[((hg i).1 e).1] at hm;cases hm
 ·exfalso
  rcases hp with rfl|⟨x,hx,hl⟩
  ·have e:(0:Int)∉eH [] [(1,cA)]:=fun e=>by
    have:=((xP [] [(1,cA)]).2 0).1 e
    unfold kg at this;simp[cu] at this
   rw[((hg 0).1 e).2] at hw
   simp only[cu,if_pos] at hw;cases hw
   rw[e9] at hy;cases hy
  ·have:=(DO hkc hx).2;rw[this] at hl;cases hl
theorem IX{ac:Int}(h2:c.lm=100)(hn:0≤ac∧ac≤100)(h:tg c d [] ac)(ht:nt c d now 1 pA er d'):er=0∧tg c d' [pA] (ac+100):=by
 have hm:cu d.kc 1=some cA:=by rw[h.kc];rfl
 have hw:IntKind.u64.wrap (d.ac+IntKind.u64.wrap pA.qn)=ac+100:=by
  rw[h.ac,show IntKind.u64.wrap pA.qn=100 from rfl];exact wrap_u64 (by constructor<;>omega)
 obtain⟨rfl,h4,h5⟩:=UM h.iv hm rfl (by rw[h2];decide) (by rw[hw];omega) (by rw[h.q];decide) (by rw[h.q];decide) ht
 obtain⟨k1,k2,-,k4⟩:=IT h.iv ht
 exact⟨rfl,k1,h5.trans h.kc,k4 h.z,by rw[k2,h.q];simp,by rw[h4,hw]⟩
theorem HG{ac:Int}{z:Pd}{ok:Bool}(h0:0≤now∧now≤4611686018427387904)(h:tg c d [pA] ac)(ht:nj d now z ok d'):ok=true∧z.gq3=100∧tg c d' [] ac:=by
 have hq:qk d.kb 1≠[]:=by rw[h.q];simp
 have hd:=J4 h.iv h.z (i:=1) (by rw[h.kc];decide) (by rw[h.kc];decide) hq
 have hok:=J2 h.iv (by omega) h0.2 ht
 subst hok
 obtain⟨k1,k2,k3,k4⟩:=HD h.iv ht
 obtain⟨m,-,h2,-⟩:=om h.iv.by_<|k3 rfl
 obtain⟨e,-⟩:=DO h.kc h2
 have h5:=k2 1
 rw[h.q,e] at h5;simp at h5
 obtain⟨h6,h7⟩:=h5
 refine⟨rfl,?_,k1,ht.1.2.2.1.trans h.kc,k4 h.z,h7,ht.2.2.1.trans h.ac⟩
 have:=congrArg Pk.qn h6;exact this.symm
theorem RJ(h:tg c d [pA] 200)(ha:oL 1 4 150 0 d 100 [] d' un' evs): ∃e,evs=[e]∧e.vq4=100∧e.vq5=200:=by
 have hq:qk d.kb 1≠[]:=by rw[h.q];simp
 have hd:=J4 h.iv h.z (i:=1) (by rw[h.kc];decide) (by rw[h.kc];decide) hq
 have hx:iU 0 100 d=100:=by unfold iU nn q8 dS;grind
 cases ha with
 |stop h1=>rw[hx] at h1;omega
 |step h1 hp ha=>
  rw[hx] at hp ha
  rcases hp with⟨h2,-⟩|⟨-,z,ok,ht,hp⟩
  ·omega
  obtain⟨rfl,h3,h4⟩:=HG (by decide) h ht
  rcases hp with⟨h5,-⟩|⟨-,rfl,rfl⟩
  ·cases h5
  rw[h3] at ha
  cases ha with
  |stop h6=>exact⟨_,rfl,rfl,by show 100+z.gq3*1=200;rw[h3];rfl⟩
  |step h6 hp ha=>exfalso;have:=(xK h6<|by decide).2.1;omega
theorem NU{ev:List Ev}{o1 o2 o3 o4 o5:fC}(h1:o1.kd=1∧o1.zl=[zA])(h2:o2.kd=2∧o2.rl=[rA])(h3:o3.kd=3∧o3.op=pA)(h4:o4.kd=3∧o4.op=pA)(h5:o5.kd=4∧o5.tk=150)(hlt:c.lt=1)(hlm:c.lm=100)(hn:jT d)
  (h:jn c 1 [o1,o2,o3,o4,o5] 0 d 0 0 [] rsl ev): ∃e0 e1 e2 e3,ev=[e0,e1,e2,e3]∧e0.vq2=true∧e1.vq5=100∧e3.vq4=100∧e3.vq5=200:=by
 obtain⟨x1,v1,d1,un1,k1,l1,-,w1,hd,⟨x2,v2,d2,un2,k2,l2,-,w2,he,⟨x3,v3,d3,un3,k3,l3,-,w3,hf,⟨x4,v4,d4,un4,k4,l4,-,w4,hg,⟨x5,v5,d5,un5,k5,l5,-,w5,hh,⟨-,rfl⟩,-,rfl⟩,-,rfl⟩,-,rfl⟩,-,rfl⟩,-,rfl⟩:=h
 rw[h1.1,h1.2] at hd;rw[h2.1,h2.2] at he;rw[h3.1,h3.2] at hf;rw[h4.1,h4.2] at hg;rw[h5.1,h5.2] at hh
 obtain⟨-,⟨er,pl,hC,-⟩,rfl,rfl,rfl,rfl⟩|⟨q,-⟩|⟨q,-⟩|⟨q,-⟩|⟨q,-⟩:=hd
 rotate_left
 ·cases q
 ·cases q
 ·cases q
 ·exact absurd rfl q.1
 have a1:=RI hlt hlm hn hC
 obtain⟨q,-⟩|⟨-,rfl,rfl,rfl,rfl,⟨-,rfl,-⟩|⟨q,-⟩⟩|⟨q,-⟩|⟨q,-⟩|⟨q,-⟩:=he
 ·cases q
 rotate_left
 ·exact absurd VB q
 ·cases q
 ·cases q
 ·exact absurd rfl q.2.1
 have hfc:lz 1=0:=rfl
 obtain⟨q,-⟩|⟨q,-⟩|⟨-,rfl,rfl,hp⟩|⟨q,-⟩|⟨q,-⟩:=hf
 ·cases q
 ·cases q
 rotate_left
 ·cases q
 ·exact absurd rfl q.2.2.1
 unfold xM at hp;rw[Js] at hp
 obtain⟨q,-⟩|⟨-,er3,d2',hP,hp⟩:=hp
 ·exact absurd hfc q
 obtain⟨rfl,a2⟩:=IX hlm (by decide) a1 hP
 obtain⟨q,-⟩|⟨-,-,hp⟩:=hp
 ·exact absurd rfl q
 obtain⟨q,-⟩|⟨-,z,ok,ht,hp⟩:=hp
 ·omega
 obtain⟨rfl,hz,a3⟩:=HG (by decide) a2 ht
 obtain⟨q,-⟩|⟨-,rfl,rfl⟩:=hp
 ·cases q
 obtain⟨q,-⟩|⟨q,-⟩|⟨-,rfl,rfl,hp⟩|⟨q,-⟩|⟨q,-⟩:=hg
 ·cases q
 ·cases q
 rotate_left
 ·cases q
 ·exact absurd rfl q.2.2.1
 unfold xM at hp;rw[Js] at hp
 obtain⟨q,-⟩|⟨-,er4,d4',hP,hp⟩:=hp
 ·exact absurd hfc q
 obtain⟨rfl,a4⟩:=IX hlm (by decide) a3 hP
 obtain⟨q,-⟩|⟨-,-,hp⟩:=hp
 ·exact absurd rfl q
 rw[hz] at hp
 obtain⟨-,rfl,rfl,rfl⟩|⟨q,-⟩:=hp
 rotate_left
 ·omega
 obtain⟨q,-⟩|⟨q,-⟩|⟨q,-⟩|⟨-,rfl,hp⟩|⟨q,-⟩:=hh
 ·cases q
 ·cases q
 ·cases q
 rotate_left
 ·exact absurd rfl q.2.2.2
 obtain⟨q,-⟩|⟨-,-,rfl,ha⟩:=hp
 ·omega
 obtain⟨e,rfl,e1,e2⟩:=RJ a4 ha
 refine⟨_,_,_,e,rfl,rfl,?_,e1,e2⟩
 show 0+z.gq3*1=100
 rw[hz];rfl
end Go.Proofs.YtobgjpigngoggaaGreat
