/- The functions of the scheduler, layer by layer, proved operation by operation for all arguments, under the conditions that each theorem states: part 1. -/
import Derived.WalkKit
import Derived.WalkLawsBesides
import Derived.Orders
import Derived.Scope
import Derived.Laws.StructEq
import Derived.Laws.Strings
import Derived.OpenShut
import Derived.Deep.Slices
import Derived.Lib.Strings
import Derived.Test.YtobgjpigngoggaaGreatProg
import Derived.MapKept
import Derived.Shelf.SlIterI.Nil
import Derived.Maps.RangeRun
import Derived.Sort.OwnSortedInts
set_option linter.unusedVariables false
set_option linter.unusedSimpArgs false
set_option maxHeartbeats 4000000
set_option maxRecDepth 100000
namespace Go.Proofs.YtobgjpigngoggaaGreat
open Go
abbrev hV(α:Type):=List (Int×α)
abbrev k0:=Option Addr
abbrev E6:=List Nat
abbrev Wx:=List Int
abbrev Wy:=Act→World→Prop
abbrev Za:=List Value
abbrev Zb:=Array Oper
theorem Zd{α:Type _}{l:List α}{i:Nat}{a:α}(h:l[i]? =some a):a∈l:=List.mem_of_getElem? h
theorem Ze{α:Type _}{l:List α}{i:Nat}(h:i<l.length):l[i]? =some l[i]:=List.getElem?_eq_getElem h
theorem Zf{α:Type _}{l:List α}{i:Nat}{a:α}:l[i]? =some a↔ ∃h:i<l.length,l[i]=a:=List.getElem?_eq_some_iff
theorem Zg{p:Prop}[Decidable p](h:decide p=true):p:=of_decide_eq_true h
theorem Zh{p:Prop}[Decidable p](h:decide p=false):¬p:=of_decide_eq_false h
end Go.Proofs.YtobgjpigngoggaaGreat
namespace Go.Proofs.YtobgjpigngoggaaGreat.V
open Go
abbrev aT:=List<|Nat×Value
def eo:aT→Nat→Option Value
 |[],_=>none
 |p::l,i=>bif Nat.beq p.1 i then some p.2 else eo l i
structure Rep(n:Nat)(env:aT)(a:Act):Prop where
 size:a.tmps.size=n
 nod:a.defers=[]
 get: ∀i v,eo env i=some v→a.tmps.getD i undef=v
def ev(env:aT):Operand→Option Value
 | .tmp t=>eo env t
 | .const v=>some v
 | .global g=>some<|.pointer<|some ⟨g,0,none⟩
 | .func f=>some<|.func (.func f) #[] #[]
def yE(env:aT)(x:Operand):Value:=(ev env x).getD undef
variable{n:Nat}{env:aT}{a:Act}{v:Value}
theorem Rep.ev{x:Operand}(h:Rep n env a)(hx:ev env x=some v):a.eval x=v:=by
 cases x with
 |tmp t=>exact h.get t v hx
 |const u=>simpa[V.ev,Act.eval] using hx
 |global g=>simpa[V.ev,Act.eval] using hx
 |func f=>simpa[V.ev,Act.eval] using hx
variable{d i:Nat}{u:Value}
theorem tO(h:eo ((d,v)::env) i=some u):(d=i∧v=u)∨(d≠i∧eo env i=some u):=by
 simp only[eo] at h
 cases hb:Nat.beq d i with
 |true=>rw[hb] at h;exact .inl ⟨Nat.eq_of_beq_eq_true hb,by simpa using h⟩
 |false=>rw[hb] at h;exact .inr ⟨Nat.ne_of_beq_eq_false hb,by simpa using h⟩
theorem Rep.put(h:Rep n env a)(hd:d<n):Rep n ((d,v)::env) (a.put (some d) v):=by
 refine⟨by simp[Act.put,h.size],by simpa[Act.put] using h.nod,λi u hu=>?_⟩
 rcases tO hu with⟨rfl,rfl⟩|⟨hne,hl⟩
 ·simp[Act.put,h.size,hd]
 ·have:=h.get i u hl
  simp only[Act.put,Array.getD_eq_getD_getElem?] at this⊢
  rw[Array.getElem?_setIfInBounds_ne hne];exact this
theorem Rep.nil(h:Rep n env a):Rep n [] a:=⟨h.size,h.nod,λ_ _ h=>by simp[eo] at h⟩
theorem Rep.cons{env':aT}(h:Rep n env a)(hl:eo env d=some v)(h':Rep n env' a):Rep n ((d,v)::env') a:=by
 refine⟨h.size,h.nod,λi u hu=>?_⟩
 rcases tO hu with⟨rfl,rfl⟩|⟨_,hl'⟩
 ·exact h.get d v hl
 ·exact h'.get i u hl'
def sub(env:aT):aT→Prop
 |[]=>True
 |p::l=>eo env p.1=some p.2∧sub env l
theorem Rep.sub(h:Rep n env a): ∀{env':aT},sub env env'→Rep n env' a
 |[],_=>h.nil
 |_::_,hs=>h.cons hs.1<|h.sub hs.2
structure Fr(S:List Nat)(w w':World):Prop where
 os:w'.os=w.os
 tape:w'.tape=w.tape
 output:w'.output=w.output
 size:w.heap.size≤w'.heap.size
 block: ∀k,k<w.heap.size→k∉S→w'.heap[k]? =w.heap[k]?
theorem Fr.refl(S:E6)(w:World):Fr S w w:=⟨rfl,rfl,rfl,Nat.le_refl _,λ_ _ _=>rfl⟩
variable{S:E6}
theorem Fr.trans{a b c:World}(h:Fr S a b)(k:Fr S b c):Fr S a c:=
 ⟨k.os.trans h.os,k.tape.trans h.tape,k.output.trans h.output,Nat.le_trans h.size k.size,λi hi hS=>(k.block i (Nat.lt_of_lt_of_le hi h.size) hS).trans (h.block i hi hS)⟩
theorem Fr.trans'{T:E6}{a b c:World}(h:Fr S a b)(k:Fr T b c)(hT: ∀x∈T,x∈S∨a.heap.size≤x):Fr S a c:=
 ⟨k.os.trans h.os,k.tape.trans h.tape,k.output.trans h.output,Nat.le_trans h.size k.size,λi hi hS=>(k.block i (Nat.lt_of_lt_of_le hi h.size) (λhm=>by
  rcases hT i hm with h1|h1
  ·exact hS h1
  ·omega)).trans (h.block i hi hS)⟩
theorem Fr.drew(S:E6)(w:World):Fr S w {w with drawn:=w.drawn+1}:=⟨rfl,rfl,rfl,Nat.le_refl _,λ_ _ _=>rfl⟩
theorem Fr.alloc(S:E6)(w:World)(o:Obj):Fr S w (w.alloc o):=⟨rfl,rfl,rfl,by simp,λk hk _=>Go.RowKit.Below.heap_alloc w o k hk⟩
structure aI where
 foot:List Nat
 holds:World→Prop
 loc: ∀w w',(∀b∈foot,w'.heap[b]? =w.heap[b]?)→holds w→holds w'
 here: ∀w,holds w→ ∀b∈foot,b<w.heap.size
 row:Option (Nat×List Value×TypeId):=none
 rowOk: ∀b cs t,row=some (b,cs,t)→foot=[b]∧ ∀w,holds w→w.heap[b]? =some (.cells cs.toArray t (0,0)):=by intro b cs t h;cases h
def aA(b:Nat)(cs:List Value)(t:TypeId):aI where
 foot:=[b]
 holds w:=w.heap[b]? =some (.cells cs.toArray t (0,0))
 loc w w' h hw:=by rw[h b<|by simp];exact hw
 here w hw c hc:=by
  simp at hc;subst hc
  exact(Array.getElem?_eq_some_iff.1 hw).1
 row:=some (b,cs,t)
 rowOk _ _ _ h:=by cases h;exact⟨rfl,λ_ h=>h⟩
def aN(H:List aI):List Nat:=H.flatMap (·.foot)
structure HS(w0:World)(S:List Nat)(H:List aI)(w:World):Prop where
 fr:Fr S w0 w
 all: ∀it∈H,it.holds w
 nodup:(aN H).Nodup
 own: ∀b∈aN H,b∈S∨w0.heap.size≤b
variable{w0 w w':World}{H:List aI}
theorem HS.kept(h:HS w0 S H w)(f:Fr [] w w'):HS w0 S H w':=by
 refine⟨h.fr.trans' f<|by simp,λit hi=>?_,h.nodup,h.own⟩
 refine it.loc w w' (λb hb=>f.block b (it.here w (h.all it hi) b hb)<|by simp)<|h.all it hi
variable{it:aI}
theorem HS.mem(h:HS w0 S H w)(hi:H[i]? =some it):it.holds w:=h.all it<|Zd hi
theorem HS.nil(w:World):HS w [] [] w:=⟨Fr.refl _ _,by simp,by simp[aN],by simp[aN]⟩
theorem HS.start(w:World)(H:List aI)(h: ∀it∈H,it.holds w)(hn:(aN H).Nodup):HS w (aN H) H w:=⟨Fr.refl _ _,h,hn,λ_ hb=> .inl hb⟩
theorem lW(H K:List aI):aN (H++K)=aN H++aN K:=by simp[aN]
theorem HS.add(h:HS w0 S H w)(f:Fr [] w w')(hi:it.holds w')(hn:it.foot.Nodup)(hnew: ∀b∈it.foot,w.heap.size≤b):HS w0 S (H++[it]) w':=by
 have hk:=h.kept f
 have hlt: ∀b∈aN H,b<w.heap.size:=λb hb=>by
  obtain⟨jt,hj,hb'⟩:=List.mem_flatMap.1 hb
  exact jt.here w (h.all jt hj) b hb'
 refine⟨hk.fr,λjt hj=>?_,?_,λb hb=>?_⟩
 ·rcases List.mem_append.1 hj with hj|hj
  ·exact hk.all jt hj
  ·simp at hj;subst hj;exact hi
 ·rw[lW]
  refine List.nodup_append.2 ⟨h.nodup,by simpa[aN] using hn,λx hx y hy=>?_⟩
  have h1:=hlt x hx
  have h2:=hnew y<|by simpa[aN] using hy
  omega
 ·rw[lW] at hb
  rcases List.mem_append.1 hb with hb|hb
  ·exact h.own b hb
  ·right
   have h2:=hnew b<|by simpa[aN] using hb
   have:=h.fr.size
   omega
theorem HS.turn{jt:aI}(h:HS w0 S H w)(hi:H[i]? =some it)(f:Fr it.foot w w')(hj:jt.holds w')(hn:jt.foot.Nodup)
  (hsub: ∀b∈jt.foot,b∈it.foot∨w.heap.size≤b):HS w0 S (H.set i jt) w':=by
 obtain⟨hlt,hget⟩:=Zf.1 hi
 have hsplit:H=H.take i++it::H.drop (i+1):=by
  rw[←hget,List.getElem_cons_drop,List.take_append_drop]
 have hset:H.set i jt=H.take i++jt::H.drop (i+1):=by
  rw[List.set_eq_take_append_cons_drop,if_pos hlt]
 have hfoot:aN H=aN (H.take i)++(it.foot++aN (H.drop<|i+1)):=by
  conv=>lhs;rw[hsplit]
  simp[aN]
 have hfoot':aN (H.set i jt)=aN (H.take i)++(jt.foot++aN (H.drop<|i+1)):=by
  rw[hset];simp[aN]
 have hltb: ∀b∈aN H,b<w.heap.size:=λb hb=>by
  obtain⟨kt,hk,hb'⟩:=List.mem_flatMap.1 hb
  exact kt.here w (h.all kt hk) b hb'
 have hnd:=h.nodup
 rw[hfoot] at hnd
 obtain⟨n1,n2,n3⟩:=List.nodup_append.1 hnd
 obtain⟨n4,n5,n6⟩:=List.nodup_append.1 n2
 have hitm:it∈H:=Zd hi
 have hmem1: ∀kt∈H.take i,kt∈H:=λkt hk=>List.mem_of_mem_take hk
 have hmem2: ∀kt∈H.drop (i+1),kt∈H:=λkt hk=>List.mem_of_mem_drop hk
 have hfree1: ∀kt∈H.take i,∀b∈kt.foot,b∉it.foot:=λkt hk b hb hb'=>
  n3 b (List.mem_flatMap.2 ⟨kt,hk,hb⟩) b (List.mem_append.2<|.inl hb') rfl
 have hfree2: ∀kt∈H.drop (i+1),∀b∈kt.foot,b∉it.foot:=λkt hk b hb hb'=>
  n6 b hb' b (List.mem_flatMap.2 ⟨kt,hk,hb⟩) rfl
 have hkeep: ∀kt∈H,(∀b∈kt.foot,b∉it.foot)→kt.holds w':=λkt hk hfr=>
  kt.loc w w' (λb hb=>f.block b (kt.here w (h.all kt hk) b hb)<|hfr b hb) (h.all kt hk)
 have hitown: ∀x∈it.foot,x∈S∨w0.heap.size≤x:=λx hx=>h.own x (by rw[hfoot];simp[hx])
 refine⟨h.fr.trans' f hitown,λkt hk=>?_,?_,λb hb=>?_⟩
 ·rw[hset] at hk
  rcases List.mem_append.1 hk with hk|hk
  ·exact hkeep kt (hmem1 kt hk)<|hfree1 kt hk
  ·rcases List.mem_cons.1 hk with rfl|hk
   ·exact hj
   ·exact hkeep kt (hmem2 kt hk)<|hfree2 kt hk
 ·rw[hfoot']
  refine List.nodup_append.2 ⟨n1,List.nodup_append.2 ⟨hn,n5,λx hx y hy=>?_⟩,λx hx y hy=>?_⟩
  ·rcases hsub x hx with h1|h1
   ·exact n6 x h1 y hy
   ·have:=hltb y (by rw[hfoot];simp[hy]);omega
  ·have hxl:=hltb x (by rw[hfoot];simp[hx])
   rcases List.mem_append.1 hy with hy|hy
   ·rcases hsub y hy with h1|h1
    ·exact n3 x hx y<|List.mem_append.2<|.inl h1
    ·omega
   ·exact n3 x hx y<|List.mem_append.2<|.inr hy
 ·rw[hfoot'] at hb
  rcases List.mem_append.1 hb with hb|hb
  ·exact h.own b (by rw[hfoot];simp[hb])
  ·rcases List.mem_append.1 hb with hb|hb
   ·rcases hsub b hb with h1|h1
    ·exact hitown b h1
    ·right;have:=h.fr.size;omega
   ·exact h.own b (by rw[hfoot];simp[hb])
variable{K:List aI}
theorem Gu(hs:List.Sublist K H):List.Sublist (aN K) (aN H):=by
 induction hs with
 |slnil=>exact List.Sublist.refl _
 |cons a _ ih=>exact ih.trans<|List.sublist_append_right _ _
 |cons_cons a _ ih=>exact List.Sublist.append (List.Sublist.refl _) ih
theorem HS.sub(h:HS w0 S H w)(hs:List.Sublist K H):HS w0 S K w:=
 ⟨h.fr,λit hi=>h.all it<|hs.subset hi,h.nodup.sublist<|Gu hs,λb hb=>h.own b<|(Gu hs).subset hb⟩
theorem HS.perm(h:HS w0 S H w)(hp:List.Perm H K):HS w0 S K w:=
 ⟨h.fr,λit hi=>h.all it<|hp.mem_iff.2 hi,(hp.flatMap_right _).nodup_iff.1 h.nodup,λb hb=>h.own b<|(hp.flatMap_right _).mem_iff.2 hb⟩
def A(n:Nat)(env:aT)(w0:World)(S:List Nat)(H:List aI)(G:Act→World→Prop):Prop:= ∀a w,Rep n env a→HS w0 S H w→G a w
section control
variable{P:Program}{Q:Exit→Wy}{n:Nat}{env:aT}{w0:World}{S:E6}{H:List aI}
variable{G:Wy}
theorem ei(env':aT)(hs:V.sub env env')(h:A n env' w0 S H G):A n env w0 S H G:=λa w r s=>h a w (r.sub hs) s
theorem j6(K:List aI)(hp:List.Sublist K H)(h:A n env w0 S K G):A n env w0 S H G:=λa w r s=>h a w r<|s.sub hp
theorem dW(env':aT)(K:List aI)(hs:V.sub env env')(hk:H=K)(h:A n env' w0 S K G):A n env w0 S H G:=by subst hk;exact λa w r s=>h a w (r.sub hs) s
theorem i5(E:Bool)(ht:E=true→A n env w0 S H G)(hf:E=false→A n env w0 S H G):A n env w0 S H G:=by
 cases E
 ·exact hf rfl
 ·exact ht rfl
variable{x y:Code}
theorem aD(h:A n env w0 S H (x.wp P<|Exit.then (y.wp P Q) Q)):A n env w0 S H ((Code.seq x y).wp P Q):=λa w r s=>wp_seq<|h a w r s
theorem ZA(M:Wy)(h:A n env w0 S H (x.wp P<|Exit.then M Q))(h': ∀a w,M a w→y.wp P Q a w):A n env w0 S H ((Code.seq x y).wp P Q):=
 λa w r s=>wp_seq (wp_mono (h a w r s) λe a w hq=>by cases e<;>first|exact h' a w hq|exact hq)
variable{K:Wy}
theorem eF(h:A n env w0 S H K):A n env w0 S H (Exit.then K Q .normal):=h
theorem qO(h:A n env w0 S H (Q<|.exit i)):A n env w0 S H (Exit.then K Q<|.exit i):=h
theorem Gl(h:A n env w0 S H (Q .ret)):A n env w0 S H (Exit.then K Q .ret):=h
variable{id:Nat}
theorem yW(h:A n env w0 S H (Q .normal)):A n env w0 S H (Exit.inBlock id Q .normal):=h
theorem ZE(h:A n env w0 S H (Q .ret)):A n env w0 S H (Exit.inBlock id Q .ret):=h
theorem Bn(h:A n env w0 S H (Q .normal)):A n env w0 S H (Exit.inBlock id Q<|.exit id):=λa w r s=>by simp only[Exit.inBlock,if_true];exact h a w r s
theorem wL(hne:Nat.beq i id=false)(h:A n env w0 S H (Q<|.exit i)):A n env w0 S H (Exit.inBlock id Q<|.exit i):=λa w r s=>by
 simp only[Exit.inBlock,if_neg<|Nat.ne_of_beq_eq_false hne];exact h a w r s
theorem aO(h:A n env w0 S H (Q .normal)):A n env w0 S H (Code.skip.wp P Q):=λa w r s=>wp_skip<|h a w r s
theorem bg(h:A n env w0 S H (Q<|.exit i)):A n env w0 S H ((Code.exit i).wp P Q):=λa w r s=>wp_exit<|h a w r s
theorem aF(h:A n env w0 S H (Q .ret)):A n env w0 S H (Code.ret.wp P Q):=λa w r s=>wp_ret<|h a w r s
theorem aR{c:Code}(h:A n env w0 S H (c.wp P<|Exit.inBlock id Q)):A n env w0 S H ((Code.block id c).wp P Q):=λa w r s=>wp_block<|h a w r s
variable{c:Operand}
theorem aL{E:Bool}(hc:ev env c=some (.bool E))(ht:E=true→A n env w0 S H (x.wp P Q))(hf:E=false→A n env w0 S H (y.wp P Q)):A n env w0 S H ((Code.cond c x y).wp P Q):=
 λa w r s=>wp_cond_split (t:=E) (r.ev hc) (λe=>ht e a w r s)<|λe=>hf e a w r s
theorem iw(hc:ev env c=some (.bool true))(ht:A n env w0 S H (x.wp P Q)):A n env w0 S H ((Code.cond c x y).wp P Q):=
 λa w r s=>wp_cond_true (r.ev hc)<|ht a w r s
theorem oW(hc:ev env c=some (.bool false))(hf:A n env w0 S H (y.wp P Q)):A n env w0 S H ((Code.cond c x y).wp P Q):=
 λa w r s=>wp_cond_false (r.ev hc)<|hf a w r s
theorem aM{l:List Oper}(h:A n env w0 S H (wpList P l.toArray Q l)):A n env w0 S H ((Code.region id l.toArray false).wp P Q):=λa w r s=>wp_region_lit<|h a w r s
theorem eE{ops:Zb}(h:A n env w0 S H (Q .normal)):A n env w0 S H (wpList P ops Q []):=h
variable{σ:Type}
theorem fY{c:Code}(envf:σ→aT)(Hf:σ→List aI)(φ:σ→Prop)(μ:σ→Nat)(x0:σ)(h0:φ x0)
  (hstart:A n env w0 S H (λa w=>Rep n (envf x0) a∧HS w0 S (Hf x0) w))
  (round: ∀x,φ x→A n (envf x) w0 S (Hf x) (c.wp P<|Exit.then (λa w=> ∃y,φ y∧μ y<μ x∧Rep n (envf y) a∧HS w0 S (Hf y) w) Q)):
  A n env w0 S H ((Code.loop c).wp P Q):=by
 intro a0 w00 r0 s0
 intro b k cs
 have key: ∀m x a w,μ x=m→φ x→Rep n (envf x) a→HS w0 S (Hf x) w→
   ∃e a' w',Q e a' w'∧Arrives P (lone (b.at a<|.code c:: .inLoop c::k) cs w) b k cs e a' w':=by
  intro m
  induction m using Nat.strongRecOn with
  |_ m ih=>
   intro x a w hm hx hr hs
   obtain⟨e,a₁,w₁,hq,harr⟩:=round x hx a w hr hs b (.inLoop c::k) cs
   cases e with
   |normal=>
    obtain⟨y,hy,hlt,hr1,hs1⟩:=hq
    obtain⟨e₂,a₂,w₂,hq₂,harr₂⟩:=ih (μ y) (hm▸hlt) y a₁ w₁ rfl hy hr1 hs1
    exact⟨e₂,a₂,w₂,hq₂,.of_steps (Steps.trans harr<|.one step_inLoop) harr₂⟩
   |exit id=>exact⟨_,a₁,w₁,hq,.pass (x:= .inLoop c) rfl (λ_ _=> .inl (by simp)) harr⟩
   |goto l=>exact⟨_,a₁,w₁,hq,.pass (x:= .inLoop c) rfl (λ_ _=> .inl (by simp)) harr⟩
   |ret=>exact⟨_,a₁,w₁,hq,.pass (x:= .inLoop c) rfl (λ_ _=> .inl (by simp)) harr⟩
   |panic ch=>exact⟨_,a₁,w₁,hq,.pass (x:= .inLoop c) rfl (λ_ _=> .inl (by simp)) harr⟩
   |outgrown=>exact⟨_,a₁,w₁,hq,.pass (x:= .inLoop c) rfl (λ_ _=> .inl (by simp)) harr⟩
 obtain⟨hr,hs⟩:=hstart a0 w00 r0 s0
 obtain⟨e,a',w',hq,harr⟩:=key _ x0 a0 w00 rfl h0 hr hs
 exact⟨e,a',w',hq,.of_steps (.one step_loop) harr⟩
theorem mI{env':aT}(hs:V.sub env env'){K:List aI}(hk:List.Sublist K H):A n env w0 S H (λa w=>Rep n env' a∧HS w0 S K w):=λ_ _ r s=>⟨r.sub hs,s.sub hk⟩
variable{envf:σ→aT}{Hf:σ→List aI}{φ:σ→Prop}
theorem bN{μ:σ→Nat}{m:Nat}(y:σ)(hy:φ y)(hlt:μ y<m)(h:A n env w0 S H (λa w=>Rep n (envf y) a∧HS w0 S (Hf y) w)):
 A n env w0 S H (λa w=> ∃y,φ y∧μ y<m∧Rep n (envf y) a∧HS w0 S (Hf y) w):=λa w r s=>⟨y,hy,hlt,h a w r s⟩
theorem Nw(envf:σ→aT)(Hf:σ→List aI)(φ:σ→Prop)
  (h:A n env w0 S H (x.wp P<|Exit.then (λa w=> ∃z,φ z∧Rep n (envf z) a∧HS w0 S (Hf z) w) Q))
  (h': ∀z,φ z→A n (envf z) w0 S (Hf z) (y.wp P Q)):A n env w0 S H ((Code.seq x y).wp P Q):=
 ZA (λa w=> ∃z,φ z∧Rep n (envf z) a∧HS w0 S (Hf z) w) h λa w ⟨z,hz,r,s⟩=>h' z hz a w r s
theorem k7(z:σ)(hz:φ z)(h:A n env w0 S H (λa w=>Rep n (envf z) a∧HS w0 S (Hf z) w)):
 A n env w0 S H (λa w=> ∃z,φ z∧Rep n (envf z) a∧HS w0 S (Hf z) w):=λa w r s=>⟨z,hz,h a w r s⟩
end control
def pU(ops:Array Oper)(env:aT)(o:Oper):Option Bool:=
 match o.guard with
 |none=>some true
 |some (j,b)=>match((ops[j]?).bind (·.dst)).bind (eo env) with
  |some (.bool c)=>some<|c==b
  |some (.tuple _)=>some false
  |_=>none
variable{ops:Zb}{o:Oper}
theorem ic{b:Bool}(r:Rep n env a)(h:pU ops env o=some b):Region.wanted o (yielded ops a.tmps)=b:=by
 unfold pU at h
 unfold Region.wanted
 cases hg:o.guard with
 |none=>rw[hg] at h;simpa using h
 |some p=>
  obtain⟨j,c⟩:=p
  rw[hg] at h
  simp only at h⊢
  cases hd:(ops[j]?).bind (·.dst) with
  |none=>rw[hd] at h;simp at h
  |some d=>
   rw[hd] at h
   simp only[Option.bind_some] at h
   cases hl:eo env d with
   |none=>rw[hl] at h;simp at h
   |some v=>
    rw[hl] at h
    have hget:=r.get d _ hl
    cases v<;>simp at h
    case bool e=>
     have:a.tmps[d]? =some (.bool e):=by
      rw[Array.getD_eq_getD_getElem?] at hget
      cases hx:a.tmps[d]? with
      |none=>rw[hx] at hget;simp[undef] at hget
      |some u=>rw[hx] at hget;simp at hget;rw[hget]
     simp only[yielded,hd,Option.bind_some,this]
     subst h
     cases e<;>cases c<;>rfl
    case tuple vs=>
     have:yielded ops a.tmps j=none:=by
      rw[Array.getD_eq_getD_getElem?] at hget
      simp only[yielded,hd,Option.bind_some]
      cases hx:a.tmps[d]? with
      |none=>rfl
      |some u=>rw[hx] at hget;simp at hget;rw[hget]
     rw[this];simp[h]
def uL(env:aT)(o:Oper):Bool:=o.op.operands.toList.all (λx=>(ev env x).isSome)&&(match o.op with| .select .. =>false|_=>true)
theorem HK(r:Rep n env a)(h:uL env o=true):execOp a.eval o=execOp (yE env) o:=by
 simp only[uL,Bool.and_eq_true] at h
 refine execOp_congr o (λcs b hs=>by rw[hs] at h;simp at h) λx hx=>?_
 have:=List.all_eq_true.1 h.1 x<|by simpa using hx
 obtain⟨v,hv⟩:=Option.isSome_iff_exists.1 this
 rw[r.ev hv];simp[yE,hv]
def ff(ops:Array Oper)(n:Nat)(env:aT)(o:Oper)(d:Option Nat):Bool:=
 (match pU ops env o with|some b=>b|none=>false)&&(match o.dst,d with|some x,some y=>Nat.beq x y&&Nat.blt y n|none,none=>true|_,_=>false)&&uL env o
variable{d:Option Nat}
theorem jf(h:ff ops n env o d=true):pU ops env o=some true∧o.dst=d∧(∀x,d=some x→x<n)∧uL env o=true:=by
 simp only[ff,Bool.and_eq_true] at h
 obtain⟨⟨h1,h2⟩,h3⟩:=h
 refine⟨?_,?_,?_,h3⟩
 ·cases hw:pU ops env o with
  |none=>rw[hw] at h1;simp at h1
  |some b=>rw[hw] at h1;simp only at h1;rw[h1]
 ·cases ho:o.dst<;>cases d<;>rw[ho] at h2<;>simp only[Bool.and_eq_true] at h2<;>first|rfl|(cases h2;done)|skip
  exact congrArg some<|Nat.eq_of_beq_eq_true h2.1
 ·intro x hx
  subst hx
  cases ho:o.dst<;>rw[ho] at h2<;>simp only[Bool.and_eq_true] at h2
  ·cases h2
  ·exact Nat.le_of_ble_eq_true h2.2
def putE(env:aT):Option Nat→Value→aT
 |some d,v=>(d,v)::env
 |none,_=>env
theorem Rep.putE(h:Rep n env a)(hd: ∀x,d=some x→x<n):Rep n (putE env d v) (a.put d v):=by
 cases d with
 |none=>exact h
 |some d=>exact h.put<|hd d rfl
def Qf:Exit→Act→World→Prop:=λ_ _ _=>False
def cz(P:Program)(ops:Array Oper)(o:Oper)(K:Act→World→Prop)(a:Act)(w:World):Prop:=
 if Region.wanted o (yielded ops a.tmps) then o.wp P a w K Qf else K (a.put o.dst undef) w
variable{P:Program}{K K':Wy}
theorem Oper.wp_imp{Q:Exit→Wy}(h:o.wp P a w K Qf)(hk: ∀a' w',K a' w'→K' a' w'):o.wp P a w K' Q:=by
 unfold Oper.wp at*
 generalize(execOp a.eval o).run P w=r at*
 cases r with
 |ok nx w'=>
  cases nx<;>simp only[Oper.upon] at h⊢ <;>first|exact hk _ _ h|skip
  ·exact h.mono λe w'' he=>by
    cases e with
    |returned u=>exact hk _ _ he
    |panicked c=>exact he.elim
    |outgrown=>obtain⟨_,_,hf⟩:=he;exact hf.elim
  ·exact h.mono λv w'' he=>hk _ _ he
 |halt x w'=>cases x<;>simp only[Oper.upon] at h⊢ <;>exact h.elim
def wT(P:Program)(w:World)(v:Value):Result Next→Prop
 | .ok (.value u) w'=>u=v∧Fr [] w w'
 | .ok .skip w'=>v=undef∧Fr [] w w'
 | .ok (.enter f args) w'=>Calls P f args w' λe w''=>e= .returned v∧Fr [] w w''
 |_=>False
def Qt(P:Program)(n:Nat)(env:aT)(w0:World)(S:List Nat)(H:List aI)(o:Oper)(v:Value):Prop:=
 ∀a w,Rep n env a→HS w0 S H w→wT P w v ((execOp a.eval o).run P w)
theorem CO(h:wT P w v ((execOp a.eval o).run P w))(hk: ∀w',Fr [] w w'→K (a.put o.dst v) w'):o.wp P a w K Qf:=by
 unfold Oper.wp
 generalize(execOp a.eval o).run P w=r at*
 cases r with
 |ok nx w'=>
  cases nx<;>simp only[wT] at h<;>simp only[Oper.upon]
  case value u=>obtain⟨rfl,hf⟩:=h;exact hk _ hf
  case skip=>obtain⟨rfl,hf⟩:=h;exact hk _ hf
  case enter f args=>exact h.mono λe w'' ⟨he,hf⟩=>by subst he;exact hk _ hf
 |halt x w'=>exact h.elim
section single
variable{P:Program}{Q:Exit→Wy}{n:Nat}{env:aT}{w0:World}{S:E6}{H:List aI}{ops:Zb}{rest:List Oper}{o:Oper}{K:Wy}
theorem aG(h:A n env w0 S H (cz P ops o<|wpList P ops Q rest)):A n env w0 S H (wpList P ops Q<|o::rest):=by
 intro a w r s
 have h1:=h a w r s
 unfold cz at h1
 show if Region.wanted o (yielded ops a.tmps) then _ else _
 split
 ·rename_i hw
  rw[if_pos hw] at h1
  exact .inl<|Oper.wp_imp h1 λ_ _ h=>h
 ·rename_i hw
  rw[if_neg hw] at h1
  exact h1
theorem Bj(d:Option Nat)(v:Value)(hok:ff ops n env o d=true)(hq:Qt P n env w0 S H o v)(h:A n (putE env d v) w0 S H K):A n env w0 S H (cz P ops o K):=by
 intro a w r s
 obtain⟨h1,h2,h3,_⟩:=jf hok
 unfold cz
 rw[if_pos<|ic r h1]
 refine CO (hq a w r s) λw' hf=>?_
 rw[h2]
 exact h _ w' (r.putE h3)<|s.kept hf
theorem gr(h: ∀a w,Rep n env a→HS w0 S H w→(execOp a.eval o).run P w= .ok (.value v) w):Qt P n env w0 S H o v:=by
 intro a w r s
 rw[h a w r s]
 exact⟨rfl,Fr.refl _ _⟩
theorem jM(hok:uL env o=true)(hv: ∀w,(execOp (yE env) o).run P w= .ok (.value v) w):Qt P n env w0 S H o v:=
 gr λa w r _=>by rw[HK r hok];exact hv w
theorem jC{v':Value}(e:v=v')(h:Qt P n env w0 S H o v):Qt P n env w0 S H o v':=e▸h
variable{x:Operand}
theorem JG(ho:o.op= .move x)(hx:ev env x=some v):Qt P n env w0 S H o v:=gr λa w r _=>by simp[execOp,ho,r.ev hx]
theorem PM(ho:o.op= .assign x)(hx:ev env x=some v):Qt P n env w0 S H o v:=gr λa w r _=>by simp[execOp,ho,r.ev hx]
def tP(P:Program)(t:TypeId):Bool:=match P.underlying t with|some (.struct _)|some (.array _ _)=>false|some _=>true|none=>false
def np(P:Program)(t:TypeId):Option Nat:=match P.underlying t with|some (.struct _)|some (.array _ _)=>(P.info? t).map (·.size)|_=>none
variable{t:TypeId}
theorem Gq(h:tP P t=true)(w:World):(isAgg t).run P w= .ok false w:=by
 unfold tP at h
 cases hu:P.underlying t with
 |none=>rw[hu] at h;simp at h
 |some d=>
  rw[hu] at h
  cases d<;>simp at h<;>simp[isAgg,run_underlying hu]
theorem Gt{k:Nat}(h:np P t=some k)(w:World):(isAgg t).run P w= .ok true w∧(sizeOf t).run P w= .ok k w:=by
 unfold np at h
 cases hu:P.underlying t with
 |none=>rw[hu] at h;simp at h
 |some d=>
  rw[hu] at h
  cases d<;>simp at h<;>(obtain⟨i,hi,rfl⟩:=h;exact⟨by simp[isAgg,run_underlying hu],by simp[sizeOf,typeInfo,hi]⟩)
variable{p:Addr}
theorem OP(h:tP P t=true)(hc:w.cell? p=some v):(loadVar t p).run P w= .ok v w:=by
 simp[loadVar,Gq h,hc]
variable{vs:Za}
theorem Gv(h:np P t=some vs.length)(hc: ∀j u,vs[j]? =some u→w.cell? (p.add j)=some u):(loadVar t p).run P w= .ok (.agg vs.toArray) w:=by
 obtain⟨h1,h2⟩:=Gt h w
 simp[loadVar,h1,h2,run_loadCells_list (P:=P) w p vs hc]
def mR(w0:World)(S:List Nat)(H:List aI)(p:Addr)(vs:List Value):Prop:= ∀w,HS w0 S H w→ ∀j u,vs[j]? =some u→w.cell? (p.add j)=some u
variable{b off:Nat}{cs:Za}
theorem jL(hi:H[i]? =some (aA b cs t))(hv:(cs.drop off).take vs.length=vs):mR w0 S H ⟨b,off,none⟩ vs:=by
 intro w s j u hu
 have hh:w.heap[b]? =some (.cells cs.toArray t (0,0)):=s.mem hi
 have hadd:(⟨b,off,none⟩:Addr).add j=⟨b,off+j,none⟩:=by unfold Addr.add;split<;>simp_all
 rw[hadd,cell_of_row w b (off+j) cs.toArray t (0,0) hh]
 rw[←hv,List.getElem?_take] at hu
 split at hu
 ·rw[List.getElem?_drop] at hu;simpa using hu
 ·cases hu
theorem PN(h: ∀j u,vs[j]? =some u→w0.cell? (p.add j)=some u)(hS:p.block∉S):mR w0 S H p vs:=by
 intro w s j u hu
 have hc:=h j u hu
 have hb:(p.add j).block=p.block:=by unfold Addr.add;split<;>rfl
 have hlt:=World.block_lt_of_cell? w0 (p.add j) hc
 rw[←hc]
 exact World.cell?_of_block<|s.fr.block _ hlt (by rw[hb];exact hS)
theorem nA(ho:o.op= .load t x)(hx:ev env x=some (.pointer<|some p))(ht:tP P t=true)(hr:mR w0 S H p [v]):Qt P n env w0 S H o v:=
 gr λa w r s=>by
  have hc:w.cell? p=some v:=by have:=hr w s 0 v rfl;simpa[Addr.add] using this
  simp[execOp,ho,Instr.loadAt,r.ev hx,Instr.sureAddr,OP ht hc]
theorem yt(ho:o.op= .load t x)(hx:ev env x=some (.pointer<|some p))(ht:np P t=some vs.length)(hr:mR w0 S H p vs):Qt P n env w0 S H o (.agg vs.toArray):=
 gr λa w r s=>by
  simp[execOp,ho,Instr.loadAt,r.ev hx,Instr.sureAddr,Gv ht<|hr w s]
theorem oZ(b o k:Nat):(⟨b,o,none⟩:Addr).add k=⟨b,o+k,none⟩:=by unfold Addr.add;split<;>simp_all
variable{y:Operand}{k:IntKind}{e:Int}
theorem lJ{el:TypeId}{len cap sz:Nat}(ho:o.op= .indexAddr t x y)(hx:ev env x=some (.slice (some ⟨b,off,none⟩) len cap))(hy:ev env y=some (.int k e))
  (ht:P.underlying t=some (.slice el))(hs:(P.info? el).map (·.size)=some sz)(hi:0≤e∧e<(len:Int)):Qt P n env w0 S H o (.pointer<|some ⟨b,off+e.toNat*sz,none⟩):=
 gr λa w r _=>by
  simp only[Option.map_eq_some_iff] at hs
  obtain⟨i,hinf,rfl⟩:=hs
  simp[execOp,ho,r.ev hx,r.ev hy,Instr.indexAt,asIntOf,run_underlying ht,sizeOf,typeInfo,hinf,hi,oZ]
variable{ty:TypeId}
theorem UB{f:Int}(ho:o.op= .binOp .rem t x y ty)(hx:ev env x=some (.int k e))(hy:ev env y=some (.int k f))(hz:f≠0):Qt P n env w0 S H o (.int k<|e.tmod f):=
 gr λa w r _=>by simp[execOp,ho,r.ev hx,r.ev hy,eqGuard,binOp,Op.intDiv,hz]
def ag(op:BinOp)(k:IntKind)(x y:Int):Int:=
 match op with
 | .and=>k.wrap (BitVec.ofInt k.bits x&&&BitVec.ofInt k.bits y).toNat
 | .or=>k.wrap (BitVec.ofInt k.bits x|||BitVec.ofInt k.bits y).toNat
 | .xor=>k.wrap (BitVec.ofInt k.bits x^^^BitVec.ofInt k.bits y).toNat
 | .andNot=>k.wrap (BitVec.ofInt k.bits x&&& ~~~(BitVec.ofInt k.bits y)).toNat
 |_=>0
theorem nB(h: -9223372036854775808≤e∧e<9223372036854775808):IntKind.i64.wrap e=e:=by
 simp[IntKind.wrap,IntKind.bits,IntKind.signed];split<;>omega
theorem wrap_u64(h:0≤e∧e<18446744073709551616):IntKind.u64.wrap e=e:=by
 simp[IntKind.wrap,IntKind.bits,IntKind.signed];omega
theorem QE(h:0≤e∧e<65536):IntKind.u16.wrap e=e:=by
 simp[IntKind.wrap,IntKind.bits,IntKind.signed];omega
theorem Yy(d:Nat)(cs:Za)(hok:ff ops n env o (some d)=true)(ho:o.op= .box t x)(hx:ev env x=some u)(hu:u.cells=cs.toArray)
  (H':Nat→List aI)(hH: ∀b,H++[aA b cs t]=H' b)(h: ∀b,A n ((d,.pointer<|some ⟨b,0,none⟩)::env) w0 S (H' b) K):A n env w0 S H (cz P ops o K):=by
 intro a w r s
 obtain⟨h1,h2,h3,h4⟩:=jf hok
 unfold cz
 rw[if_pos<|ic r h1]
 have hrun:(execOp a.eval o).run P w= .ok (.value<|.pointer<|some ⟨w.heap.size,0,none⟩) (w.alloc<|.cells cs.toArray t):=by
  simp[execOp,ho,r.ev hx,Instr.box,newVar,newRow,newObj,Sem.run,hu,World.alloc_eq]
 unfold Oper.wp
 rw[hrun]
 simp only[Oper.upon,h2]
 refine h w.heap.size _ _ (r.put<|h3 d rfl) ?_
 rw[←hH]
 exact(s.add (Fr.alloc _ _ _) (heap_alloc_new w _) (by simp[aA])<|by simp[aA])
theorem nV(d:Nat)(cs:Za)(hok:ff ops n env o (some d)=true)(ho:o.op= .alloc t)(hz:((P.info? t).bind (·.zero)).map (·.cells)=some cs.toArray)
  (H':Nat→List aI)(hH: ∀b,H++[aA b cs t]=H' b)(h: ∀b,A n ((d,.pointer<|some ⟨b,0,none⟩)::env) w0 S (H' b) K):A n env w0 S H (cz P ops o K):=by
 intro a w r s
 obtain⟨h1,h2,h3,h4⟩:=jf hok
 unfold cz
 rw[if_pos<|ic r h1]
 have hrun:(execOp a.eval o).run P w= .ok (.value<|.pointer<|some ⟨w.heap.size,0,none⟩) (w.alloc<|.cells cs.toArray t):=by
  simp only[Option.map_eq_some_iff,Option.bind_eq_some_iff] at hz
  obtain⟨z,⟨i,hi,hz⟩,hc⟩:=hz
  simp[execOp,ho,Instr.alloc,zeroValue,typeInfo,hi,hz,newVar,newRow,newObj,Sem.run,hc,World.alloc_eq]
 unfold Oper.wp
 rw[hrun]
 simp only[Oper.upon,h2]
 refine h w.heap.size _ _ (r.put<|h3 d rfl) ?_
 rw[←hH]
 exact(s.add (Fr.alloc _ _ _) (heap_alloc_new w _) (by simp[aA])<|by simp[aA])
theorem wV(w:World)(g:Nat)(cs:Array Value):Fr [g] w (w.setRow g cs):=by
 refine⟨rfl,rfl,rfl,by simp[World.setRow],λk _ hk=>?_⟩
 simp only[List.mem_singleton] at hk
 simp only[World.setRow,Array.getElem?_modify]
 rw[if_neg<|λe=>hk e.symm]
theorem wW(w:World)(g:Nat)(cs cO:Array Value)(t:TypeId)(hg:w.heap[g]? =some (.cells cO t (0,0))):(w.setRow g cs).heap[g]? =some (.cells cs t (0,0)):=by
 simp[World.setRow,Array.getElem?_modify,hg]
theorem oV(i:Nat)(H':List aI)(hok:ff ops n env o none=true)(ho:o.op= .store t x y)(hx:ev env x=some (.pointer<|some ⟨b,off,none⟩))
  (hy:ev env y=some u)(hu:u.cells=vs.toArray)(hsz:(P.info? t).map (·.size)=some vs.length)(h1:vs.all Value.oneCell'=true)(hi:H[i]? =some (aA b cs ty))(hin:Nat.ble (off+vs.length) cs.length=true)
  (hH:H.set i (aA b (cs.take off++vs++cs.drop (off+vs.length)) ty)=H')
  (h:A n env w0 S H' K):A n env w0 S H (cz P ops o K):=by
 intro a w r s
 obtain⟨h1',h2,h3,h4⟩:=jf hok
 unfold cz
 rw[if_pos<|ic r h1']
 have hh:w.heap[b]? =some (.cells cs.toArray ty (0,0)):=s.mem hi
 have hst:=run_storeCells_at P b off ty vs 0 cs.toArray w hh (by simpa using Nat.le_of_ble_eq_true hin)<|λv hv=>List.all_eq_true.1 h1 v hv
 simp only[Nat.add_zero] at hst
 have hlen:u.cells.size=vs.length:=by rw[hu];simp
 simp only[Option.map_eq_some_iff] at hsz
 obtain⟨inf,hinf,hsz⟩:=hsz
 have hrun:(execOp a.eval o).run P w= .ok .skip (w.setRow b (cs.take off++vs++cs.drop (off+vs.length)).toArray):=by
  simp only[execOp,ho,Instr.storeAt,r.ev hx,r.ev hy,Instr.sureAddr,storeVar,sizeOf,typeInfo,Sem.run_bind,run_program,Sem.run_pure,Result.andThen_ok,hinf,hsz,hlen]
  simp[hu,hst]
 unfold Oper.wp
 rw[hrun]
 simp only[Oper.upon,h2]
 refine h _ _ r ?_
 rw[←hH]
 exact s.turn hi (wV _ _ _) (wW w b _ _ ty hh) (by simp[aA])<|by simp[aA]
end single
def nE(P:Program)(f:FuncId):Bool:=match P.funcs[f]? with|some fn=>fn.name != "runtime.NumGoroutine" &&fn.body.isSome|none=>false
section calls
variable{P:Program}{Q:Exit→Wy}{n:Nat}{env:aT}{w0:World}{S:E6}{H:List aI}{ops:Zb}{rest:List Oper}{o:Oper}{K:Wy}
variable{f:FuncId}{xs:Array Operand}
theorem ZF{ats:Array TypeId}{ρ:Operand→Value}(hf:nE P f=true)(ho:o.op= .call {callee:= .value (.func f),args:=xs,argTypes:=ats})(hfn:ρ (.func f)= .func (.func f) #[] #[]):
  (execOp ρ o).run P w= .ok (.enter f<|xs.map ρ) w:=by
 unfold nE at hf
 cases hp:P.funcs[f]? with
 |none=>rw[hp] at hf;simp at hf
 |some fn=>
  rw[hp] at hf
  simp only[Bool.and_eq_true,bne_iff_ne,ne_eq] at hf
  have hn: ¬fn.body=none:=by cases hb:fn.body<;>simp_all
  simp[execOp,ho,resolve,hfn,Deferred.ofValue,invoke,callFunc,hp,hf.1,hn]
variable{args:Za}
theorem QF(r:Rep n env a)(h:xs.toList.map (ev env)=args.map some):xs.map a.eval=args.toArray:=by
 apply Array.ext'
 simp only[Array.toList_map]
 obtain⟨l⟩:=xs
 simp only at h⊢
 induction l generalizing args with
 |nil=>cases args<;>simp_all
 |cons y l ih=>
  cases args with
  |nil=>simp at h
  |cons v args=>
   simp only[List.map_cons,List.cons.injEq] at h
   simp[r.ev h.1,ih h.2]
variable{fn:Func}{R:Ending→World→Prop}
theorem IN{c:Code}(env:aT)(S:E6)(H:List aI)
  (hf:P.funcs[f]? =some fn)(hb:fn.body=some c)(hn:(Nat.ble args.length fn.ntmps)=true)(he: ∀i v,eo env i=some v→args[i]? =some v)(hs:HS w S H w)
  (h:A fn.ntmps env w S H (c.wp P<|bodyPost P fn R)):Calls P f args.toArray w R:=by
 refine calls_of_wp hf hb<|h _ _ ⟨?_,rfl,λi v hv=>?_⟩ hs
 ·have:=Nat.le_of_ble_eq_true hn
  simp;omega
 ·have hi:=he i v hv
  have hlt:i<args.length:=(Zf.1 hi).1
  simp only[Array.getD_eq_getD_getElem?]
  rw[Array.getElem?_append_left<|by simpa using hlt]
  simp[hi]
def uO(args:List Value):aT:=(List.range args.length).zip args
theorem IP: ∀(args:Za)(k i:Nat)(v:Value),eo ((List.range' k args.length).zip args) i=some v→k≤i∧args[i-k]? =some v
 |[],_,_,_,h=>by simp[eo] at h
 |a::args,k,i,v,h=>by
  simp only[List.length_cons,List.range'_succ,List.zip_cons_cons] at h
  rcases tO h with⟨rfl,rfl⟩|⟨hne,hl⟩
  ·simp
  ·have⟨h1,h2⟩:=IP args (k+1) i v hl
   refine⟨by omega,?_⟩
   rw[show i-k=(i-(k+1))+1 from by omega];simpa using h2
theorem Cc(args:Za)(i:Nat)(v:Value)(h:eo (uO args) i=some v):args[i]? =some v:=by
 unfold uO at h
 rw[List.range_eq_range'] at h
 simpa using(IP args 0 i v h).2
def RV(P:Program)(w:World)(a:Act):ResultVar→Value→Prop
 | .tmp t,v=>a.tmps.getD t undef=v
 | .cell x t,v=> ∃p,a.tmps.getD x undef= .pointer (some p)∧(loadVar t p).run P w= .ok v w
def qG(P:Program)(w:World)(a:Act):List ResultVar→List Value→Prop
 |[],[]=>True
 |r::l,v::vs=>RV P w a r v∧qG P w a l vs
 |_,_=>False
def B2(a:Act):ResultVar→Sem Value
 | .tmp t=>Pure.pure<|a.tmps.getD t undef
 | .cell x t=>do loadVar t (←asAddr (a.tmps.getD x undef))
theorem Gw: ∀(l:List ResultVar)(vs:Za),qG P w a l vs→(l.mapM<|B2 a).run P w= .ok vs w
 |[],[],_=>rfl
 |[],_::_,h=>h.elim
 |_::_,[],h=>h.elim
 |r::l,v::vs,⟨hr,hl⟩=>by
  have ih:=Gw l vs hl
  simp only[List.mapM_cons,Sem.run_bind]
  cases r with
  |tmp t=>simp only[RV] at hr;simp[B2,hr,ih]
  |cell x t=>
   obtain⟨p,hp,hld⟩:=hr
   simp[B2,hp,asAddr,hld,ih]
def mS:List Value→Value
 |[v]=>v
 |vs=> .tuple vs.toArray
variable{vs:Za}
theorem HC(h:qG P w a fn.results.toList vs):
  (results fn a.tmps).run P w= .ok (mS vs) w:=by
 have h1:=Gw _ _ h
 have h2:(fn.results.mapM<|B2 a).run P w= .ok vs.toArray w:=by
  rw[Array.mapM_eq_mapM_toList]
  simp[h1]
 unfold results
 rw[Sem.run_bind]
 refine Eq.trans (congrArg (λx=>Result.andThen x _) h2) ?_
 match vs with
 |[]=>simp[mS]
 |[v]=>simp[mS]
 |_::_::_=>simp[mS]
theorem cw{t:Tmp}(r:Rep n env a)(h:eo env t=some v):RV P w a (.tmp t) v:=r.get t v h
theorem tQ{x:Tmp}{t:TypeId}{p:Addr}(r:Rep n env a)(s:HS w0 S H w)(h:eo env x=some (.pointer<|some p))(ht:np P t=some vs.length)(hr:mR w0 S H p vs):RV P w a (.cell x t) (.agg vs.toArray):=
 ⟨p,r.get x _ h,Gv ht<|hr w s⟩
theorem tH(vs:Za)(hv: ∀a w,Rep n env a→HS w0 S H w→qG P w a fn.results.toList vs)
  (h: ∀w,HS w0 S H w→R (.returned<|mS vs) w):A n env w0 S H (bodyPost P fn R .ret):=
 λa w r s=>⟨r.nod,_,HC<|hv a w r s,h w s⟩
theorem u0(vs:Za)(hv: ∀a w,Rep n env a→HS w0 S H w→qG P w a fn.results.toList vs)
  (h: ∀w,HS w0 S H w→R (.returned<|mS vs) w):A n env w0 S H (bodyPost P fn R .normal):=
 λa w r s=>⟨r.nod,_,HC<|hv a w r s,h w s⟩
end calls
def U(P:Program)(ops:Array Oper)(K:Act→World→Prop)(S:World→Prop):Nat→Array Bool→Act→World→Prop
 |0,listed,a,w=>Region.ready .any ops listed=[]∧ ∀w',Fr [] w w'→K a w'
 |f+1,listed,a,w=>(Region.ready .any ops listed=[]→ ∀w',Fr [] w w'→K a w')∧
  ∀i∈Region.ready .any ops listed,∀w',Fr [] w w'→wpOp P ops Qf i (λa' w''=>S w''∧U P ops K S f (listed.setIfInBounds i true) a' w'') a w'
section
variable{P:Program}{ops:Zb}{K:Wy}{S:World→Prop}{Q:Exit→Wy}
theorem U.up: ∀{f:Nat}{listed:Array Bool}{a:Act}{w w':World},U P ops K S f listed a w→Fr [] w w'→U P ops K S f listed a w'
 |0,_,_,_,_,h,hf=>⟨h.1,λw'' hf'=>h.2 w''<|hf.trans hf'⟩
 |_+1,_,_,_,_,h,hf=>⟨λh0 w'' hf'=>h.1 h0 w''<|hf.trans hf',λi hi w'' hf'=>h.2 i hi w''<|hf.trans hf'⟩
theorem tW(h:wpOp P ops Qf i K a w)(hk: ∀a w,K a w→K' a w):wpOp P ops Q i K' a w:=by
 unfold wpOp at*
 split
 ·rename_i ho;simp only[ho] at h;exact hk _ _ h
 ·rename_i o ho
  simp only[ho] at h
  split
  ·rename_i hw
   simp only[hw,if_true] at h
   rcases h with h|⟨_,_,_,hf⟩
   ·exact .inl<|Oper.wp_imp h hk
   ·exact hf.elim
  ·rename_i hw;simp only[hw] at h;exact hk _ _ h
theorem U.sound: ∀(f:Nat)(listed:Array Bool)(a:Act)(w:World),U P ops (Q .normal) S f listed a w→wpAny P .any ops Q f listed a w
 |0,_,_,_,h=>⟨h.1,h.2 _<|Fr.refl _ _⟩
 |f+1,_,_,w,h=>⟨λh0=>h.1 h0 _<|Fr.refl _ _,λi hi=>tW (h.2 i hi w<|Fr.refl _ _) λa' w' h'=>U.sound f _ a' w' h'.2⟩
def Quiet(P:Program)(ops:Array Oper)(S:World→Prop)(o:Oper)(v:Value)(a:Act):Prop:=
 (Region.wanted o (yielded ops a.tmps)=true∧ ∀w,S w→wT P w v ((execOp a.eval o).run P w))∨(Region.wanted o (yielded ops a.tmps)=false∧v=undef)
theorem Quiet.of_same{a':Act}(hy:Quiet P ops S o v a)(he:execOp a'.eval o=execOp a.eval o)(hw:Region.wanted o (yielded ops a'.tmps)=Region.wanted o (yielded ops a.tmps)):Quiet P ops S o v a':=by
 unfold Quiet at*
 rw[he,hw]
 exact hy
theorem Quiet.wpOp(hi:ops[i]? =some o)(hy:Quiet P ops S o v a)(hS:S w)(h: ∀w',Fr [] w w'→K (a.put o.dst v) w'):wpOp P ops Qf i K a w:=by
 unfold Go.wpOp
 simp only[hi]
 rcases hy with⟨hw,hv⟩|⟨hw,rfl⟩
 ·simp only[hw,if_true];exact .inl<|CO (hv w hS) h
 ·simp only[hw,Bool.false_eq_true,if_false];exact h w<|Fr.refl _ _
theorem ye{j:Nat}{oi oj:Oper}(hj:ops[j]? =some oj)(hap:oi.apart ops oj=true)(hsi: ∀cs b,oi.op≠ .select cs b)(hsj: ∀cs b,oj.op≠ .select cs b)
  {a:Act}{w:World}(hy:Quiet P ops S oi v a)(h:wpOp P ops Qf j K (a.put oi.dst v) w):wpOp P ops Qf j (λa' w'=>Quiet P ops S oi v a'∧K (a'.put oi.dst v) w') a w:=by
 obtain⟨h1,h2,h3⟩:=Oper.apart_spec hap
 have keep: ∀(a:Act),Quiet P ops S oi v a→ ∀u,Quiet P ops S oi v (a.put oj.dst u):=λa hy u=>hy.of_same (execOp_put oi hsi a oj.dst u h3)<|wanted_put oi a oj.dst u h3
 have keepD: ∀d,Quiet P ops S oi v {a with defers:=d::a.defers}:=λd=>hy.of_same rfl rfl
 unfold wpOp at*
 simp only[hj] at*
 rw[wanted_put oj a oi.dst v h1] at h
 split
 ·rename_i hw
  simp only[hw,if_true] at h
  rcases h with h|⟨_,_,_,hf⟩
  case inr=>exact hf.elim
  refine .inl ?_
  unfold Oper.wp at*
  rw[execOp_put oj hsj a oi.dst v h1] at h
  generalize(execOp a.eval oj).run P w=r at*
  cases r with
  |ok nx w'=>
   cases nx<;>simp only[Oper.upon] at h⊢
   case value u=>exact⟨keep a hy u,by rw[←Act.put_comm a v u h2];exact h⟩
   case skip=>exact⟨keep a hy _,by rw[←Act.put_comm a v undef h2];exact h⟩
   case defer d=>
    refine⟨keep _ (keepD d) _,?_⟩
    rw[←Act.put_comm _ v undef h2,←Act.put_defers]
    exact h
   case enter f args=>
    refine Calls.mono h λe w'' he=>?_
    cases e with
    |returned u=>exact⟨keep a hy u,by rw[←Act.put_comm a v u h2];exact he⟩
    |panicked c=>exact he.elim
    |outgrown=>obtain⟨_,_,hf⟩:=he;exact hf.elim
   case row row args=>exact Rows.mono h λu w'' he=>⟨keep a hy u,by rw[←Act.put_comm a v u h2];exact he⟩
  |halt x w'=>cases x<;>simp only[Oper.upon] at h⊢ <;>exact h.elim
 ·rename_i hw
  simp only[hw] at h
  exact⟨keep a hy _,by rw[←Act.put_comm a v undef h2];exact h⟩
theorem U.first{oi:Oper}(hi:ops[i]? =some oi)(hsel: ∀(j:Nat)(o:Oper)cs b,ops[j]? =some o→o.op≠ .select cs b)(hcl: ∀w w',S w→Fr [] w w'→S w'):
  ∀(f:Nat)(listed:Array Bool)(a:Act)(w:World),
   (∀j oj,ops[j]? =some oj→j≠i→listed.getD j true=false→(∀e∈oj.after,Region.binds .any e=true→e.on≠i)→oi.apart ops oj=true)→
   i∈Region.ready .any ops listed→Quiet P ops S oi v a→S w→U P ops K S f (listed.setIfInBounds i true) (a.put oi.dst v) w→U P ops K S (f+1) listed a w:=by
 intro f
 induction f with
 |zero=>
  intro listed a w _ hr hy hS H
  refine⟨λh=>(by rw[h] at hr;cases hr),λj hj w' hf=>?_⟩
  by_cases hji:j=i
  ·subst hji;exact hy.wpOp hi (hcl _ _ hS hf) λw'' hf'=>⟨hcl _ _ (hcl _ _ hS hf) hf',H.up<|hf.trans hf'⟩
  ·have:=ready_mono hj hji
   rw[H.1] at this
   cases this
 |succ f ih=>
  intro listed a w hfree hr hy hS H
  refine⟨λh=>(by rw[h] at hr;cases hr),λj hj w' hf=>?_⟩
  have hS':=hcl _ _ hS hf
  by_cases hji:j=i
  ·subst hji;exact hy.wpOp hi hS' λw'' hf'=>⟨hcl _ _ hS' hf',H.up<|hf.trans hf'⟩
  ·have h1:=H.2 j (ready_mono hj hji) w' hf
   obtain⟨hjun,oj,hoj,hall⟩:=mem_ready.1 hj
   have hnot: ∀e∈oj.after,Region.binds .any e=true→e.on≠i:=λe he hb heq=>by
    have h1:=hall e he hb
    have h0:=(mem_ready.1 hr).1
    rw[heq] at h1
    rcases Nat.lt_or_ge i listed.size with h'|h'
    ·simp[h'] at h0 h1;rw[h0] at h1;cases h1
    ·simp[Array.getElem?_eq_none h'] at h1
   have h2:=ye hoj (hfree j oj hoj hji hjun hnot) (λcs b=>hsel i oi cs b hi) (λcs b=>hsel j oj cs b hoj) hy h1
   have hfree': ∀k ok,ops[k]? =some ok→k≠i→(listed.setIfInBounds j true).getD k true=false→(∀e∈ok.after,Region.binds .any e=true→e.on≠i)→oi.apart ops ok=true:=λk ok hk hki hun hno=>by
    refine hfree k ok hk hki ?_ hno
    by_cases hjk:j=k
    ·subst hjk;exact hjun
    ·rw[getD_set_ne true hjk] at hun;exact hun
   refine tW h2 λa' w'' h3=>⟨h3.2.1,ih (listed.setIfInBounds j true) a' w'' hfree' (ready_mono hr<|Ne.symm hji) h3.1 h3.2.1 ?_⟩
   rw[Array.setIfInBounds_comm _ _ hji]
   exact h3.2.2
end
def kQ(ops:Array Oper)(listed:Array Bool)(i:Nat):Bool:=Region.free .any ops listed i&&(Region.ready .any ops listed).contains i&&Region.noSelect ops
section
variable{P:Program}{Q:Exit→Wy}{n:Nat}{env:aT}{w0:World}{S:E6}{H Hs:List aI}{l:List Oper}{ops:Zb}{K:Wy}{f:Nat}{listed:Array Bool}
theorem OA{id:Nat}(Hs:List aI)(hm:P.follows .mixedOrders=true)(h:A n env w0 S H (U P l.toArray (Q .normal) (HS w0 S Hs) l.length<|Array.replicate l.length false)):
  A n env w0 S H ((Code.region id l.toArray true).wp P Q):=λa w r s=>
 wp_region_any hm (U.sound _ _ _ _<|by simpa using h a _ r (s.kept<|Fr.drew _ _))
theorem mm(i:Nat)(d:Option Nat)(v:Value)(hi:ops[i]? =some o)(ht:kQ ops listed i=true)(hok:ff ops n env o d=true)(hs:List.Sublist Hs H)(hq:Qt P n env w0 S Hs o v)
  (h:A n (putE env d v) w0 S H (U P ops K (HS w0 S Hs) f<|listed.setIfInBounds i true)):A n env w0 S H (U P ops K (HS w0 S Hs) (f+1) listed):=by
 intro a w r s
 obtain⟨h1,h2,h3,_⟩:=jf hok
 simp only[kQ,Bool.and_eq_true] at ht
 refine U.first hi (Region.noSelect_spec ht.2) (λw w' hw hf=>hw.kept hf) f listed a w (Region.free_spec hi ht.1.1) (by simpa using ht.1.2) (.inl ⟨ic r h1,λw' s'=>hq a w' r s'⟩) (s.sub hs) ?_
 rw[h2]
 exact h _ w (r.putE h3) s
theorem ej(hs:List.Sublist Hs H)(h:A n env w0 S H K):A n env w0 S H (λa w=>HS w0 S Hs w∧K a w):=λa w r s=>⟨s.sub hs,h a w r s⟩
theorem OD(hr:Region.ready .any ops listed=[])(h:A n env w0 S H K):A n env w0 S H (U P ops K (HS w0 S Hs) f listed):=by
 intro a w r s
 cases f with
 |zero=>exact⟨hr,λw' hf=>h a w' r<|s.kept hf⟩
 |succ f=>exact⟨λ_ w' hf=>h a w' r<|s.kept hf,by rw[hr];simp⟩
theorem Nx{c:Code}{σ:Type}(envf:σ→aT)(Hf:σ→List aI)(φ:σ→Prop)(h:A n env w0 S H (c.wp P (λe a w=>match e with| .normal=> ∃z,φ z∧Rep n (envf z) a∧HS w0 S (Hf z) w|_=>Q e a w)))
  (h': ∀z,φ z→A n (envf z) w0 S (Hf z) (Q .normal)):A n env w0 S H (c.wp P Q):=
 λa w r s=>wp_mono (h a w r s) λe a w hq=>by
  cases e<;>first|exact hq|skip
  obtain⟨z,hz,r,s⟩:=hq
  exact h' z hz a w r s
end
def pg(P:Program)(t:TypeId)(cs:Array Value)(off:Nat):Option Value:=
 match np P t with
 |some k=>some<|.agg<|cs.extract off<|off+k
 |none=>if tP P t then cs[off]? else none
def vm(eq:TypeId→Value→Value→Option Bool)(P:Program)(xs ys:Array Value):List Field→Option Bool
 |[]=>some true
 |f::fs=>if f.name= "_" then none else
  match pg P f.type xs f.offset,pg P f.type ys f.offset with
  |some a,some b=>match eq f.type a b with
   |some r=>match fs with
    |[]=>some r
    |g::gs=>match vm eq P xs ys (g::gs) with
     |some q=>some<|r&&q
     |none=>none
   |none=>none
  |_,_=>none
def vn(eq:TypeId→Value→Value→Option Bool)(P:Program)(e:TypeId)(k:Nat)(xs ys:Array Value):Nat→Nat→Option Bool
 |0,_=>some true
 |n+1,i=>
  match pg P e xs (i*k),pg P e ys (i*k) with
  |some a,some b=>match eq e a b with
   |some r=>match n with
    |0=>some r
    |m+1=>match vn eq P e k xs ys (m+1) (i+1) with
     |some q=>some<|r&&q
     |none=>none
   |none=>none
  |_,_=>none
def ju(P:Program):Nat→TypeId→Value→Value→Option Bool
 |0,_,_,_=>none
 |d+1,t,x,y=>match P.underlying t,x,y with
  |some .bool,.bool a,.bool b=>some<|a==b
  |some (.int _),.int k a,.int k' b=>if k=k' then some (a==b) else none
  |some .string,.string a,.string b=>some<|a==b
  |some (.struct fs),.agg xs,.agg ys=>if P.stoodInHeld t then none else vm (ju P d) P xs ys fs.toList
  |some (.array n e),.agg xs,.agg ys=>match P.info? e with
   |some i=>vn (ju P d) P e i.size xs ys n 0
   |none=>none
  |_,_,_=>none
section
variable{P:Program}(w:World)
theorem yu{t:TypeId}{cs:Array Value}{off:Nat}(h:pg P t cs off=some v):(part t cs off).run P w= .ok v w:=by
 unfold pg at h
 cases ha:np P t with
 |some k=>
  rw[ha] at h
  obtain⟨h1,h2⟩:=Gt ha w
  simp at h;subst h
  simp[part,h1,h2]
 |none=>
  rw[ha] at h
  simp only at h
  split at h
  ·rename_i hs
   simp[part,Gq hs,h]
  ·cases h
variable{xs ys:Array Value}
theorem IQ{d:Nat}(ih: ∀t x y b,ju P d t x y=some b→(Op.equalIn d t x y).run P w= .ok b w):
  ∀(fs:List Field)(b:Bool),vm (ju P d) P xs ys fs=some b→(Op.eqFields d xs ys fs).run P w= .ok b w
 |[],b,h=>by simp[vm] at h;subst h;simp[Op.eqFields]
 |f::fs,b,h=>by
  unfold vm at h
  split at h
  ·cases h
  ·rename_i hn
   cases ha:pg P f.type xs f.offset with
   |none=>rw[ha] at h;simp at h
   |some u=>
    cases hb:pg P f.type ys f.offset with
    |none=>rw[ha,hb] at h;simp at h
    |some v=>
     rw[ha,hb] at h
     simp only at h
     cases he:ju P d f.type u v with
     |none=>rw[he] at h;simp at h
     |some r=>
      rw[he] at h
      simp only at h
      have hr:=ih _ _ _ _ he
      simp only[Op.eqFields,if_pos hn,Sem.run_bind,yu w ha,yu w hb,Result.andThen_ok,hr]
      cases fs with
      |nil=>
       simp at h;subst h
       cases r<;>simp[Op.eqFields]
      |cons g gs=>
       simp only at h
       cases hq:vm (ju P d) P xs ys (g::gs) with
       |none=>rw[hq] at h;simp at h
       |some q=>
        rw[hq] at h
        simp at h;subst h
        have:=IQ ih (g::gs) q hq
        cases r<;>simp[this]
def rQ(d:Nat)(e:TypeId)(k:Nat)(xs ys:Array Value):List Nat→Sem Bool
 |[]=>Pure.pure true
 |i::l=>do if !(←Op.equalIn d e (←part e xs (i*k)) (←part e ys (i*k))) then return false else rQ d e k xs ys l
theorem ON(d:Nat)(t e:TypeId)(n:Nat)(i:TypeInfo)(xs ys:Array Value)(ht:P.underlying t=some (.array n e))(hi:P.info? e=some i):
  (Op.equalIn (d+1) t (.agg xs)<|.agg ys).run P w=(rQ d e i.size xs ys<|List.range' 0 n).run P w:=by
 simp only[Op.equalIn,Sem.run_bind,run_underlying ht,Result.andThen_ok,sizeOf,typeInfo,run_program,hi,Sem.run_pure]
 rw[Std.Legacy.Range.forIn_eq_forIn_range']
 simp only[Std.Legacy.Range.size,Nat.sub_zero,Nat.add_sub_cancel,Nat.div_one]
 generalize List.range' 0 n=l
 induction l generalizing w with
 |nil=>simp[rQ]
 |cons j l ih=>
  simp only[List.forIn_cons,rQ,Sem.run_bind,Sem.run_ite]
  generalize(part e xs<|j*i.size).run P w=r1
  cases r1 with
  |ok a w1=>
   simp only[Result.andThen_ok]
   generalize(part e ys<|j*i.size).run P w1=r2
   cases r2 with
   |ok b w2=>
    simp only[Result.andThen_ok]
    generalize(Op.equalIn d e a b).run P w2=r3
    cases r3 with
    |ok r w3=>
     cases r
     ·simp
     ·simp only[Result.andThen_ok,Bool.not_true,Bool.false_eq_true,if_false,Sem.run_pure]
      exact ih w3
    |halt x w3=>simp[Result.andThen]
   |halt x w2=>simp[Result.andThen]
  |halt x w1=>simp[Result.andThen]
theorem IS{d:Nat}{e:TypeId}{k:Nat}(ih: ∀t x y b,ju P d t x y=some b→(Op.equalIn d t x y).run P w= .ok b w):
  ∀(n i:Nat)(b:Bool),vn (ju P d) P e k xs ys n i=some b→(rQ d e k xs ys<|List.range' i n).run P w= .ok b w
 |0,i,b,h=>by simp[vn] at h;subst h;simp[rQ]
 |n+1,i,b,h=>by
  unfold vn at h
  cases ha:pg P e xs (i*k) with
  |none=>rw[ha] at h;simp at h
  |some u=>
   cases hb:pg P e ys (i*k) with
   |none=>rw[ha,hb] at h;simp at h
   |some v=>
    rw[ha,hb] at h
    simp only at h
    cases he:ju P d e u v with
    |none=>rw[he] at h;simp at h
    |some r=>
     rw[he] at h
     simp only at h
     have hr:=ih _ _ _ _ he
     rw[List.range'_succ]
     simp only[rQ,Sem.run_bind,yu w ha,yu w hb,Result.andThen_ok,hr]
     cases n with
     |zero=>
      simp at h;subst h
      cases r<;>simp[rQ]
     |succ m=>
      simp only at h
      cases hq:vn (ju P d) P e k xs ys (m+1) (i+1) with
      |none=>rw[hq] at h;simp at h
      |some q=>
       rw[hq] at h
       simp at h;subst h
       have:=IS ih (m+1) (i+1) q hq
       cases r<;>simp[this]
theorem zT: ∀(d:Nat)(t:TypeId)(x y:Value)(b:Bool),ju P d t x y=some b→(Op.equalIn d t x y).run P w= .ok b w
 |0,_,_,_,_,h=>by simp[ju] at h
 |d+1,t,x,y,b,h=>by
  have ih:=zT d
  simp only[ju] at h
  cases hu:P.underlying t with
  |none=>rw[hu] at h;simp at h
  |some u=>
   rw[hu] at h
   cases u<;>cases x<;>cases y<;>simp at h<;>(try(exact h.elim))
   case int.int.int k k1 a k2 c=>
    obtain⟨rfl,rfl⟩:=h
    simp[Op.equalIn,run_underlying hu]
   case bool.bool.bool a c=>
    subst h
    simp[Op.equalIn,run_underlying hu]
   case string.string.string a c=>
    subst h
    simp[Op.equalIn,run_underlying hu]
   case struct.agg.agg fs xs ys=>
    obtain⟨hp,h⟩:=h
    have hf:P.fieldsOf t=fs:=by simp[Program.fieldsOf,hu]
    rw[run_equalIn_struct w d t xs ys (by rw[hf];exact hu) hp,hf]
    exact IQ w ih _ _ h
   case array.agg.agg n e xs ys=>
    cases hi:P.info? e with
    |none=>rw[hi] at h;simp at h
    |some i=>
     rw[hi] at h
     rw[ON w d t e n i xs ys hu hi]
     exact IS w ih n 0 b h
end
section
variable{P:Program}{n:Nat}{env:aT}{w0:World}{S:E6}{H:List aI}{o:Oper}
variable{t ty:TypeId}{x y:Operand}{xs ys:Array Value}{b:Bool}
theorem R7(ho:o.op= .binOp .eql t x y ty)(hx:ev env x=some (.agg xs))(hy:ev env y=some (.agg ys))(hg:P.eqGuardType P.depth t=false)
  (h:ju P 10000 t (.agg xs) (.agg ys)=some b):Qt P n env w0 S H o (.bool b):=
 gr λa w r _=>by
  have h1:=zT (P:=P) w _ _ _ _ _ h
  simp[execOp,ho,r.ev hx,r.ev hy,run_eqGuard_agg w _ t x y xs ys hg,run_eql_struct,h1]
theorem R9(ho:o.op= .binOp .neq t x y ty)(hx:ev env x=some (.agg xs))(hy:ev env y=some (.agg ys))(hg:P.eqGuardType P.depth t=false)
  (h:ju P 10000 t (.agg xs) (.agg ys)=some b):Qt P n env w0 S H o (.bool (!b)):=
 gr λa w r _=>by
  have h1:=zT (P:=P) w _ _ _ _ _ h
  simp[execOp,ho,r.ev hx,r.ev hy,run_eqGuard_agg w _ t x y xs ys hg,run_neq_struct,h1]
theorem Rb{c:Bool}(ho:o.op= .binOp .eql t x y ty)(hx:ev env x=some (.bool b))(hy:ev env y=some (.bool c))(ht:P.underlying t=some .bool):Qt P n env w0 S H o (.bool<|b==c):=
 gr λa w r _=>by simp[execOp,ho,r.ev hx,r.ev hy,eqGuard,binOp,run_equal_bool w t b c ht]
theorem Re{c:Bool}(ho:o.op= .binOp .neq t x y ty)(hx:ev env x=some (.bool b))(hy:ev env y=some (.bool c))(ht:P.underlying t=some .bool):Qt P n env w0 S H o (.bool (!(b==c))):=
 gr λa w r _=>by simp[execOp,ho,r.ev hx,r.ev hy,eqGuard,binOp,run_equal_bool w t b c ht]
end
theorem IT(a:Addr)(i j:Nat):(a.add i).add j=a.add (i+j):=by
 unfold Addr.add
 by_cases hi:i=0<;>by_cases hj:j=0<;>simp[hi,hj,Nat.add_assoc]
def au(A:Option Addr):Addr:=A.getD ⟨0,0,none⟩
def dR(w:World)(A:Option Addr)(cs:List Value):Prop:= ∀j u,cs[j]? =some u→A.isSome=true∧w.cell? ((au A).add j)=some u
def Rd(w0:World)(S:List Nat)(H:List aI)(A:Option Addr)(cs:List Value):Prop:= ∀w,HS w0 S H w→dR w A cs
def zU(A:Option Addr)(n c:Nat)(t:TypeId)(sz:Nat)(cs:List Value)(w:World):Prop:=
 cs.length=n*sz∧n≤c∧c≤maxLen∧((A=none∧c=0)∨ ∃g off cO,A=some ⟨g,off,none⟩∧w.heap[g]? =some (.cells cO t (0,0))∧off+c*sz≤cO.size∧(cO.toList.drop off).take (n*sz)=cs)
def fZ(A:Option Addr):List Nat:=match A with|some a=>[a.block]|none=>[]
def sl(A:Option Addr)(n c:Nat)(t:TypeId)(sz:Nat)(cs:List Value):aI where
 foot:=fZ A
 holds:=zU A n c t sz cs
 loc w w' h hw:=by
  obtain⟨h1,h2,h3,h4⟩:=hw
  refine⟨h1,h2,h3,h4.imp id ?_⟩
  rintro⟨g,off,cO,rfl,hg,r⟩
  exact⟨g,off,cO,rfl,by rw[h g<|by simp[fZ]];exact hg,r⟩
 here w hw b hb:=by
  obtain⟨_,_,_,h4⟩:=hw
  rcases h4 with⟨rfl,_⟩|⟨g,off,cO,rfl,hg,_⟩
  ·simp[fZ] at hb
  ·simp[fZ] at hb;subst hb;exact(Array.getElem?_eq_some_iff.1 hg).1
theorem CG(A:k0):(fZ A).Nodup:=by cases A<;>simp[fZ]
theorem AM(t:TypeId)(sz:Nat)(w:World):(sl none 0 0 t sz []).holds w:=⟨by simp,Nat.le_refl _,by simp[maxLen],.inl ⟨rfl,rfl⟩⟩
section
variable{w0:World}{S:E6}{H:List aI}
variable{t:TypeId}{cs:Za}
theorem tq{A:k0}{c:Nat}{sz:Nat}(h:(sl A n c t sz cs).holds w):dR w A cs:=by
 intro j u hu
 obtain⟨h1,_,_,h4⟩:=h
 have hlt:j<cs.length:=(Zf.1 hu).1
 rcases h4 with⟨rfl,rfl⟩|⟨g,off,cO,rfl,hg,hsz,htake⟩
 ·have:n=0:=by omega
  subst this;simp at h1;subst h1;simp at hlt
 ·refine⟨rfl,?_⟩
  simp only[au,Option.getD_some]
  rw[oZ,cell_of_row w g (off+j) cO t (0,0) hg]
  rw[←htake,List.getElem?_take] at hu
  split at hu
  ·rw[List.getElem?_drop] at hu;simpa using hu
  ·cases hu
theorem bW{A:k0}{c:Nat}{sz:Nat}(hi:H[i]? =some (sl A n c t sz cs)):Rd w0 S H A cs:=λ_ s=>tq<|s.mem hi
theorem ef{b off:Nat}(hi:H[i]? =some (aA b cs t)):Rd w0 S H (some ⟨b,off,none⟩) (cs.drop off):=by
 intro w s j u hu
 have hh:w.heap[b]? =some (.cells cs.toArray t (0,0)):=s.mem hi
 refine⟨rfl,?_⟩
 simp only[au,Option.getD_some]
 rw[oZ,cell_of_row w b (off+j) cs.toArray t (0,0) hh]
 rw[List.getElem?_drop] at hu;simpa using hu
theorem cL{A:k0}(h:dR w0 A cs)(hS: ∀a,A=some a→a.block∉S):Rd w0 S H A cs:=by
 intro w s j u hu
 obtain⟨h1,hc⟩:=h j u hu
 obtain⟨a,rfl⟩:=Option.isSome_iff_exists.1 h1
 refine⟨rfl,?_⟩
 simp only[au,Option.getD_some] at hc⊢
 have hb:(a.add j).block=a.block:=by unfold Addr.add;split<;>rfl
 rw[←hc]
 exact World.cell?_of_block<|s.fr.block _ (World.block_lt_of_cell? w0 _ hc) (by rw[hb];exact hS a rfl)
theorem QG{A:k0}{vs:Za}{m:Nat}(h:Rd w0 S H A cs)(hv:(cs.drop m).take vs.length=vs):mR w0 S H ((au A).add m) vs:=by
 intro w s j u hu
 rw[IT]
 refine(h w s (m+j) u ?_).2
 rw[←hv,List.getElem?_take] at hu
 split at hu
 ·rw[List.getElem?_drop] at hu;exact hu
 ·cases hu
end
def aP{α:Type}(enc:α→List Value)(xs:List α):List Value:=xs.flatMap enc
variable{α:Type}{enc:α→Za}{sz:Nat}
theorem tR(he: ∀x,(enc x).length=sz): ∀xs:List α,(aP enc xs).length=xs.length*sz
 |[]=>by simp[aP]
 |x::xs=>by
  have:=tR he xs
  simp only[aP,List.flatMap_cons,List.length_append,List.length_cons] at this⊢
  rw[this,he,Nat.add_mul];omega
theorem CP(enc:α→Za)(xs ys:List α):aP enc (xs++ys)=aP enc xs++aP enc ys:=by simp[aP]
theorem Ha(he: ∀x,(enc x).length=sz): ∀(xs:List α)(k:Nat),(aP enc xs).drop (k*sz)=aP enc (xs.drop k)
 |xs,0=>by simp
 |[],k+1=>by simp[aP]
 |x::xs,k+1=>by
  have:=Ha he xs k
  simp only[aP,List.flatMap_cons,List.drop_succ_cons] at this⊢
  rw[←this,List.drop_append,he,List.drop_eq_nil_of_le (by rw[he,Nat.add_mul];omega),List.nil_append,Nat.add_mul]
  congr 1;omega
variable{xs:List α}
theorem Rf(he: ∀x,(enc x).length=sz){k:Nat}{x:α}(hx:xs[k]? =some x)(o m:Nat)(hm:o+m≤sz):
  ((aP enc xs).drop (k*sz+o)).take m=((enc x).drop o).take m:=by
 rw[←List.drop_drop,Ha he]
 have hlt:=(Zf.1 hx).1
 have:xs.drop k=x::xs.drop (k+1):=by
  rw[List.drop_eq_getElem_cons hlt];congr 1
  simpa[Ze hlt] using hx
 rw[this]
 simp only[aP,List.flatMap_cons]
 rw[List.drop_append_of_le_length (by rw[he];omega),List.take_append_of_le_length (by rw[List.length_drop,he];omega)]
theorem IU(he: ∀x,(enc x).length=sz): ∀(xs:List α)(k:Nat)(x:α),k<xs.length→
  (aP enc xs).take (k*sz)++enc x++(aP enc xs).drop (k*sz+sz)=aP enc (xs.set k x)
 |[],k,x,h=>by simp at h
 |y::xs,0,x,_=>by
  simp only[aP,List.flatMap_cons,List.set_cons_zero,Nat.zero_mul,List.take_zero,List.nil_append,Nat.zero_add]
  rw[List.drop_append_of_le_length (by rw[he];omega),List.drop_eq_nil_of_le (by rw[he];omega),List.nil_append]
 |y::xs,k+1,x,h=>by
  have ih:=IU he xs k x<|by simpa using h
  simp only[aP,List.flatMap_cons,List.set_cons_succ] at ih⊢
  rw[←ih,Nat.add_mul,Nat.one_mul]
  rw[show k*sz+sz=(enc y).length+k*sz from by rw[he];omega]
  rw[List.take_append,List.take_of_length_le<|by omega,Nat.add_sub_cancel_left]
  rw[Nat.add_assoc,List.drop_append,List.drop_eq_nil_of_le<|by omega,List.nil_append,Nat.add_sub_cancel_left,List.append_assoc,List.append_assoc,List.append_assoc,he y,Nat.add_comm sz<|k*sz]
section
variable{P:Program}{n:Nat}{env:aT}{w0:World}{S:E6}{H:List aI}{ops:Zb}{o:Oper}{K:Wy}
variable{cs:Za}{t:TypeId}
theorem cE{b off:Nat}{vs:Za}(h:w0.heap[b]? =some (.cells cs.toArray t (0,0)))(hv:(cs.drop off).take vs.length=vs):mR w0 [] H ⟨b,off,none⟩ vs:=by
 refine PN (λj u hu=>?_)<|by simp
 rw[oZ,cell_of_row w0 b (off+j) cs.toArray t (0,0) h]
 rw[←hv,List.getElem?_take] at hu
 split at hu
 ·rw[List.getElem?_drop] at hu;simpa using hu
 ·cases hu
theorem Rh{x y:Operand}{el:TypeId}{A:k0}{len cap:Nat}{kd:IntKind}{k:Nat}(ho:o.op= .slice t x none (some y) none)(hx:ev env x=some (.slice A len cap))(hy:ev env y=some (.int kd (k:Int)))
  (ht:P.underlying t=some (.slice el))(hs:(P.info? el).map (·.size)=some sz)(hk:k≤cap):
  Qt P n env w0 S H o (.slice (if cap=0 then A else A.map (·.add 0)) k cap):=
 gr λa w r s=>by
  simp only[Option.map_eq_some_iff] at hs
  obtain⟨i,hinf,rfl⟩:=hs
  simp[execOp,ho,r.ev hx,r.ev hy,Instr.sliceAt,Instr.slice,run_underlying ht,Instr.sliceBounds,Instr.sliceBound,asIntOf,hk,sizeOf,typeInfo,hinf]
variable{G:Wy}
theorem gW(t:TypeId)(sz:Nat)(H':List aI)(hH:H++[sl none 0 0 t sz []]=H')(h:V.A n env w0 S H' G):V.A n env w0 S H G:=λa w r s=>
 h a w r (by rw[←hH];exact s.add (Fr.refl _ _) (AM t sz w) (by simp[sl,fZ])<|by simp[sl,fZ])
theorem yU(i:Nat){b:Nat}(len sz:Nat)(H':List aI)(hi:H[i]? =some (aA b cs t))(hl:cs.length=len*sz)(hm:len≤maxLen)(hH:H.set i (sl (some ⟨b,0,none⟩) len len t sz cs)=H')
  (h:V.A n env w0 S H' G):V.A n env w0 S H G:=by
 intro a w r s
 refine h a w r ?_
 rw[←hH]
 have hh:w.heap[b]? =some (.cells cs.toArray t (0,0)):=s.mem hi
 refine s.turn hi (Fr.refl _ _) ⟨hl,Nat.le_refl _,hm,.inr ⟨b,0,_,rfl,hh,by simp[hl],by simp[←hl]⟩⟩ (CG<|some ⟨b,0,none⟩)<|λx hx=> .inl ?_
 simpa[sl,fZ,aA] using hx
theorem OU{ty e:TypeId}{i:TypeInfo}{z:Value}{by_:Nat}(w:World)(ht:P.underlying t=some (.slice e))(hi:P.info? e=some i)(hz:i.zero=some z)(hsize:i.size=sz)(hby:i.bytes=by_)(hzs:z.cells.size=sz)(hsz:0<sz)
  {A:k0}{len c:Nat}{cs:Za}(h:(sl A len c e sz cs).holds w){X:k0}{m cx:Nat}{news:Za}(hx:dR w X news)(hxl:news.length=m*sz)(h1:news.all Value.oneCell'=true)
  (h63:len+m≤maxLen)(hbytes:(len+m)*by_≤140737488355328):
  ∃A' c' w',(Builtin.append_ #[t,t] ty #[.slice A len c,.slice X m cx]).run P w= .ok (.slice A' (len+m) c') w'∧(sl A' (len+m) c' e sz<|cs++news).holds w'∧Fr (fZ A) w w'∧(∀b∈fZ A',b∈fZ A∨w.heap.size≤b):=by
 subst hsize;subst hby
 obtain⟨hl,hnc,hcm,h4⟩:=h
 have h1': ∀u∈news,u.oneCell'=true:=λu hu=>List.all_eq_true.1 h1 u hu
 have hfx:(Builtin.firstCells i.size m<|.slice X m cx).run P w= .ok news.toArray w:=by
  cases X with
  |none=>
   have:news=[]:=by
    cases news with
    |nil=>rfl
    |cons u us=>have:=(hx 0 u rfl).1;simp at this
   subst this
   simp[Builtin.firstCells]
  |some x=>exact run_firstCells_some (P:=P) w i.size m x m cx news hxl<|λj u hu=>by simpa[au] using(hx j u hu).2
 have hfx':(Builtin.firstCells i.size m<|.slice X m cx).run P w.drew= .ok news.toArray w.drew:=by
  cases X with
  |none=>
   have:news=[]:=by
    cases news with
    |nil=>rfl
    |cons u us=>have:=(hx 0 u rfl).1;simp at this
   subst this
   simp[Builtin.firstCells]
  |some x=>exact run_firstCells_some (P:=P) w.drew i.size m x m cx news hxl<|λj u hu=>by simpa[au] using(hx j u hu).2
 by_cases hroom:len+m≤c
 ·rcases h4 with⟨rfl,rfl⟩|⟨g,off,cO,rfl,hg,hs,htake⟩
  ·have hm:m=0:=by omega
   have hlen:len=0:=by omega
   subst hm;subst hlen
   have hn:news=[]:=List.eq_nil_of_length_eq_zero<|by simpa using hxl
   subst hn
   simp at hl;subst hl
   refine⟨none,0,w,?_,⟨by simp,Nat.le_refl _,hcm,.inl ⟨rfl,rfl⟩⟩,Fr.refl _ _,by simp[fZ]⟩
   simp[Builtin.append_,run_underlying ht,sizeOf,typeInfo,hi,Builtin.lenOf,hfx]
  ·have hcap:(len+m)*i.size≤c*i.size:=Nat.mul_le_mul_right _ hroom
   have hadd:(len+m)*i.size=len*i.size+m*i.size:=Nat.add_mul _ _ _
   have hst:=run_storeCells_at P g (off+len*i.size) e news 0 cO w hg (by rw[hxl];simp only[Nat.add_zero];omega) h1'
   simp only[Nat.add_zero] at hst
   refine⟨some ⟨g,off,none⟩,c,w.setRow g (cO.toList.take (off+len*i.size)++news++cO.toList.drop (off+len*i.size+news.length)).toArray,?_,⟨by rw[List.length_append,hl,hxl,hadd],hroom,hcm,.inr ⟨g,off,_,rfl,wW w g _ cO e hg,?_,?_⟩⟩,wV w g _,λ_ hb=> .inl hb⟩
   ·simp only[Builtin.append_]
    simp[run_underlying ht,sizeOf,typeInfo,hi,Builtin.lenOf,hroom,hfx,oZ,hst]
   ·simp only[List.size_toArray,List.length_append,List.length_take,List.length_drop,Array.length_toList,hxl];omega
   ·simp only[List.toList_toArray]
    rw[List.append_assoc,List.drop_append,List.length_take,Array.length_toList]
    rw[show off-min (off+len*i.size) cO.size=0 from by omega,List.drop_zero]
    rw[List.drop_take,show off+len*i.size-off=len*i.size from by omega,htake]
    rw[←List.append_assoc,List.take_append_of_le_length (by rw[List.length_append,hl,hxl,hadd];omega)]
    rw[List.take_of_length_le (by rw[List.length_append,hl,hxl,hadd];omega)]
 ·have hge:=grownCap_ge w (len+m) c e
  have hcm':grownCap w (len+m) c e≤maxLen:=grownCap_le_maxLen w (len+m) c e h63
  have hfs:(Builtin.firstCells i.size len<|.slice A len c).run P w.drew= .ok cs.toArray w.drew:=by
   rcases h4 with⟨rfl,rfl⟩|⟨g,off,cO,rfl,hg,hs,htake⟩
   ·have hlen:len=0:=by omega
    subst hlen;simp at hl;subst hl;simp[Builtin.firstCells]
   ·exact run_firstCells_some (P:=P) w.drew i.size len ⟨g,off,none⟩ len c cs hl (λj u hu=>by
     show w.cell? _=_
     rw[oZ,cell_of_row w g (off+j) cO e (0,0) hg]
     rw[←htake,List.getElem?_take] at hu
     split at hu
     ·rw[List.getElem?_drop] at hu;simpa using hu
     ·cases hu)
  obtain⟨w',hw'⟩: ∃w',w'=(World.drew w).alloc (.cells (cs.toArray++news.toArray++Builtin.zeroCells z.cells (grownCap w (len+m) c e-(len+m))) e):=⟨_,rfl⟩
  refine⟨some ⟨w.heap.size,0,none⟩,grownCap w (len+m) c e,w',?_,⟨by rw[List.length_append,hl,hxl,Nat.add_mul],hge,hcm',.inr ⟨w.heap.size,0,_,rfl,by rw[hw'];exact heap_alloc_new w.drew _,?_,?_⟩⟩,?_,λb hb=> .inr (by simp[fZ] at hb;omega)⟩
  ·subst hw'
   have h48: ¬(Builtin.nextslicecap (len+m) c*i.bytes>2^48):=by
    have h2:=growslice_fits (need:=len+m) (old:=c) (by omega) hbytes
    omega
   have hmax:IntKind.i64.max=9223372036854775807:=by decide
   have hm63:len+m≤9223372036854775807:=by simp only[maxLen] at h63;omega
   simp only[Builtin.append_]
   simp[run_underlying ht,sizeOf,typeInfo,zeroValue,hi,hz,Builtin.lenOf,hroom,h48,Question.forced,hfs,hfx,newRow,grownCap]
   rw[if_neg<|by omega]
   simp only[Result.andThen_ok,hfx']
   refine congrArg _<|congrArg _<|congrArg (λc=>Obj.cells c e (0,0)) ?_
   apply Array.ext'
   simp
  ·simp only[Array.size_append,List.size_toArray,size_zeroCells,hzs,hl,hxl]
   rw[←Nat.add_mul,←Nat.add_mul,Nat.zero_add]
   apply Nat.le_of_eq;congr 1;omega
  ·simp only[Array.toList_append,List.drop_zero]
   rw[List.take_append_of_le_length<|by simp[hl,hxl,Nat.add_mul],List.take_of_length_le<|by simp[hl,hxl,Nat.add_mul]]
  ·subst hw'
   exact⟨rfl,rfl,rfl,by simp,λk hk _=>heap_alloc_old w.drew _ hk⟩
end
section
variable{P:Program}{n:Nat}{env:aT}{w0:World}{S:E6}{H:List aI}{ops:Zb}{o:Oper}{K:Wy}
variable{x y:Operand}{t e:TypeId}{z:Value}{by_ m:Nat}
theorem Yk(i:Nat)(d:Nat){A:k0}{len c:Nat}{cs:Za}{X:k0}{cx:Nat}(news:Za)
  (hok:ff ops n env o (some d)=true)(ho:o.op= .call {callee:= .builtin .append,args:=#[x,y],argTypes:=#[t,t]})(hx:ev env x=some (.slice A len c))(hy:ev env y=some (.slice X m cx))
  (ht:P.underlying t=some (.slice e))(hinf:(P.info? e).map (λi=>(i.zero,i.size,i.bytes))=some (some z,sz,by_))(hzs:z.cells.size=sz)(hsz:0<sz)
  (hi:H[i]? =some (sl A len c e sz cs))(hr:Rd w0 S H X news)(hnl:news.length=m*sz)(h1:news.all Value.oneCell'=true)(h63:len+m≤maxLen)(hbytes:(len+m)*by_≤140737488355328)
  (H':k0→Nat→List aI)(hH: ∀A' c',H.set i (sl A' (len+m) c' e sz<|cs++news)=H' A' c')
  (h: ∀A' c',V.A n ((d,.slice A' (len+m) c')::env) w0 S (H' A' c') K):V.A n env w0 S H (cz P ops o K):=by
 intro a w r s
 obtain⟨h1',h2,h3,h4⟩:=jf hok
 unfold cz
 rw[if_pos<|ic r h1']
 simp only[Option.map_eq_some_iff,Prod.mk.injEq] at hinf
 obtain⟨inf,hinf,hz,hs1,hs2⟩:=hinf
 obtain⟨A',c',w',hrun,hsl,hfr,hft⟩:=OU (P:=P) (ty:=o.type) w ht hinf hz hs1 hs2 hzs hsz (s.mem hi) (m:=m) (cx:=cx) (hr w s) hnl h1 h63 hbytes
 unfold Oper.wp execOp
 simp only[ho,resolve,invoke,builtin,Sem.run_bind,Sem.run_pure,Result.andThen_ok,List.map_toArray,List.map_cons,List.map_nil,r.ev hx,r.ev hy,hrun,Oper.upon,h2]
 refine h A' c' _ _ (r.put<|h3 d rfl) ?_
 rw[←hH]
 exact s.turn hi hfr hsl (CG _) hft
theorem eB(d:Nat){len:Nat}{parts:Array (Nat×Operand)}(cs:Za)(hok:ff ops n env o (some d)=true)(ho:o.op= .buildSlice t len parts)
  (hrun: ∀w:World,(execOp (yE env) o).run P w= .ok (.value<|.slice (some ⟨w.heap.size,0,none⟩) len len) {w with heap:=w.heap.push<|.cells cs.toArray e (0,0)})
  (H':Nat→List aI)(hH: ∀b,H++[aA b cs e]=H' b)(h: ∀b,V.A n ((d,.slice (some ⟨b,0,none⟩) len len)::env) w0 S (H' b) K):V.A n env w0 S H (cz P ops o K):=by
 intro a w r s
 obtain⟨h1',h2,h3,h4⟩:=jf hok
 unfold cz
 rw[if_pos<|ic r h1']
 unfold Oper.wp
 rw[HK r h4,hrun w]
 simp only[Oper.upon,h2]
 refine h w.heap.size _ _ (r.put<|h3 d rfl) ?_
 rw[←hH]
 exact s.add (Fr.alloc _ _ _) (heap_alloc_new w _) (by simp[aA])<|by simp[aA]
theorem He(z:Za): ∀len:Nat,(List.range<|len*z.length).map (λj=>z.getD (j%z.length) undef)=aP (λ_=>z) (List.replicate len ())
 |0=>by simp[aP]
 |len+1=>by
  have ih:=He z len
  rw[Nat.add_mul,Nat.one_mul,List.range_add,List.map_append,ih,List.replicate_succ',CP]
  congr 1
  simp only[aP,List.flatMap_cons,List.flatMap_nil,List.append_nil,List.map_map]
  apply List.ext_getElem
  ·simp
  ·intro j h1 h2
   have hj:j<z.length:=h2
   simp[Nat.mod_eq_of_lt hj,hj]
theorem Ol(z:Array Value)(len:Nat):madeCells z (len*z.size)=(aP (λ_=>z.toList)<|List.replicate len ()).toArray:=by
 have h:=He z.toList len
 rw[Array.length_toList] at h
 rw[←h]
 apply Array.ext'
 simp only[madeCells,Array.toList_map,Array.toList_range,List.toList_toArray]
 apply List.map_congr_left
 intro j hj
 have hz:0<z.size:=by
  rcases Nat.eq_zero_or_pos z.size with h0|h0
  ·rw[h0] at hj;simp at hj
  ·exact h0
 have hlt:=Nat.mod_lt j hz
 simp[hlt]
theorem Yw(enc:α→Za)(d0:α)(d:Nat){k k':IntKind}(len:Nat)(hok:ff ops n env o (some d)=true)(ho:o.op= .makeSlice t x y)(hx:ev env x=some (.int k (len:Int)))(hy:ev env y=some (.int k' (len:Int)))
  (ht:P.underlying t=some (.slice e))(hinf:(P.info? e).map (λi=>(i.zero,i.size,i.bytes))=some (some z,sz,by_))(hzs:z.cells.size=sz)(hd0:enc d0=z.cells.toList)(hb:by_*len≤281474976710656)(h63:len≤9223372036854775807)
  (H':Nat→List aI)(hH: ∀b,H++[aA b (aP enc<|List.replicate len d0) e]=H' b)(h: ∀b,V.A n ((d,.slice (some ⟨b,0,none⟩) len len)::env) w0 S (H' b) K):V.A n env w0 S H (cz P ops o K):=by
 intro a w r s
 obtain⟨h1',h2,h3,h4⟩:=jf hok
 unfold cz
 rw[if_pos<|ic r h1']
 simp only[Option.map_eq_some_iff,Prod.mk.injEq] at hinf
 obtain⟨inf,hinf,hz,rfl,rfl⟩:=hinf
 have hb':(inf.bytes:Int)*(len:Int)≤281474976710656:=by rw[←Int.natCast_mul];omega
 have hr:=run_make (P:=P) w t e inf z ht hinf hz k k' len len (by omega) (by omega) hb'<|by omega
 simp only[Int.toNat_natCast] at hr
 have hcells:madeCells z.cells (len*inf.size)=(aP enc<|List.replicate len d0).toArray:=by
  rw[←hzs,Ol];congr 1;simp only[aP];clear hx hy hb hb' hr hH h h63;induction len<;>simp_all[List.replicate_succ]
 unfold Oper.wp execOp
 simp only[ho,r.ev hx,r.ev hy,Sem.run_bind,hr,Result.andThen_ok,Sem.run_pure,Oper.upon,h2]
 refine h w.heap.size _ _ (r.put<|h3 d rfl) ?_
 rw[←hH,hcells]
 exact s.add (Fr.alloc _ _ _) (heap_alloc_new w _) (by simp[aA])<|by simp[aA]
variable{vs:Za}
theorem IV{A:k0}{f:Nat}{x:α}(he: ∀x,(enc x).length=sz)(hr:Rd w0 S H A (aP enc xs))(hx:xs[m]? =some x)(hf:f+vs.length≤sz)(hv:((enc x).drop f).take vs.length=vs):
 mR w0 S H ((au A).add (m*sz+f)) vs:=QG hr<|by rw[Rf he hx f _ hf,hv]
theorem dr{A:k0}{x:α}(he: ∀x,(enc x).length=sz)(hr:Rd w0 S H A (aP enc xs))(hx:xs[m]? =some x)(hf:vs.length≤sz)(hv:(enc x).take vs.length=vs):
 mR w0 S H ((au A).add (m*sz)) vs:=IV (f:=0) he hr hx (by omega)<|by simpa using hv
theorem jZ(ys:List α)(i:Nat)(d:Nat){A:k0}{c:Nat}{X:k0}{cx:Nat}
  (hok:ff ops n env o (some d)=true)(ho:o.op= .call {callee:= .builtin .append,args:=#[x,y],argTypes:=#[t,t]})(hx:ev env x=some (.slice A xs.length c))(hy:ev env y=some (.slice X ys.length cx))
  (ht:P.underlying t=some (.slice e))(hinf:(P.info? e).map (λi=>(i.zero,i.size,i.bytes))=some (some z,sz,by_))(hzs:z.cells.size=sz)(hsz:0<sz)
  (he: ∀x,(enc x).length=sz)(h1: ∀x,(enc x).all Value.oneCell'=true)
  (hi:H[i]? =some (sl A xs.length c e sz<|aP enc xs))(hr:Rd w0 S H X (aP enc ys))(hbytes:xs.length+ys.length≤1048576∧by_≤134217728)
  (H':k0→Nat→List aI)(hH: ∀A' c',H.set i (sl A' (xs++ys).length c' e sz (aP enc<|xs++ys))=H' A' c')
  (h: ∀A' c',V.A n ((d,.slice A' (xs++ys).length c')::env) w0 S (H' A' c') K):V.A n env w0 S H (cz P ops o K):=by
 refine V.Yk i d (aP enc ys) hok ho hx hy ht hinf hzs hsz hi hr (tR he ys) ?_ (by simp only[maxLen];omega) ?_ H' (λA' c'=>?_)<|λA' c'=>?_
 ·apply List.all_eq_true.2
  intro u hu
  obtain⟨y,_,hy⟩:=List.mem_flatMap.1 hu
  exact List.all_eq_true.1 (h1 y) u hy
 ·exact Nat.le_trans (Nat.mul_le_mul hbytes.1 hbytes.2)<|by omega
 ·rw[←hH,List.length_append,CP]
 ·have:=h A' c';rw[List.length_append] at this;exact this
end
theorem E7(a b:ByteArray):(a==b)=(a.data==b.data):=by cases a;cases b;rfl
theorem PO:LawfulBEq ByteArray where
 rfl {a}:=by rw[E7];simp
 eq_of_beq {a b} h:=by rw[E7] at h;exact ByteArray.ext<|by simpa using h
instance:LawfulBEq ByteArray:=PO
theorem HL(a b:ByteArray):(a.toList==b.toList)=(a==b):=by
 rw[E7,ByteArray.toList_eq,ByteArray.toList_eq,Bool.eq_iff_iff];simp[Array.ext_iff]
section
variable{P:Program}{n:Nat}{env:aT}{w0:World}{S:E6}{H:List V.aI}{o:Oper}
variable{t ty:TypeId}{x y:Operand}{b c:ByteArray}
theorem Rj(ho:o.op= .binOp .eql t x y ty)(hx:ev env x=some (.string b))(hy:ev env y=some (.string c)):Qt P n env w0 S H o (.bool<|b==c):=
 gr λa w r _=>by simp[execOp,ho,r.ev hx,r.ev hy,eqGuard,binOp,Op.stringOp,HL]
theorem Rk(ho:o.op= .binOp .neq t x y ty)(hx:ev env x=some (.string b))(hy:ev env y=some (.string c)):Qt P n env w0 S H o (.bool<|b !=c):=
 gr λa w r _=>by simp[execOp,ho,r.ev hx,r.ev hy,eqGuard,binOp,Op.stringOp,HL,bne]
end
section
variable{P:Program}{Q:Exit→Wy}{n:Nat}{env:aT}{w0:World}{S:E6}{H:List V.aI}{ops:Zb}{rest:List Oper}{o:Oper}{K:Wy}
def xy(n:Nat)(env:aT)(d:Option Nat)(K:Act→World→Prop):Ending→World→Prop:=λe w'=> ∃v,e= .returned v∧ ∀a,Rep n env a→K (a.put d v) w'
theorem pG(hd:(match d with|some x=>Nat.blt x n|none=>true)=true)(h:A n (putE env d v) w0 S H K): ∀w,HS w0 S H w→xy n env d K (.returned v) w:=
 λw s=>⟨v,rfl,λa r=>h _ _ (r.putE (λx hx=>by subst hx;exact Nat.le_of_ble_eq_true hd)) s⟩
theorem bK{it:V.aI}{w1:World}{H1:List V.aI}(s:HS w1 [] H1 w)(h:it.holds w1):it.holds w:=it.loc w1 w (λb hb=>s.fr.block b (it.here w1 h b hb)<|by simp) h
def vC(P:Program)(c:Code)(Q:Exit→Act→World→Prop):Nat→Act→World→Prop
 |0=>λ_ _=>False
 |m+1=>c.wp P<|Exit.then (vC P c Q m) Q
variable{c:Code}
theorem O6: ∀(m:Nat)(a:Act)(w:World),vC P c Q m a w→(Code.loop c).wp P Q a w:=by
 intro m a w h b k cs
 have key: ∀m a w,vC P c Q m a w→ ∃e a' w',Q e a' w'∧Arrives P (lone (b.at a<|.code c:: .inLoop c::k) cs w) b k cs e a' w':=by
  intro m
  induction m with
  |zero=>intro a w h;exact h.elim
  |succ m ih=>
   intro a w h
   obtain⟨e,a₁,w₁,hq,harr⟩:=h b (.inLoop c::k) cs
   cases e with
   |normal=>
    obtain⟨e₂,a₂,w₂,hq₂,harr₂⟩:=ih a₁ w₁ hq
    exact⟨e₂,a₂,w₂,hq₂,.of_steps (Steps.trans harr<|.one step_inLoop) harr₂⟩
   |exit id=>exact⟨_,a₁,w₁,hq,.pass (x:= .inLoop c) rfl (λ_ _=> .inl (by simp)) harr⟩
   |goto l=>exact⟨_,a₁,w₁,hq,.pass (x:= .inLoop c) rfl (λ_ _=> .inl (by simp)) harr⟩
   |ret=>exact⟨_,a₁,w₁,hq,.pass (x:= .inLoop c) rfl (λ_ _=> .inl (by simp)) harr⟩
   |panic ch=>exact⟨_,a₁,w₁,hq,.pass (x:= .inLoop c) rfl (λ_ _=> .inl (by simp)) harr⟩
   |outgrown=>exact⟨_,a₁,w₁,hq,.pass (x:= .inLoop c) rfl (λ_ _=> .inl (by simp)) harr⟩
 obtain⟨e,a',w',hq,harr⟩:=key m a w h
 exact⟨e,a',w',hq,.of_steps (.one step_loop) harr⟩
theorem i4(m:Nat)(h:A n env w0 S H (vC P c Q m)):A n env w0 S H ((Code.loop c).wp P Q):=λa w r s=>O6 m a w<|h a w r s
theorem cd{m:Nat}(h:A n env w0 S H (c.wp P<|Exit.then (vC P c Q m) Q)):A n env w0 S H (vC P c Q<|m+1):=h
end
end Go.Proofs.YtobgjpigngoggaaGreat.V
namespace Go.Proofs.YtobgjpigngoggaaGreat.V
open Go Go.ChangeShapes Go.WideShapes
inductive FK where
 |int (k:IntKind)|bool|str
 deriving DecidableEq
def vo:FK→Value→Prop
 | .int k,v=> ∃n,v= .int k n∧k.min≤n∧n≤k.max
 | .bool,v=> ∃b,v= .bool b
 | .str,v=> ∃s:ByteArray,v= .string s∧s.size≤maxLen
variable{v:Value}
theorem pV(h:vo (.int .i64) v): ∃n,v= .int .i64 n∧(-9223372036854775808:Int)≤n∧n≤9223372036854775807:=by
 obtain⟨n,rfl,h1,h2⟩:=h;exact⟨n,rfl,by simpa[IntKind.min,IntKind.signed,IntKind.bits] using h1,by simpa[IntKind.max,IntKind.signed,IntKind.bits] using h2⟩
theorem ng(h:vo (.int .u16) v): ∃n,v= .int .u16 n∧(0:Int)≤n∧n≤65535:=by
 obtain⟨n,rfl,h1,h2⟩:=h;exact⟨n,rfl,by simpa[IntKind.min,IntKind.signed,IntKind.bits] using h1,by simpa[IntKind.max,IntKind.signed,IntKind.bits] using h2⟩
theorem o6(h:vo (.int .u64) v): ∃n,v= .int .u64 n∧(0:Int)≤n∧n≤18446744073709551615:=by
 obtain⟨n,rfl,h1,h2⟩:=h;exact⟨n,rfl,by simpa[IntKind.min,IntKind.signed,IntKind.bits] using h1,by simpa[IntKind.max,IntKind.signed,IntKind.bits] using h2⟩
theorem QH(h:vo .bool v): ∃b,v= .bool b:=h
def nq:List FK→List Value→Prop
 |[],[]=>True
 |k::ks,v::vs=>vo k v∧nq ks vs
 |_,_=>False
variable{cs:Za}
theorem fx{k:FK}{ks:List FK}(h:nq (k::ks) cs): ∃v cs',cs=v::cs'∧vo k v∧nq ks cs':=by
 cases cs with
 |nil=>exact h.elim
 |cons v cs=>exact⟨v,cs,rfl,h.1,h.2⟩
theorem u5(h:nq [] cs):cs=[]:=by cases cs with|nil=>rfl|cons v cs=>exact h.elim
def vd(P:Program):Nat→TypeId→Option (List FK)
 |0,_=>none
 |d+1,t=>
  match P.underlying t with
  |some .bool=>some [.bool]
  |some (.int k)=>some [.int k]
  |some .string=>some [.str]
  |some (.struct fs)=>(fs.toList.foldr (λf r=>r.bind λ(acc:List FK)=>(vd P d f.type).bind λks=>if ks.length=P.cellsOf f.type∧f.offset+ks.length+acc.length=P.cellsOf t then some (ks++acc) else none)<|some []).bind λks=>if ks.length=P.cellsOf t then some ks else none
  |some (.array n e)=>(vd P d e).bind λks=>if ks.length=P.cellsOf e∧n*ks.length=P.cellsOf t then some (List.replicate n ks).flatten else none
  |_=>none
section
variable{H:Type}{enc:TypeId×Value→H}{P:Program}{w:World}{base:Nat}{spare:Nat→Bool}{held:Bool}
theorem CH: ∀{a c:List FK}{b d:Za},nq a b→nq c d→nq (a++c) (b++d)
 |[],_,[],_,_,k=>k
 |_::_,_,_::_,_,h,k=>⟨h.1,CH h.2 k⟩
 |[],_,_::_,_,h,_=>h.elim
 |_::_,_,[],_,h,_=>h.elim
theorem u6: ∀(d fuel:Nat)(t:TypeId)(ks:List FK)(cs:Za)(x:DataW H×List MemPlace),vd P d t=some ks→DataW.trod enc P w base spare held fuel t cs=some x→nq ks cs:=by
 intro d
 induction d with
 |zero=>intro fuel t ks cs x h;simp[vd] at h
 |succ d ih=>
  intro fuel t ks cs x h hx
  simp only[vd] at h
  split at h
  case h_1 ht=>cases h;obtain⟨b,rfl,-⟩:=DataW.trod_bool ht hx;exact⟨⟨b,rfl⟩,trivial⟩
  case h_2 k ht=>
   cases h;obtain⟨n,rfl,-,hw⟩:=DataW.trod_int ht hx
   simp[Lit.wf] at hw
   exact⟨⟨n,rfl,hw.1,hw.2⟩,trivial⟩
  case h_3 ht=>cases h;obtain⟨s,rfl,-,hs⟩:=DataW.trod_string ht hx;exact⟨⟨s,rfl,hs⟩,trivial⟩
  case h_4 fs ht=>
   obtain⟨xs,n,rfl,rfl,hl,hlen,hf⟩:=DataW.trod_struct ht hx
   simp only[Option.bind_eq_some_iff] at h
   obtain⟨ks',h1,h2⟩:=h
   split at h2<;>cases h2
   rename_i hkl
   have key: ∀(l:List Field)(acc:List FK),(∀f∈l,∃y,DataW.trod enc P w base spare held n f.type ((cs.drop f.offset).take (P.cellsOf f.type))=some y)→
     (l.foldr (λf r=>r.bind λ(acc:List FK)=>(vd P d f.type).bind λks=>if ks.length=P.cellsOf f.type∧f.offset+ks.length+acc.length=P.cellsOf t then some (ks++acc) else none)<|some [])=some acc→
     nq acc (cs.drop<|P.cellsOf t-acc.length)∧acc.length≤P.cellsOf t:=by
    intro l
    induction l with
    |nil=>intro acc _ hacc;simp at hacc;subst hacc;simp[←hl];trivial
    |cons f l ihl=>
     intro acc hfs hacc
     simp only[List.foldr_cons,Option.bind_eq_some_iff] at hacc
     obtain⟨acc',ha,kf,hk,hacc⟩:=hacc
     split at hacc<;>cases hacc
     rename_i hc
     obtain⟨h3,h4⟩:=ihl acc' (λf' hf'=>hfs f'<|List.mem_cons_of_mem _ hf') ha
     obtain⟨y,hy⟩:=hfs f<|by simp
     have h5:=ih _ _ _ _ _ hk hy
     refine⟨?_,by simp;omega⟩
     have h6:cs.drop (P.cellsOf t-(kf++acc').length)=(cs.drop f.offset).take (P.cellsOf f.type)++cs.drop (P.cellsOf t-acc'.length):=by
      have e1:P.cellsOf t-(kf++acc').length=f.offset:=by simp;omega
      have e2:P.cellsOf t-acc'.length=f.offset+P.cellsOf f.type:=by omega
      rw[e1,e2,←List.drop_drop,List.take_append_drop]
     rw[h6]
     exact CH h5 h3
   have:=(key fs.toList ks (λf hf'=>by
    obtain⟨i,hi⟩:=List.getElem?_of_mem hf'
    have h7:=hf i f<|by simpa using hi
    have hlt:i<xs.length:=by have:=(Zf.1 hi).1;simp at this;omega
    exact⟨xs[i],by rw[h7,Ze hlt]⟩) h1).1
   simpa[hkl] using this
  case h_5 m e ht=>
   obtain⟨xs,n,rfl,rfl,hl,hlen,hf⟩:=DataW.trod_array ht hx
   simp only[Option.bind_eq_some_iff] at h
   obtain⟨ke,h1,h2⟩:=h
   split at h2<;>cases h2
   rename_i hc
   have key: ∀j,j≤m→nq (List.replicate j ke).flatten (cs.drop<|(m-j)*P.cellsOf e):=by
    intro j
    induction j with
    |zero=>
     intro _
     have:cs.drop ((m-0)*P.cellsOf e)=[]:=by
      apply List.drop_eq_nil_of_le
      rw[hl,←hc.2,←hc.1];simp
     rw[this];trivial
    |succ j ihj=>
     intro hj
     have hy:=hf (m-(j+1))<|by omega
     have hlt:m-(j+1)<xs.length:=by omega
     rw[Ze hlt] at hy
     have h5:=ih _ _ _ _ _ h1 hy
     have h6:cs.drop ((m-(j+1))*P.cellsOf e)=(cs.drop<|(m-(j+1))*P.cellsOf e).take (P.cellsOf e)++cs.drop ((m-j)*P.cellsOf e):=by
      have e2:(m-j)*P.cellsOf e=(m-(j+1))*P.cellsOf e+P.cellsOf e:=by
       rw[show m-j=(m-(j+1))+1 by omega,Nat.add_mul,Nat.one_mul]
      rw[e2,←List.drop_drop,List.take_append_drop]
     rw[h6,List.replicate_succ,List.flatten_cons]
     exact CH h5<|ihj<|by omega
   simpa using key m (Nat.le_refl m)
  case h_6=>cases h
end
end Go.Proofs.YtobgjpigngoggaaGreat.V
namespace Go.Proofs.YtobgjpigngoggaaGreat.V
open Go
def jy(P:Program){α:Type}:Sem α→Option α
 | .pure a=>some a
 | .program k=>jy P<|k P
 | .mark _ k=>jy P k
 |_=>none
variable{α:Type}
theorem tI{P:Program}: ∀(s:Sem α)(a:α),jy P s=some a→ ∀w,s.run P w= .ok a w
 | .pure b,a,h,w=>by simp[jy] at h;subst h;rfl
 | .program k,a,h,w=>by simp only[jy] at h;exact tI (k P) a h w
 | .mark m k,a,h,w=>by simp only[jy] at h;exact tI k a h w
 | .load ..,a,h,w=>by simp[jy] at h
 | .store ..,a,h,w=>by simp[jy] at h
 | .new ..,a,h,w=>by simp[jy] at h
 | .shape ..,a,h,w=>by simp[jy] at h
 | .freeze ..,a,h,w=>by simp[jy] at h
 | .frozen ..,a,h,w=>by simp[jy] at h
 | .getObj ..,a,h,w=>by simp[jy] at h
 | .setObj ..,a,h,w=>by simp[jy] at h
 | .choose ..,a,h,w=>by simp[jy] at h
 | .sys ..,a,h,w=>by simp[jy] at h
 | .halt ..,a,h,w=>by simp[jy] at h
def ve(P:Program)(env:aT)(o:Oper):Option Value:=
 match jy P (execOp (yE env) o) with|some (.value v)=>some v|_=>none
structure Cx where
 P:Program
 w0:World
 S:List Nat
 H:List aI
abbrev Cx.call(κ:Cx)(f:FuncId)(args:Za)(v:Value):Prop:= ∀w,HS κ.w0 κ.S κ.H w→Calls κ.P f args.toArray w λe w'=>e= .returned v∧Fr [] w w'
abbrev Cx.rd(κ:Cx)(p:Addr)(vs:Za):Prop:=mR κ.w0 κ.S κ.H p vs
abbrev Cx.ix(κ:Cx)(A:k0)(len:Nat)(e:Int):Prop:=(0≤e∧e<(len:Int))∧ ∀w,HS κ.w0 κ.S κ.H w→A.isSome=true
inductive Hn where
 |p|w (e:Int)|eq|es|ld (i:Nat)|rd (vs:List Value)|ix|cq (v:Value)|sk|o|cl|st (i:Nat)|al|ct|si (u:UInt8)|ss
structure Fm where
 dg:Nat
 pol:Bool
 E:Bool
 seg:aT
structure Out where
 env:aT
 H:List aI
 eqs:List (Nat×Nat)
 C:Cx→Prop
def full(base:aT):List Fm→aT
 |[]=>base
 |f::fs=>f.seg++full base fs
def top(base:aT):List Fm→aT
 |[]=>base
 |f::_=>f.seg
def cO:List Fm→Bool
 |[]=>true
 |f::fs=>cO fs&&(f.E==f.pol)
def lZ:aT→Nat→Bool
 |[],_=>true
 |p::l,d=> !(Nat.beq p.1 d)&&lZ l d
def below(base:aT):List Fm→aT
 |[]=>[]
 |_::fs=>full base fs
def uP(base:aT):List Fm→Option Nat→Value→aT
 |[],d,v=>putE base d v
 |_::_,_,_=>base
def uQ:List Fm→Option Nat→Value→List Fm
 |[],_,_=>[]
 |f::fs,d,v=>⟨f.dg,f.pol,f.E,putE f.seg d v⟩::fs
def pY(n:Nat)(base:aT)(fs:List Fm):Option Nat→Bool
 |none=>true
 |some d=>Nat.blt d n&&lZ (below base fs) d
def lY(ops:Array Oper)(base:aT)(fs:List Fm)(o:Oper):Bool:=
 match fs with
 |[]=>(match pU ops base o with|some b=>b|none=>false)
 |f::_=>(match o.guard with
  |some (j,pol)=>(match(ops[j]?).bind (·.dst) with|some d=>Nat.beq d f.dg&&(pol==f.pol)|none=>false)
  |none=>false)
def q9(env:aT):List Nat→Option aT
 |[]=>some []
 |i::l=>match eo env i with
  |some v=>(match q9 env l with|some r=>some ((i,v)::r)|none=>none)
  |none=>none
def vf(H:List aI)(i:Nat):Option (Nat×List Value×TypeId):=match H[i]? with|some it=>it.row|none=>none
def YI(c:Cx→Prop)(fs:List Fm)(r:Cx→Prop):Cx→Prop:=
 match fs with
 |[]=>λκ=>c κ∧r κ
 |f::fs=>λκ=>(cO (f::fs)=true→c κ)∧r κ
def vg(env:aT):List Operand→Option (List Value)
 |[]=>some []
 |x::l=>match ev env x,vg env l with|some v,some vs=>some (v::vs)|_,_=>none
def pR(env:aT)(o:Oper):Option (FuncId×List Value):=match o.op with
 | .call c=>(match c.callee with
   | .value y=>(match ev env y with
     |some (.func (.func f) fs cs)=>(match vg env c.args.toList with|some vs=>some (f,fs.toList++vs++cs.toList)|none=>none)
     |_=>none)
   |_=>none)
 |_=>none
def pw(env:aT)(d:Int):Option Operand→Option Int
 |none=>some d
 |some x=>match ev env x with|some (.int _ e)=>some e|_=>none
structure Qv where
 v:Value
 eq:Option (Nat×Nat)
 c:Option (Cx→Prop)
def uj(P:Program)(env:aT)(neg:Bool)(t:TypeId)(x y:Operand):Option Value:=
 match ev env x,ev env y with
 |some (.agg xs),some (.agg ys)=>(match P.eqGuardType P.depth t,ju P 10000 t (.agg xs) (.agg ys) with|false,some b=>some (.bool<|bif neg then !b else b)|_,_=>none)
 |some (.bool b),some (.bool c)=>(match P.underlying t with|some .bool=>some (.bool<|bif neg then !(b==c) else(b==c))|_=>none)
 |some (.string b),some (.string c)=>some<|.bool<|bif neg then b !=c else b==c
 |_,_=>none
def jb(P:Program)(H:List aI)(clean:Bool)(env:aT)(o:Oper):Hn→Option Qv
 | .p=>match uL env o with|true=>(match ve P env o with|some v=>some ⟨v,none,none⟩|none=>none)|false=>none
 | .w e'=>match uL env o with|true=>(match ve P env o with|some (.int k e)=>some ⟨.int k e',none,some λ_=>e=e'⟩|_=>none)|false=>none
 | .eq=>match o.op with
   | .binOp .eql t x y _=>(match uj P env false t x y with|some v=>some ⟨v,none,none⟩|none=>none)
   | .binOp .neq t x y _=>(match uj P env true t x y with|some v=>some ⟨v,none,none⟩|none=>none)
   |_=>none
 | .ld i=>match o.op with
   | .load t x=>(match ev env x with
     |some (.pointer<|some ⟨b',off,none⟩)=>(match vf H i with
      |some (b,cs,_)=>(match np P t with
       |some k=>(match Nat.ble (off+k) cs.length with|true=>some ⟨.agg ((cs.drop off).take k).toArray,some (b',b),none⟩|false=>none)
       |none=>(match tP P t with|true=>(match cs[off]? with|some v=>some ⟨v,some (b',b),none⟩|none=>none)|false=>none))
      |none=>none)
     |_=>none)
   |_=>none
 | .rd vs=>match clean with
   |true=>(match o.op with
    | .load t x=>(match ev env x with
      |some (.pointer<|some p)=>(match np P t with
       |some k=>(match Nat.beq k vs.length with|true=>some ⟨.agg vs.toArray,none,some λκ=>κ.rd p vs⟩|false=>none)
       |none=>(match tP P t,vs with|true,[v]=>some ⟨v,none,some λκ=>κ.rd p [v]⟩|_,_=>none))
      |_=>none)
    |_=>none)
   |false=>none
 | .ix=>match clean with
   |true=>(match o.op with
    | .indexAddr t x y=>(match ev env x with
      |some (.slice A len _)=>(match ev env y with
       |some (.int _ e)=>(match P.underlying t with
        |some (.slice el)=>(match P.info? el with
         |some i=>some ⟨.pointer<|some<|(au A).add (e.toNat*i.size),none,some λκ=>κ.ix A len e⟩
         |none=>none)
        |_=>none)
       |_=>none)
      |_=>none)
    |_=>none)
   |false=>none
 | .cq v=>match clean with
   |true=>(match pR env o with
    |some (f,args)=>(match nE P f with
     |true=>some ⟨v,none,some λκ=>κ.call f args v⟩
     |false=>none)
    |none=>none)
   |false=>none
 | .ct=>match o.op with
   | .binOp .add _ x y _=>(match ev env x,ev env y with
     |some (.string b),some (.string c)=>some ⟨.string ⟨(b.data.toList++c.data.toList).toArray⟩,none,some λ_=>b.data.toList.length+c.data.toList.length≤9223372036854775807⟩
     |_,_=>none)
   |_=>none
 | .si u=>match o.op with
   | .index t x y=>(match ev env x,ev env y,P.underlying t with
     |some (.string s),some<|.int _ e,some .string=>some ⟨.int .u8 (u.toNat:Int),none,some λ_=>0≤e∧s.data.toList[e.toNat]? =some u⟩
     |_,_,_=>none)
   |_=>none
 | .ss=>match o.op with
   | .slice t x lo hi none=>(match ev env x,P.underlying t,pw env 0 lo with
     |some (.string s),some .string,some l=>(match pw env (s.data.toList.length:Int) hi with
      |some h=>some ⟨.string ⟨((s.data.toList.take h.toNat).drop l.toNat).toArray⟩,none,some λ_=>(0≤l∧l≤h)∧h≤(s.data.toList.length:Int)⟩
      |none=>none)
     |_,_,_=>none)
   |_=>none
 |_=>none
def Out.add(o:Out)(fs:List Fm)(q:Qv):Out:=
 ⟨o.env,o.H,(match q.eq with|some p=>p::o.eqs|none=>o.eqs),(match q.c with|some c=>YI c fs o.C|none=>o.C)⟩
def BP(f:Fm)(x y:Option Value):Option Value:=match x,y with
 |some (.bool a),some (.bool b)=>some<|.bool<|bif f.E then a else b
 |_,_=>none
def AN(base:aT)(f:Fm)(fs:List Fm)(o:Oper):Option Value:=
 match o.op with
 | .pick (.tmp c) x y=>(match Nat.beq c f.dg with
   |true=>(match f.pol with
    |true=>BP f (ev (f.seg++full base fs) x)<|ev (full base fs) y
    |false=>BP f (ev (full base fs) x)<|ev (f.seg++full base fs) y)
   |false=>none)
 |_=>none
def nb:List Hn→Nat
 |[]=>0
 | .al::l=>nb l+1
 |_::l=>nb l
def kn:List Hn→Nat
 |[]=>0
 | .o::l=>kn l
 |_::l=>kn l+1
def X(P:Program)(ops:Array Oper)(n:Nat)(dJ:List Nat):List Hn→List Oper→List Nat→aT→List Fm→List aI→Bool→Option Out
 |[],[],_,base,fs,H,_=>(match fs with|[]=>(match q9 base dJ with|some e=>some ⟨e,H,[],λ_=>True⟩|none=>none)|_=>none)
 |h::hs,o::ol,bs,base,fs,H,clean=>
  (match h with
  | .o=>(match o.guard with
    |some (j,pol)=>(match(ops[j]?).bind (·.dst) with
     |some d=>(match eo (top base fs) d with
      |some (.bool E)=>X P ops n dJ hs (o::ol) bs base (⟨d,pol,E,[]⟩::fs) H clean
      |_=>none)
     |none=>none)
    |none=>none)
  | .cl=>(match fs with
    |f::fs=>(match lY ops base fs o&&pY n base fs o.dst with
     |true=>(match AN base f fs o with
      |some v=>X P ops n dJ hs ol bs (uP base fs o.dst v) (uQ fs o.dst v) H clean
      |none=>none)
     |false=>none)
    |[]=>none)
  | .sk=>(match fs,pU ops base o,pY n base [] o.dst with
    |[],some false,true=>X P ops n dJ hs ol bs (putE base o.dst undef) [] H clean
    |_,_,_=>none)
  | .st i=>(match fs,lY ops base [] o,o.op with
    |[],true,.store t x y=>(match ev base x,ev base y,vf H i,o.dst with
     |some (.pointer<|some ⟨b',off,none⟩),some u,some (b,cs,ty),none=>
      (match(P.info? t).map (·.size) with
      |some k=>(match Nat.beq k u.cells.toList.length&&u.cells.toList.all Value.oneCell'&&Nat.ble (off+u.cells.toList.length) cs.length with
       |true=>(match X P ops n dJ hs ol bs base [] (H.set i<|aA b (cs.take off++u.cells.toList++cs.drop (off+u.cells.toList.length)) ty) false with
        |some r=>some ⟨r.env,r.H,(b',b)::r.eqs,r.C⟩
        |none=>none)
       |false=>none)
      |none=>none)
     |_,_,_,_=>none)
    |_,_,_=>none)
  | .al=>(match fs,lY ops base [] o,o.dst,bs with
    |[],true,some d,b::bs=>(match Nat.blt d n,o.op with
     |true,.box t x=>(match ev base x with
      |some u=>X P ops n dJ hs ol bs ((d,.pointer<|some ⟨b,0,none⟩)::base) [] (H++[aA b u.cells.toList t]) false
      |none=>none)
     |true,.alloc t=>(match(P.info? t).bind (·.zero) with
      |some z=>X P ops n dJ hs ol bs ((d,.pointer<|some ⟨b,0,none⟩)::base) [] (H++[aA b z.cells.toList t]) false
      |none=>none)
     |_,_=>none)
    |_,_,_,_=>none)
  |h=>(match lY ops base fs o&&pY n base fs o.dst with
   |true=>(match jb P H clean (full base fs) o h with
    |some q=>(match X P ops n dJ hs ol bs (uP base fs o.dst q.v) (uQ fs o.dst q.v) H clean with
     |some r=>some<|r.add fs q
     |none=>none)
    |none=>none)
   |false=>none))
 |_,_,_,_,_,_,_=>none
theorem O7(l1 l2:aT)(i:Nat):eo (l1++l2) i=match eo l1 i with|some v=>some v|none=>eo l2 i:=by
 induction l1 with
 |nil=>rfl
 |cons p l ih=>
  simp only[List.cons_append,eo]
  cases Nat.beq p.1 i<;>simp[ih]
theorem OR(l:aT)(i:Nat):eo (l.map λp=>(p.1,undef)) i=(eo l i).map λ_=>undef:=by
 induction l with
 |nil=>rfl
 |cons p l ih=>
  simp only[List.map_cons,eo]
  cases Nat.beq p.1 i<;>simp[ih]
theorem OV(l1 l2:aT)(d:Nat):lZ (l1++l2) d=(lZ l1 d&&lZ l2 d):=by
 induction l1 with
 |nil=>simp[lZ]
 |cons p l ih=>simp[lZ,ih,Bool.and_assoc]
theorem Om(l:aT)(d:Nat):lZ (l.map λp=>(p.1,undef)) d=lZ l d:=by
 induction l with
 |nil=>rfl
 |cons p l ih=>simp[lZ,ih]
variable{d i:Nat}{v:Value}
theorem O8{l:aT}(h:lZ l d=true)(hl:eo l i=some v):i≠d:=by
 induction l with
 |nil=>simp[eo] at hl
 |cons p l ih=>
  simp only[lZ,Bool.and_eq_true,Bool.not_eq_true'] at h
  rcases tO (d:=p.1) (v:=p.2) hl with⟨rfl,_⟩|⟨_,hl'⟩
  ·exact Nat.ne_of_beq_eq_false h.1
  ·exact ih h.2 hl'
variable{n:Nat}{a:Act}
theorem Rep.put_fresh{env:aT}{u:Value}(h:Rep n env a)(hf:lZ env d=true):Rep n env (a.put (some d) u):=by
 refine⟨by simp[Act.put,h.size],by simpa[Act.put] using h.nod,λi v hv=>?_⟩
 have hne:=O8 hf hv
 have:=h.get i v hv
 simp only[Act.put,Array.getD_eq_getD_getElem?] at this⊢
 rw[Array.getElem?_setIfInBounds_ne<|Ne.symm hne];exact this
theorem Rep.append{e1 e2:aT}(h1:Rep n e1 a)(h2:Rep n e2 a):Rep n (e1++e2) a:=
 ⟨h1.size,h1.nod,λi v hv=>by
  rw[O7] at hv
  cases hl:eo e1 i with
  |some u=>rw[hl] at hv;simp at hv;subst hv;exact h1.get i u hl
  |none=>rw[hl] at hv;exact h2.get i v hv⟩
structure YJ(n:Nat)(seg:aT)(c:Bool)(a:Act):Prop where
 yes:c=true→Rep n seg a
 no:c=false→Rep n (seg.map λp=>(p.1,undef)) a
def Ri(n:Nat)(base:aT):List Fm→Act→Prop
 |[],a=>Rep n base a
 |f::fs,a=>Ri n base fs a∧eo (top base fs) f.dg=some (.bool f.E)∧YJ n f.seg (cO<|f::fs) a
variable{base:aT}
theorem Ri.full: ∀{fs:List Fm},Ri n base fs a→cO fs=true→Rep n (full base fs) a
 |[],h,_=>h
 |f::fs,h,hc=>by
  have hc':=hc
  simp only[cO,Bool.and_eq_true] at hc'
  exact(h.2.2.yes hc).append (Ri.full h.1 hc'.1)
variable{fs:List Fm}
theorem Ri.top(h:Ri n base fs a)(hl:eo (top base fs) d=some v):Rep n [(d,bif cO fs then v else undef)] a:=by
 cases fs with
 |nil=>
  have h1:Rep n base a:=h
  exact⟨h1.size,h1.nod,λi u hu=>by rcases tO hu with⟨rfl,rfl⟩|⟨_,hl'⟩;exact h1.get _ _ hl;simp[eo] at hl'⟩
 |cons f fs=>
  have hr:=h.2.2
  cases hc:cO (f::fs) with
  |true=>
   have h1:=hr.yes hc
   exact⟨h1.size,h1.nod,λi u hu=>by rcases tO hu with⟨rfl,rfl⟩|⟨_,hl'⟩;exact h1.get _ _ hl;simp[eo] at hl'⟩
  |false=>
   have h1:=hr.no hc
   exact⟨h1.size,h1.nod,λi u hu=>by rcases tO hu with⟨rfl,rfl⟩|⟨_,hl'⟩;exact h1.get _ _ (by rw[OR];show(eo f.seg _).map _=_;rw[show eo f.seg d=some v from hl];rfl);simp[eo] at hl'⟩
theorem Ri.wanted{ops:Zb}{o:Oper}(h:Ri n base fs a)(hg:lY ops base fs o=true):Region.wanted o (yielded ops a.tmps)=cO fs:=by
 cases fs with
 |nil=>
  simp only[lY] at hg
  cases hw:pU ops base o with
  |none=>rw[hw] at hg;simp at hg
  |some b=>rw[hw] at hg;simp only at hg;rw[ic h hw,hg];rfl
 |cons f fs=>
  simp only[lY] at hg
  cases hgd:o.guard with
  |none=>rw[hgd] at hg;simp at hg
  |some jp=>
   obtain⟨j,pol⟩:=jp
   rw[hgd] at hg
   simp only at hg
   cases hd:(ops[j]?).bind (·.dst) with
   |none=>rw[hd] at hg;simp at hg
   |some d=>
    rw[hd] at hg
    simp only[Bool.and_eq_true] at hg
    obtain⟨h1,h2⟩:=hg
    obtain rfl:=Nat.eq_of_beq_eq_true h1
    have hp:pol=f.pol:=by simpa using h2
    have ht:=Ri.top h.1 h.2.1
    refine ic ht ?_
    simp only[pU,hgd,hd,Option.bind_some,eo,Nat.beq_refl]
    cases hc:cO fs<;>simp[cO,hc,hp,undef]
theorem Ri.put_fresh{u:Value}: ∀{fs:List Fm},Ri n base fs a→lZ (V.full base fs) d=true→Ri n base fs (a.put (some d) u)
 |[],h,hf=>Rep.put_fresh h hf
 |f::fs,h,hf=>by
  simp only[V.full,OV,Bool.and_eq_true] at hf
  exact⟨Ri.put_fresh h.1 hf.2,h.2.1,⟨λhc=>(h.2.2.yes hc).put_fresh hf.1,λhc=>(h.2.2.no hc).put_fresh (by rw[Om];exact hf.1)⟩⟩
theorem Ri.put{d:Option Nat}(h:Ri n base fs a)(hs:pY n base fs d=true):Ri n (uP base fs d v) (uQ fs d v) (a.put d<|bif cO fs then v else undef):=by
 cases d with
 |none=>cases fs<;>exact h
 |some d=>
  simp only[pY,Bool.and_eq_true] at hs
  have hd:d<n:=Nat.le_of_ble_eq_true hs.1
  cases fs with
  |nil=>exact Rep.put h hd
  |cons f fs=>
   have hf:lZ (V.full base fs) d=true:=hs.2
   refine⟨Ri.put_fresh h.1 hf,h.2.1,⟨λhc=>?_,λhc=>?_⟩⟩
   ·have hc':cO (f::fs)=true:=hc
    rw[hc'];exact(h.2.2.yes hc').put hd
   ·have hc':cO (f::fs)=false:=hc
    rw[hc'];exact(h.2.2.no hc').put hd
theorem Ri.open_{pol E:Bool}(h:Ri n base fs a)(hl:eo (V.top base fs) d=some (.bool E)):Ri n base (⟨d,pol,E,[]⟩::fs) a:=by
 refine⟨h,hl,?_⟩
 have:Rep n [] a:=by
  have:=Ri.top h hl
  exact this.nil
 exact⟨λ_=>this,λ_=>this⟩
theorem yf{env:aT}(h:Rep n env a): ∀{dJ:E6}{e:aT},q9 env dJ=some e→Rep n e a
 |[],e,hk=>by simp[q9] at hk;subst hk;exact h.nil
 |i::l,e,hk=>by
  simp only[q9] at hk
  cases hl:eo env i with
  |none=>rw[hl] at hk;simp at hk
  |some v=>
   rw[hl] at hk
   simp only at hk
   cases hr:q9 env l with
   |none=>rw[hr] at hk;simp at hk
   |some r=>rw[hr] at hk;simp at hk;subst hk;exact h.cons hl<|yf h hr
section
variable{P:Program}{Q:Exit→Wy}{n:Nat}{env:aT}{w0:World}{S:E6}{H:List aI}{ops:Zb}{o:Oper}
variable{cs:Za}{t:TypeId}
theorem HM{b:Nat}(h:vf H i=some (b,cs,t)): ∃it,H[i]? =some it∧it.foot=[b]∧ ∀w,it.holds w→w.heap[b]? =some (.cells cs.toArray t (0,0)):=by
 unfold vf at h
 cases hi:H[i]? with
 |none=>rw[hi] at h;simp at h
 |some it=>rw[hi] at h;exact⟨it,rfl,it.rowOk b cs t h⟩
theorem Hg{b off:Nat}{vs:Za}(hi:vf H i=some (b,cs,t))(hv:(cs.drop off).take vs.length=vs):mR w0 S H ⟨b,off,none⟩ vs:=by
 obtain⟨it,h1,_,h2⟩:=HM hi
 intro w s j u hu
 rw[oZ,cell_of_row w b (off+j) cs.toArray t (0,0)<|h2 w<|s.mem h1]
 rw[←hv,List.getElem?_take] at hu
 split at hu
 ·rw[List.getElem?_drop] at hu;simpa using hu
 ·cases hu
variable{ty:TypeId}{x y:Operand}
theorem HD(ho:o.op= .binOp .eql t x y ty)(h:uj P env false t x y=some v):Qt P n env w0 S H o v:=by
 unfold uj at h
 split at h
 ·rename_i xs ys hx hy
  split at h
  ·rename_i b hg he;simp at h;subst h;exact R7 ho hx hy hg he
  ·cases h
 ·rename_i b c hx hy
  split at h
  ·rename_i ht;simp at h;subst h;exact Rb ho hx hy ht
  ·cases h
 ·rename_i b c hx hy
  simp at h;subst h;exact Rj ho hx hy
 ·cases h
theorem HE(ho:o.op= .binOp .neq t x y ty)(h:uj P env true t x y=some v):Qt P n env w0 S H o v:=by
 unfold uj at h
 split at h
 ·rename_i xs ys hx hy
  split at h
  ·rename_i b hg he;simp at h;subst h;exact R9 ho hx hy hg he
  ·cases h
 ·rename_i b c hx hy
  split at h
  ·rename_i ht;simp at h;subst h;exact Re ho hx hy ht
  ·cases h
 ·rename_i b c hx hy
  simp at h;subst h;exact Rk ho hx hy
 ·cases h
theorem Hh: ∀{l:List Operand}{vs:Za},vg env l=some vs→l.map (ev env)=vs.map some
 |[],vs,h=>by simp[vg] at h;subst h;rfl
 |x::l,vs,h=>by
  simp only[vg] at h
  cases hx:ev env x with
  |none=>rw[hx] at h;simp at h
  |some v=>
   cases hl:vg env l with
   |none=>rw[hx,hl] at h;simp at h
   |some us=>rw[hx,hl] at h;simp at h;subst h;simp[hx,Hh hl]
variable{k:IntKind}
theorem UC{el:TypeId}{A:k0}{len cap:Nat}{i:TypeInfo}{e:Int}(ho:o.op= .indexAddr t x y)(hx:ev env x=some (.slice A len cap))(hy:ev env y=some (.int k e))
  (ht:P.underlying t=some (.slice el))(hinf:P.info? el=some i)(hi:0≤e∧e<(len:Int))(hA: ∀w,HS w0 S H w→A.isSome=true):
  Qt P n env w0 S H o (.pointer<|some<|(au A).add (e.toNat*i.size)):=
 gr λa w r s=>by
  obtain⟨b,rfl⟩:=Option.isSome_iff_exists.1<|hA w s
  simp[execOp,ho,r.ev hx,r.ev hy,Instr.indexAt,asIntOf,run_underlying ht,sizeOf,typeInfo,hinf,hi,au]
variable{f:FuncId}
theorem O9(hf:nE P f=true): ∃fn,P.funcs[f]? =some fn∧fn.name≠ "runtime.NumGoroutine" ∧fn.body≠none:=by
 unfold nE at hf
 cases hp:P.funcs[f]? with
 |none=>rw[hp] at hf;simp at hf
 |some fn=>
  rw[hp] at hf
  simp only[Bool.and_eq_true,bne_iff_ne,ne_eq] at hf
  exact⟨fn,rfl,hf.1,by cases hb:fn.body<;>simp_all⟩
variable{args:Za}{w:World}
theorem Cd(r:Rep n env a)(h:pR env o=some (f,args))(hf:nE P f=true):(execOp a.eval o).run P w= .ok (.enter f args.toArray) w:=by
 unfold pR at h
 split at h
 case h_2=>cases h
 rename_i c ho
 split at h
 case h_2=>cases h
 rename_i y hy
 split at h
 case h_2=>cases h
 rename_i g fs cs hv
 split at h
 case h_2=>cases h
 rename_i vs hvs
 simp at h;obtain⟨rfl,rfl⟩:=h
 obtain⟨fn,h1,h2,h3⟩:=O9 hf
 have ha:c.args.map a.eval=vs.toArray:=QF r<|Hh hvs
 simp[execOp,ho,resolve,hy,r.ev hv,Deferred.ofValue,invoke,callFunc,h1,h2,h3,ha]
theorem QJ(h:pR env o=some (f,args))(hf:nE P f=true)(hc: ∀w,HS w0 S H w→Calls P f args.toArray w λe w'=>e= .returned v∧Fr [] w w'):Qt P n env w0 S H o v:=by
 intro a w r s
 rw[Cd r h hf]
 exact hc w s
theorem Rm(b c:ByteArray):b++c=⟨(b.data.toList++c.data.toList).toArray⟩:=by
 obtain⟨⟨l⟩⟩:=b;obtain⟨⟨m⟩⟩:=c
 apply ByteArray.ext;simp[ByteArray.data_append]
theorem yv(s:ByteArray):s.size=s.data.toList.length:=rfl
theorem Ro{b c:ByteArray}(ho:o.op= .binOp .add t x y ty)(hx:ev env x=some (.string b))(hy:ev env y=some (.string c))(h:b.data.toList.length+c.data.toList.length≤9223372036854775807):
  Qt P n env w0 S H o (.string ⟨(b.data.toList++c.data.toList).toArray⟩):=
 gr λa w r _=>by
  have h1:b.size+c.size≤9223372036854775807:=h
  have h2: ¬((b.size+c.size:Nat):Int)>IntKind.i64.max:=by simp only[IntKind.max,IntKind.signed,IntKind.bits];simp;omega
  have h3:(Op.stringOp .add b c).run P w= .ok (.string ⟨(b.data.toList++c.data.toList).toArray⟩) w:=by
   unfold Op.stringOp;simp only[];rw[if_neg h2,←Rm];rfl
  simp[execOp,ho,r.ev hx,r.ev hy,eqGuard,binOp,h3]
variable{s:ByteArray}
theorem Rq{e:Int}{u:UInt8}(ho:o.op= .index t x y)(hx:ev env x=some (.string s))(hy:ev env y=some (.int k e))(ht:P.underlying t=some .string)
  (h0:0≤e)(hu:s.data.toList[e.toNat]? =some u):Qt P n env w0 S H o (.int .u8 (u.toNat:Int)):=
 gr λa w r _=>by
  have hs:s[e.toNat]? =some u:=by
   obtain⟨hlt,hg⟩:=Zf.1 hu
   have hlt':e.toNat<s.size:=by rw[yv];exact hlt
   rw[getElem?_pos s e.toNat hlt'];congr 1
  simp[execOp,ho,r.ev hx,r.ev hy,Instr.index,asIntOf,run_underlying ht,h0,hs]
theorem PQ{lo hi:Option Operand}{l h:Int}(ho:o.op= .slice t x lo hi none)(hx:ev env x=some (.string s))(ht:P.underlying t=some .string)
  (hl:pw env 0 lo=some l)(hh:pw env (s.data.toList.length:Int) hi=some h)(h1:0≤l∧l≤h)(h2:h≤(s.data.toList.length:Int)):Qt P n env w0 S H o (.string ⟨((s.data.toList.take h.toNat).drop l.toNat).toArray⟩):=
 gr λa w r _=>by
  have hex:s.extract l.toNat h.toNat=⟨((s.data.toList.take h.toNat).drop l.toNat).toArray⟩:=by
   apply ByteArray.ext;apply Array.ext'
   rw[Go.Lib.extract_data,List.drop_take]
  obtain⟨hn,rfl⟩: ∃hn:Nat,h=(hn:Int):=⟨h.toNat,by omega⟩
  obtain⟨ln,rfl⟩: ∃ln:Nat,l=(ln:Int):=⟨l.toNat,by omega⟩
  have g2:hn≤s.size:=by have:=yv s;omega
  have g1:ln≤hn:=by omega
  simp only[Int.toNat_natCast] at hex⊢
  rw[←hex]
  have hb:(Instr.sliceBounds false s.size s.size (lo.map a.eval) (hi.map a.eval) none).run P w= .ok (ln,hn,s.size) w:=by
   cases lo with
   |none=>
    simp only[pw,Option.some.injEq] at hl
    obtain rfl:ln=0:=by omega
    cases hi with
    |none=>
     simp only[pw,Option.some.injEq] at hh
     obtain rfl:hn=s.size:=by have:=yv s;omega
     simp[Instr.sliceBounds]
    |some v=>
     simp only[pw] at hh;split at hh
     ·rename_i k e hv;simp only[Option.some.injEq] at hh;subst hh
      simp[Instr.sliceBounds,Instr.sliceBound,r.ev hv,asIntOf,g2]
     ·cases hh
   |some u=>
    simp only[pw] at hl;split at hl
    case h_2=>cases hl
    rename_i k' e' hu
    simp only[Option.some.injEq] at hl;subst hl
    cases hi with
    |none=>
     simp only[pw,Option.some.injEq] at hh
     obtain rfl:hn=s.size:=by have:=yv s;omega
     simp[Instr.sliceBounds,Instr.sliceBound,r.ev hu,asIntOf,g1]
    |some v=>
     simp only[pw] at hh;split at hh
     ·rename_i k e hv;simp only[Option.some.injEq] at hh;subst hh
      simp[Instr.sliceBounds,Instr.sliceBound,r.ev hu,r.ev hv,asIntOf,g1,g2]
     ·cases hh
  simp[execOp,ho,r.ev hx,Instr.sliceAt,Instr.slice,run_underlying ht,hb]
theorem CJ{clean:Bool}{h:Hn}{q:Qv}{Hc:List aI}(hq:jb P H clean env o h=some q)(heq: ∀p,q.eq=some p→p.1=p.2)(hc: ∀c,q.c=some c→c ⟨P,w0,S,Hc⟩)(hH:clean=true→Hc=H):
  Qt P n env w0 S H o q.v:=by
 cases h with
 |p=>
  simp only[jb] at hq
  split at hq
  ·rename_i hok
   split at hq
   ·rename_i v hv
    simp at hq;subst hq
    refine jM hok λw=>?_
    unfold ve at hv
    split at hv
    ·rename_i u hu;simp at hv;subst hv;exact tI _ _ hu w
    ·cases hv
   ·cases hq
  ·cases hq
 |w e'=>
  simp only[jb] at hq
  split at hq
  ·rename_i hok
   split at hq
   ·rename_i k e hv
    simp at hq;subst hq
    have he:e=e':=hc _ rfl
    subst he
    refine jM hok λw=>?_
    unfold ve at hv
    split at hv
    ·rename_i u hu;simp at hv;subst hv;exact tI _ _ hu w
    ·cases hv
   ·cases hq
  ·cases hq
 |eq=>
  simp only[jb] at hq
  split at hq
  ·rename_i t x y ty ho
   split at hq
   ·rename_i v hv;simp at hq;subst hq;exact HD ho hv
   ·cases hq
  ·rename_i t x y ty ho
   split at hq
   ·rename_i v hv;simp at hq;subst hq;exact HE ho hv
   ·cases hq
  ·cases hq
 |ld i=>
  simp only[jb] at hq
  split at hq
  ·rename_i t x ho
   split at hq
   ·rename_i b' off hx
    split at hq
    ·rename_i b cs ty hr
     split at hq
     ·rename_i k hk
      split at hq
      ·rename_i hle
       simp at hq;subst hq
       have hb:b'=b:=heq _ rfl
       subst hb
       have hlen:((cs.drop off).take k).length=k:=by simp;have:=Nat.le_of_ble_eq_true hle;omega
       exact yt (vs:=(cs.drop off).take k) ho hx (by rw[hlen];exact hk)<|Hg hr<|by rw[hlen]
      ·cases hq
     ·split at hq
      ·rename_i hs
       split at hq
       ·rename_i v hv
        simp at hq;subst hq
        have hb:b'=b:=heq _ rfl
        subst hb
        refine nA ho hx hs<|Hg hr ?_
        obtain⟨hlt,hget⟩:=Zf.1 hv
        rw[List.drop_eq_getElem_cons hlt,hget];simp
       ·cases hq
      ·cases hq
    ·cases hq
   ·cases hq
  ·cases hq
 |rd vs=>
  simp only[jb] at hq
  split at hq
  ·rename_i hcl
   have hH':=hH rfl
   subst hH'
   split at hq
   ·rename_i t x ho
    split at hq
    ·rename_i p hx
     split at hq
     ·rename_i k hk
      split at hq
      ·rename_i hb
       simp at hq;subst hq
       have:=Nat.eq_of_beq_eq_true hb
       subst this
       exact yt ho hx hk<|hc _ rfl
      ·cases hq
     ·split at hq
      ·rename_i hs
       simp at hq;subst hq
       exact nA ho hx hs<|hc _ rfl
      ·cases hq
    ·cases hq
   ·cases hq
  ·cases hq
 |ix=>
  simp only[jb] at hq
  split at hq
  ·rename_i hcl
   have hH':=hH rfl
   subst hH'
   split at hq
   ·rename_i t x y ho
    split at hq
    ·rename_i A len cap hx
     split at hq
     ·rename_i k e hy
      split at hq
      ·rename_i el ht
       split at hq
       ·rename_i i hi
        simp at hq;subst hq
        have h:=hc _ rfl
        exact UC ho hx hy ht hi h.1 h.2
       ·cases hq
      ·cases hq
     ·cases hq
    ·cases hq
   ·cases hq
  ·cases hq
 |cq v=>
  simp only[jb] at hq
  split at hq
  ·rename_i hcl
   have hH':=hH rfl
   subst hH'
   split at hq
   ·rename_i f args ha
    split at hq
    ·rename_i hf
     simp at hq;subst hq
     exact QJ ha hf<|hc _ rfl
    ·cases hq
   ·cases hq
  ·cases hq
 |ct=>
  simp only[jb] at hq
  split at hq
  ·rename_i t x y ty ho
   split at hq
   ·rename_i b c hx hy
    simp only[Option.some.injEq] at hq;subst hq
    exact Ro ho hx hy<|hc _ rfl
   ·cases hq
  ·cases hq
 |si u=>
  simp only[jb] at hq
  split at hq
  ·rename_i t x y ho
   split at hq
   ·rename_i s k e hx hy ht
    simp only[Option.some.injEq] at hq;subst hq
    have h:=hc _ rfl
    exact Rq ho hx hy ht h.1 h.2
   ·cases hq
  ·cases hq
 |ss=>
  simp only[jb] at hq
  split at hq
  ·rename_i t x lo hi ho
   split at hq
   ·rename_i s l hx ht hl
    split at hq
    ·rename_i h hh
     simp only[Option.some.injEq] at hq;subst hq
     have g:=hc _ rfl
     exact PQ ho hx ht hl hh g.1 g.2
    ·cases hq
   ·cases hq
  ·cases hq
 |es|sk|o|cl|st|al=>simp[jb] at hq
theorem wX{rest:List Oper}(h1:cz P ops o (wpList P ops Q rest) a w):wpList P ops Q (o::rest) a w:=by
 unfold cz at h1
 show if Region.wanted o (yielded ops a.tmps) then _ else _
 split
 ·rename_i hw
  rw[if_pos hw] at h1
  exact .inl<|Oper.wp_imp h1 λ_ _ h=>h
 ·rename_i hw
  rw[if_neg hw] at h1
  exact h1
theorem CL{f:Fm}(hr:Ri n base (f::fs) a)(hc:cO fs=true)(h:AN base f fs o=some v)(w:World):(execOp a.eval o).run P w= .ok (.value v) w:=by
 unfold AN at h
 split at h
 case h_2=>cases h
 rename_i c x y ho
 split at h
 case h_2=>cases h
 rename_i hb
 have hcf:=Nat.eq_of_beq_eq_true hb
 subst hcf
 have hE:a.eval (.tmp f.dg)= .bool f.E:=by
  have:=Ri.top hr.1 hr.2.1
  rw[hc] at this
  exact this.ev (x:= .tmp f.dg)<|by simp[ev,eo]
 have hout: ∀z u,ev (V.full base fs) z=some u→a.eval z=u:=λz u hz=>(Ri.full hr.1 hc).ev hz
 have hin:(f.E==f.pol)=true→ ∀z u,ev (f.seg++V.full base fs) z=some u→a.eval z=u:=λhe z u hz=>by
  have h1:cO (f::fs)=true:=by simp only[cO,hc,he];rfl
  exact(Ri.full hr h1).ev hz
 have hrun: ∀{xa ya:Bool},(f.E=true→a.eval x= .bool xa)→(f.E=false→a.eval y= .bool ya)→(execOp a.eval o).run P w= .ok (.value<|.bool<|bif f.E then xa else ya) w:=by
  intro xa ya h1 h2
  cases hfe:f.E with
  |true=>rw[hfe] at hE;simp[execOp,ho,hE,asBool,h1 hfe]
  |false=>rw[hfe] at hE;simp[execOp,ho,hE,asBool,h2 hfe]
 cases hp:f.pol with
 |true=>
  rw[hp] at h
  simp only[BP] at h
  split at h
  ·rename_i xa ya hx hy
   simp at h;subst h
   exact hrun (λhe=>hin (by rw[he,hp];rfl) _ _ hx)<|λ_=>hout _ _ hy
  ·cases h
 |false=>
  rw[hp] at h
  simp only[BP] at h
  split at h
  ·rename_i xa ya hx hy
   simp at h;subst h
   exact hrun (λ_=>hout _ _ hx)<|λhe=>hin (by rw[he,hp];rfl) _ _ hy
  ·cases h
theorem On{K:Wy}(hr:Ri n base fs a)(hs:HS w0 S H w)(hg:lY ops base fs o=true)
  (hq:cO fs=true→Qt P n (V.full base fs) w0 S H o v)(hk: ∀w',HS w0 S H w'→K (a.put o.dst<|bif cO fs then v else undef) w'):cz P ops o K a w:=by
 unfold cz
 rw[hr.wanted hg]
 cases hc:cO fs with
 |true=>
  rw[if_pos rfl]
  refine CO (hq hc a w (hr.full hc) hs) λw' hf=>?_
  have:=hk w'<|hs.kept hf;rw[hc] at this;exact this
 |false=>
  rw[if_neg<|by decide]
  have:=hk w hs;rw[hc] at this;exact this
end
section
variable{P:Program}{Q:Exit→Wy}{n:Nat}{env:aT}{w0:World}{S:E6}{H:List aI}{ops:Zb}{o:Oper}{K:Wy}
structure Good(P:Program)(n:Nat)(w0:World)(S:List Nat)(Hc:List aI)(K:Act→World→Prop)(r:Out):Prop where
 eqs: ∀p∈r.eqs,p.1=p.2
 c:r.C ⟨P,w0,S,Hc⟩
 go:A n r.env w0 S r.H K
variable{Hc:List aI}
theorem Good.tail{r:Out}{q:Qv}(h:Good P n w0 S Hc K (r.add fs q)):Good P n w0 S Hc K r∧(∀p,q.eq=some p→p.1=p.2)∧(cO fs=true→ ∀c,q.c=some c→c ⟨P,w0,S,Hc⟩):=by
 obtain⟨h1,h2,h3⟩:=h
 refine⟨⟨λp hp=>h1 p ?_,?_,h3⟩,λp hp=>h1 p ?_,λhc c hqc=>?_⟩
 ·simp only[Out.add];cases q.eq<;>simp[hp]
 ·simp only[Out.add] at h2
  cases hqc:q.c with
  |none=>rw[hqc] at h2;exact h2
  |some c=>rw[hqc] at h2;cases fs<;>exact h2.2
 ·simp only[Out.add,hp];simp
 ·simp only[Out.add,hqc] at h2
  cases fs with
  |nil=>exact h2.1
  |cons f fs=>exact h2.1 hc
def Y4(P:Program)(n:Nat)(w0:World)(S:List Nat)(ops:Array Oper)(dJ:List Nat)(Hc:List aI)(K:Act→World→Prop)(hs:List Hn)(ol:List Oper)(base:aT)(fs:List Fm)(H:List aI)(clean:Bool):Prop:=
 ∀bs:List Nat,bs.length=nb hs→ ∃r,X P ops n dJ hs ol bs base fs H clean=some r∧Good P n w0 S Hc K r
theorem Rr{h:Hn}{hs:List Hn}(hne:h≠ .al):nb (h::hs)=nb hs:=by cases h<;>simp_all[nb]
def ns(k:Nat):List Nat:=List.replicate k 0
theorem pJ{k:Nat}:(ns k).length=k:=by simp[ns]
theorem JH{dJ:E6}{rest:List Oper}: ∀(hs:List Hn)(ol:List Oper)(base:aT)(fs:List Fm)(H:List aI)(clean:Bool),(clean=true→Hc=H)→
  Y4 P n w0 S ops dJ Hc (wpList P ops Q rest) hs ol base fs H clean→ ∀a w,Ri n base fs a→HS w0 S H w→wpList P ops Q (ol++rest) a w:=by
 intro hs
 induction hs with
 |nil=>
  intro ol base fs H clean hcl hx a w hr hsp
  obtain⟨r,hX,hG⟩:=hx [] rfl
  cases ol with
  |cons o ol=>simp[X] at hX
  |nil=>
   cases fs with
   |cons f fs=>simp[X] at hX
   |nil=>
    simp only[X] at hX
    cases hk:q9 base dJ with
    |none=>rw[hk] at hX;simp at hX
    |some e=>
     rw[hk] at hX
     simp at hX;subst hX
     exact hG.go a w (yf hr hk) hsp
 |cons h hs ih=>
  intro ol base fs H clean hcl hx a w hr hsp
  cases ol with
  |nil=>obtain⟨r,hX,hG⟩:=hx (ns _) pJ;cases h<;>simp[X] at hX
  |cons o ol=>
   have quiet:(h.casesOn (motive:=λ_=>Prop) True (λ_=>True) True True (λ_=>True) (λ_=>True) True (λ_=>True) False False False (λ_=>False) False True (λ_=>True) True:Prop)→wpList P ops Q (o::ol++rest) a w:=by
    intro hh
    have hne:h≠ .al:=by intro e;subst e;exact hh
    have hX: ∀bs,bs.length=nb hs→ ∃q r,lY ops base fs o=true∧pY n base fs o.dst=true∧jb P H clean (V.full base fs) o h=some q∧X P ops n dJ hs ol bs (uP base fs o.dst q.v) (uQ fs o.dst q.v) H clean=some r∧Good P n w0 S Hc (wpList P ops Q rest) (r.add fs q):=by
     intro bs hbs
     obtain⟨r,hX,hG⟩:=hx bs (by rw[Rr hne];exact hbs)
     cases h<;>simp only[X] at hX<;>first|exact hh.elim|skip
     all_goals
      split at hX
      case h_2=>cases hX
      rename_i hgs
      simp only[Bool.and_eq_true] at hgs
      split at hX
      case h_2=>cases hX
      rename_i q hq
      split at hX
      case h_2=>cases hX
      rename_i r' hr'
      simp at hX;subst hX
      exact⟨q,r',hgs.1,hgs.2,hq,hr',hG⟩
    obtain⟨q,r,hg,hsl,hq,_,hG⟩:=hX (ns _) pJ
    refine wX<|On hr hsp hg (v:=q.v) (λhc=>CJ (Hc:=Hc) hq hG.tail.2.1 (hG.tail.2.2 hc) hcl) λw' hs'=>?_
    refine ih ol _ _ H clean hcl (λbs hbs=>?_) _ w' (hr.put hsl) hs'
    obtain⟨q',r',_,_,hq',hX',hG'⟩:=hX bs hbs
    rw[hq] at hq'
    simp at hq';subst hq'
    exact⟨r',hX',hG'.tail.1⟩
   cases h with
   |p|w e|eq|es|ld i|rd vs|ix|cq v|ct|si u|ss=>exact quiet trivial
   |o=>
    have hX: ∀bs,bs.length=nb hs→ ∃d pol E r,eo (V.top base fs) d=some (.bool E)∧X P ops n dJ hs (o::ol) bs base (⟨d,pol,E,[]⟩::fs) H clean=some r∧Good P n w0 S Hc (wpList P ops Q rest) r∧(∃j,o.guard=some (j,pol)∧(ops[j]?).bind (·.dst)=some d):=by
     intro bs hbs
     obtain⟨r,hX,hG⟩:=hx bs hbs
     simp only[X] at hX
     split at hX
     case h_2=>cases hX
     rename_i j pol hgd
     split at hX
     case h_2=>cases hX
     rename_i d hd
     split at hX
     case h_2=>cases hX
     rename_i E hE
     exact⟨d,pol,E,r,hE,hX,hG,j,hgd,hd⟩
    obtain⟨d,pol,E,r,hE,_,_,j,hgd,hd⟩:=hX (ns _) pJ
    refine ih (o::ol) base (⟨d,pol,E,[]⟩::fs) H clean hcl (λbs hbs=>?_) a w (hr.open_ hE) hsp
    obtain⟨d',pol',E',r',hE',hX',hG',j',hgd',hd'⟩:=hX bs hbs
    rw[hgd] at hgd';simp at hgd';obtain⟨rfl,rfl⟩:=hgd'
    rw[hd] at hd';simp at hd';subst hd'
    rw[hE] at hE';simp at hE';subst hE'
    exact⟨r',hX',hG'⟩
   |cl=>
    cases fs with
    |nil=>obtain⟨r,hX,hG⟩:=hx (ns _) pJ;simp[X] at hX
    |cons f fs=>
     have hX: ∀bs,bs.length=nb hs→ ∃v r,lY ops base fs o=true∧pY n base fs o.dst=true∧AN base f fs o=some v∧X P ops n dJ hs ol bs (uP base fs o.dst v) (uQ fs o.dst v) H clean=some r∧Good P n w0 S Hc (wpList P ops Q rest) r:=by
      intro bs hbs
      obtain⟨r,hX,hG⟩:=hx bs hbs
      simp only[X] at hX
      split at hX
      case h_2=>cases hX
      rename_i hgs
      simp only[Bool.and_eq_true] at hgs
      split at hX
      case h_2=>cases hX
      rename_i v hv
      exact⟨v,r,hgs.1,hgs.2,hv,hX,hG⟩
     obtain⟨v,r,hg,hsl,hv,_,_⟩:=hX (ns _) pJ
     refine wX ?_
     have hk: ∀w',HS w0 S H w'→wpList P ops Q (ol++rest) (a.put o.dst<|bif cO fs then v else undef) w':=λw' hs'=>by
      refine ih ol _ _ H clean hcl (λbs hbs=>?_) _ w' (hr.1.put hsl) hs'
      obtain⟨v',r',_,_,hv',hX',hG'⟩:=hX bs hbs
      rw[hv] at hv';simp at hv';subst hv'
      exact⟨r',hX',hG'⟩
     unfold cz
     rw[hr.1.wanted hg]
     cases hc:cO fs with
     |true=>
      rw[if_pos rfl]
      unfold Oper.wp
      rw[CL hr hc hv w]
      simp only[Oper.upon]
      have:=hk w hsp;rw[hc] at this;exact this
     |false=>
      rw[if_neg<|by decide]
      have:=hk w hsp;rw[hc] at this;exact this
   |sk=>
    have hX: ∀bs,bs.length=nb hs→ ∃r,fs=[]∧pU ops base o=some false∧pY n base [] o.dst=true∧X P ops n dJ hs ol bs (putE base o.dst undef) [] H clean=some r∧Good P n w0 S Hc (wpList P ops Q rest) r:=by
     intro bs hbs
     obtain⟨r,hX,hG⟩:=hx bs hbs
     simp only[X] at hX
     split at hX
     ·rename_i hw hsl;exact⟨r,rfl,hw,hsl,hX,hG⟩
     ·cases hX
    obtain⟨r,rfl,hw,hsl,_,_⟩:=hX (ns _) pJ
    refine wX ?_
    unfold cz
    rw[ic hr hw,if_neg<|by decide]
    refine ih ol _ [] H clean hcl (λbs hbs=>?_) _ w (Ri.put (fs:=[]) (v:=undef) hr hsl) hsp
    obtain⟨r',_,_,_,hX',hG'⟩:=hX bs hbs
    exact⟨r',hX',hG'⟩
   |st i=>
    have hX: ∀bs,bs.length=nb hs→ ∃t x y b off u cs ty r,fs=[]∧lY ops base [] o=true∧o.op= .store t x y∧ev base x=some (.pointer<|some ⟨b,off,none⟩)∧ev base y=some u∧vf H i=some (b,cs,ty)∧o.dst=none∧
      (P.info? t).map (·.size)=some u.cells.toList.length∧u.cells.toList.all Value.oneCell'=true∧off+u.cells.toList.length≤cs.length∧
      X P ops n dJ hs ol bs base [] (H.set i<|aA b (cs.take off++u.cells.toList++cs.drop (off+u.cells.toList.length)) ty) false=some r∧Good P n w0 S Hc (wpList P ops Q rest) r:=by
     intro bs hbs
     obtain⟨r,hX,hG⟩:=hx bs hbs
     simp only[X] at hX
     split at hX
     case h_2=>cases hX
     rename_i t x y hg ho
     split at hX
     case h_2=>cases hX
     rename_i b' off u b cs ty hex hey hrow hdst
     split at hX
     case h_2=>cases hX
     rename_i k hk
     split at hX
     case h_2=>cases hX
     rename_i hb
     simp only[Bool.and_eq_true] at hb
     split at hX
     case h_2=>cases hX
     rename_i r' hr'
     simp at hX;subst hX
     have hbb:b'=b:=hG.eqs (b',b)<|by simp
     subst hbb
     have:=Nat.eq_of_beq_eq_true hb.1.1
     subst this
     exact⟨t,x,y,b',off,u,cs,ty,r',rfl,hg,ho,hex,hey,hrow,hdst,hk,hb.1.2,Nat.le_of_ble_eq_true hb.2,hr',⟨λp hp=>hG.eqs p<|by simp[hp],hG.c,hG.go⟩⟩
    obtain⟨t,x,y,b,off,u,cs,ty,r,rfl,hg,ho,hex,hey,hrow,hdst,hk,h1,hle,_,_⟩:=hX (ns _) pJ
    obtain⟨it,hit,hft,hrw⟩:=HM hrow
    refine wX ?_
    unfold cz
    rw[Ri.wanted (fs:=[]) hr hg]
    rw[if_pos (show cO []=true from rfl)]
    have hh:w.heap[b]? =some (.cells cs.toArray ty (0,0)):=hrw w<|hsp.mem hit
    have hst:=run_storeCells_at P b off ty u.cells.toList 0 cs.toArray w hh (by simpa using hle)<|λv hv=>List.all_eq_true.1 h1 v hv
    simp only[Nat.add_zero] at hst
    simp only[Option.map_eq_some_iff] at hk
    obtain⟨inf,hinf,hsz⟩:=hk
    have hrun:(execOp a.eval o).run P w= .ok .skip (w.setRow b (cs.take off++u.cells.toList++cs.drop (off+u.cells.toList.length)).toArray):=by
     simp only[execOp,ho,Instr.storeAt,Rep.ev hr hex,Rep.ev hr hey,Instr.sureAddr,storeVar,sizeOf,typeInfo,Sem.run_bind,run_program,Sem.run_pure,Result.andThen_ok,hinf,hsz,Array.length_toList]
     simp[hst]
    unfold Oper.wp
    rw[hrun]
    simp only[Oper.upon,hdst]
    refine ih ol base [] _ false (by simp) (λbs hbs=>?_) a _ hr<|hsp.turn (jt:=aA b (cs.take off++u.cells.toList++cs.drop (off+u.cells.toList.length)) ty) hit (by rw[hft];exact wV _ _ _) (wW w b _ _ ty hh) (by simp[aA]) (by rw[hft];simp[aA])
    obtain⟨t',x',y',b',off',u',cs',ty',r',_,_,ho',hex',hey',hrow',_,_,_,_,hX',hG'⟩:=hX bs hbs
    rw[ho] at ho';simp at ho';obtain⟨rfl,rfl,rfl⟩:=ho'
    rw[hex] at hex';simp at hex';obtain⟨rfl,rfl⟩:=hex'
    rw[hey] at hey';simp at hey';subst hey'
    rw[hrow] at hrow';simp at hrow';obtain⟨rfl,rfl⟩:=hrow'
    exact⟨r',hX',hG'⟩
   |al=>
    have hX: ∀b bs,bs.length=nb hs→ ∃d t u r,fs=[]∧lY ops base [] o=true∧o.dst=some d∧d<n∧((∃x,o.op= .box t x∧ev base x=some u)∨(o.op= .alloc t∧(P.info? t).bind (·.zero)=some u))∧
      X P ops n dJ hs ol bs ((d,.pointer<|some ⟨b,0,none⟩)::base) [] (H++[aA b u.cells.toList t]) false=some r∧Good P n w0 S Hc (wpList P ops Q rest) r:=by
     intro b bs hbs
     obtain⟨r,hX,hG⟩:=hx (b::bs)<|by simp[nb,hbs]
     simp only[X] at hX
     split at hX
     case h_2=>cases hX
     rename_i d b1 bs1 hg hd hbe
     simp at hbe;obtain⟨rfl,rfl⟩:=hbe
     split at hX
     ·rename_i t x hlt ho
      split at hX
      case h_2=>cases hX
      rename_i u hu
      exact⟨d,t,u,r,rfl,hg,hd,Nat.le_of_ble_eq_true hlt,.inl ⟨x,ho,hu⟩,hX,hG⟩
     ·rename_i t hlt ho
      split at hX
      case h_2=>cases hX
      rename_i u hu
      exact⟨d,t,u,r,rfl,hg,hd,Nat.le_of_ble_eq_true hlt,.inr ⟨ho,hu⟩,hX,hG⟩
     ·cases hX
    obtain⟨d,t,u,r,rfl,hg,hd,hlt,hou,_,_⟩:=hX w.heap.size (ns _) pJ
    refine wX ?_
    unfold cz
    rw[Ri.wanted (fs:=[]) hr hg]
    rw[if_pos (show cO []=true from rfl)]
    have hrun:(execOp a.eval o).run P w= .ok (.value<|.pointer<|some ⟨w.heap.size,0,none⟩) (w.alloc<|.cells u.cells t):=by
     rcases hou with⟨x,ho,hu⟩|⟨ho,hu⟩
     ·simp[execOp,ho,Rep.ev hr hu,Instr.box,newVar,newRow,newObj,Sem.run,World.alloc_eq]
     ·simp only[Option.bind_eq_some_iff] at hu
      obtain⟨i,hi,hz⟩:=hu
      simp[execOp,ho,Instr.alloc,zeroValue,typeInfo,hi,hz,newVar,newRow,newObj,Sem.run,World.alloc_eq]
    unfold Oper.wp
    rw[hrun]
    simp only[Oper.upon,hd]
    refine ih ol _ [] _ false (by simp) (λbs hbs=>?_) _ _ (Rep.put hr hlt)<|hsp.add (it:=aA w.heap.size u.cells.toList t) (Fr.alloc _ _ _) (by have:=heap_alloc_new w<|.cells u.cells t;simpa[aA] using this) (by simp[aA])<|by simp[aA]
    obtain⟨d',t',u',r',_,_,hd',_,hou',hX',hG'⟩:=hX w.heap.size bs hbs
    rw[hd] at hd';simp at hd';subst hd'
    have:t=t'∧u=u':=by
     rcases hou with⟨x,ho,hu⟩|⟨ho,hu⟩<;>rcases hou' with⟨x',ho',hu'⟩|⟨ho',hu'⟩<;>rw[ho] at ho'<;>simp at ho'
     ·obtain⟨rfl,rfl⟩:=ho';rw[hu] at hu';simp at hu';exact⟨rfl,hu'⟩
     ·subst ho';rw[hu] at hu';simp at hu';exact⟨rfl,hu'⟩
    obtain⟨rfl,rfl⟩:=this
    exact⟨r',hX',hG'⟩
end
def oN(l:List Nat):List (Nat×Nat):=l.map λb=>(b,b)
theorem E8{l:E6}: ∀p∈oN l,p.1=p.2:=by intro p hp;simp[oN] at hp;obtain⟨b,_,rfl⟩:=hp;rfl
def T0:Cx→Prop:=λ_=>True
def dJ(e:aT):List Nat:=e.map (·.1)
section
variable{P:Program}{Q:Exit→Wy}{n:Nat}{env:aT}{w0:World}{S:E6}{H:List aI}{ops:Zb}{rest:List Oper}{K:Wy}
theorem tX{m:Nat}{k:Nat}(hs:List Hn)(ii:E6)(E:E6→aT)(H':E6→List aI)(l:E6→E6)(C:E6→Cx→Prop)
  (hx: ∀bs,bs.length=m→(nb hs,X P ops n ii hs (rest.take k) bs env [] H true)=(m,some ⟨E bs,H' bs,oN<|l bs,C bs⟩))
  (hc: ∀bs,bs.length=m→C bs ⟨P,w0,S,H⟩)(h: ∀bs,bs.length=m→A n (E bs) w0 S (H' bs) (wpList P ops Q<|rest.drop k)):A n env w0 S H (wpList P ops Q rest):=by
 intro a w r s
 have h1:=JH (P:=P) (ops:=ops) (Q:=Q) (Hc:=H) (rest:=rest.drop k) hs (rest.take k) env [] H true (λ_=>rfl) (dJ:=ii) (λbs hbs=>?_) a w r s
 ·rw[List.take_append_drop] at h1;exact h1
 ·have hm:nb hs=m:=by
   have:=hx (ns m) pJ
   simp at this;exact this.1
  have:=hx bs<|hbs.trans hm
  simp at this
  exact⟨_,this.2,E8,hc bs<|hbs.trans hm,h bs<|hbs.trans hm⟩
theorem kO(hs:List Hn)(env':aT)(l:E6)(C:Cx→Prop)(hx:(nb hs,X P ops n (dJ env') hs rest [] env [] H true)=(0,some ⟨env',H,oN l,C⟩))(hc:C ⟨P,w0,S,H⟩)(h:A n env' w0 S H (Q .normal)):A n env w0 S H (wpList P ops Q rest):=
 tX (m:=0) (k:=rest.length) hs (dJ env') (λ_=>env') (λ_=>H) (λ_=>l) (λ_=>C) (λbs hb=>by
  obtain rfl:=List.eq_nil_of_length_eq_zero hb
  rw[List.take_length];exact hx) (λ_ _=>hc) (λ_ _=>by rw[List.drop_length];exact h)
theorem Gk(hs:List Hn)(env':aT)(l:E6)(C:Cx→Prop)(hx:(nb hs,X P ops n (dJ env') hs (rest.take<|kn hs) [] env [] H true)=(0,some ⟨env',H,oN l,C⟩))(hc:C ⟨P,w0,S,H⟩)(h:A n env' w0 S H (wpList P ops Q<|rest.drop<|kn hs)):A n env w0 S H (wpList P ops Q rest):=
 tX (m:=0) (k:=kn hs) hs (dJ env') (λ_=>env') (λ_=>H) (λ_=>l) (λ_=>C) (λbs hb=>by
  obtain rfl:=List.eq_nil_of_length_eq_zero hb
  exact hx) (λ_ _=>hc) (λ_ _=>h)
theorem wM(hs:List Hn)(env':aT)(H':List aI)(l:E6)(C:Cx→Prop)(hx:(nb hs,X P ops n (dJ env') hs rest [] env [] H true)=(0,some ⟨env',H',oN l,C⟩))(hc:C ⟨P,w0,S,H⟩)(h:A n env' w0 S H' (Q .normal)):A n env w0 S H (wpList P ops Q rest):=
 tX (m:=0) (k:=rest.length) hs (dJ env') (λ_=>env') (λ_=>H') (λ_=>l) (λ_=>C) (λbs hb=>by
  obtain rfl:=List.eq_nil_of_length_eq_zero hb
  rw[List.take_length];exact hx) (λ_ _=>hc) (λ_ _=>by rw[List.drop_length];exact h)
theorem iI(hs:List Hn)(ii:E6)(E:Nat→aT)(H':Nat→List aI)(l:Nat→E6)(C:Nat→Cx→Prop)(hx: ∀b,(nb hs,X P ops n ii hs rest [b] env [] H true)=(1,some ⟨E b,H' b,oN<|l b,C b⟩))(hc: ∀b,C b ⟨P,w0,S,H⟩)(h: ∀b,A n (E b) w0 S (H' b)<|Q .normal):A n env w0 S H (wpList P ops Q rest):=
 tX (m:=1) (k:=rest.length) hs ii (λbs=>E<|bs.getD 0 0) (λbs=>H'<|bs.getD 0 0) (λbs=>l<|bs.getD 0 0) (λbs=>C<|bs.getD 0 0) (λbs hb=>by
  obtain⟨b,rfl⟩:=List.length_eq_one_iff.1 hb
  rw[List.take_length];exact hx b) (λ_ _=>hc _) (λ_ _=>by rw[List.drop_length];exact h _)
theorem wK(hs:List Hn)(ii:E6)(E:Nat→Nat→aT)(H':Nat→Nat→List aI)(l:Nat→Nat→E6)(C:Nat→Nat→Cx→Prop)(hx: ∀b c,(nb hs,X P ops n ii hs rest [b,c] env [] H true)=(2,some ⟨E b c,H' b c,oN<|l b c,C b c⟩))(hc: ∀b c,C b c ⟨P,w0,S,H⟩)(h: ∀b c,A n (E b c) w0 S (H' b c)<|Q .normal):A n env w0 S H (wpList P ops Q rest):=
 tX (m:=2) (k:=rest.length) hs ii (λbs=>E (bs.getD 0 0)<|bs.getD 1 0) (λbs=>H' (bs.getD 0 0)<|bs.getD 1 0) (λbs=>l (bs.getD 0 0)<|bs.getD 1 0) (λbs=>C (bs.getD 0 0)<|bs.getD 1 0) (λbs hb=>by
  match bs,hb with
  |[b,c],_=>rw[List.take_length];exact hx b c) (λ_ _=>hc _ _) (λ_ _=>by rw[List.drop_length];exact h _ _)
theorem nW(hs:List Hn)(ii:E6)(E:Nat→Nat→Nat→aT)(H':Nat→Nat→Nat→List aI)(l:Nat→Nat→Nat→E6)(C:Nat→Nat→Nat→Cx→Prop)(hx: ∀b c d,(nb hs,X P ops n ii hs rest [b,c,d] env [] H true)=(3,some ⟨E b c d,H' b c d,oN<|l b c d,C b c d⟩))(hc: ∀b c d,C b c d ⟨P,w0,S,H⟩)(h: ∀b c d,A n (E b c d) w0 S (H' b c d)<|Q .normal):A n env w0 S H (wpList P ops Q rest):=
 tX (m:=3) (k:=rest.length) hs ii (λbs=>E (bs.getD 0 0) (bs.getD 1 0)<|bs.getD 2 0) (λbs=>H' (bs.getD 0 0) (bs.getD 1 0)<|bs.getD 2 0) (λbs=>l (bs.getD 0 0) (bs.getD 1 0)<|bs.getD 2 0) (λbs=>C (bs.getD 0 0) (bs.getD 1 0)<|bs.getD 2 0) (λbs hb=>by
  match bs,hb with
  |[b,c,d],_=>rw[List.take_length];exact hx b c d) (λ_ _=>hc _ _ _) (λ_ _=>by rw[List.drop_length];exact h _ _ _)
end
def U2(P:Program)(ops:Array Oper)(K:Act→World→Prop):Nat→List Nat→(World→Prop)→Array Bool→Act→World→Prop
 |0,_,_,listed,a,w=>Region.ready .any ops listed=[]∧ ∀w',Fr [] w w'→K a w'
 |f+1,L,S,listed,a,w=>(Region.ready .any ops listed=[]→ ∀w',Fr [] w w'→K a w')∧
  ∀i∈Region.ready .any ops listed,∀w',Fr [] w w'→wpOp P ops Qf i (λa' w''=>
   (L.head?=some i∧ ∃S':World→Prop,(∀w w',S' w→Fr [] w w'→S' w')∧S' w''∧U2 P ops K f L.tail S' (listed.setIfInBounds i true) a' w'')∨(L.head?≠some i∧S w''∧U2 P ops K f L S (listed.setIfInBounds i true) a' w'')) a w'
section
variable{P:Program}{ops:Zb}{K:Wy}{S:World→Prop}{Q:Exit→Wy}
theorem U2.up: ∀{f:Nat}{L:E6}{S:World→Prop}{listed:Array Bool}{a:Act}{w w':World},U2 P ops K f L S listed a w→Fr [] w w'→U2 P ops K f L S listed a w'
 |0,_,_,_,_,_,_,h,hf=>⟨h.1,λw'' hf'=>h.2 w''<|hf.trans hf'⟩
 |_+1,_,_,_,_,_,_,h,hf=>⟨λh0 w'' hf'=>h.1 h0 w''<|hf.trans hf',λi hi w'' hf'=>h.2 i hi w''<|hf.trans hf'⟩
theorem U2.sound: ∀(f:Nat)(L:E6)(S:World→Prop)(listed:Array Bool)(a:Act)(w:World),U2 P ops (Q .normal) f L S listed a w→wpAny P .any ops Q f listed a w
 |0,_,_,_,_,_,h=>⟨h.1,h.2 _<|Fr.refl _ _⟩
 |f+1,L,S,_,_,w,h=>⟨λh0=>h.1 h0 _<|Fr.refl _ _,λi hi=>tW (h.2 i hi w<|Fr.refl _ _) λa' w' h'=>by
   rcases h' with⟨_,S',_,_,h'⟩|⟨_,_,h'⟩
   ·exact U2.sound f _ _ _ a' w' h'
   ·exact U2.sound f _ _ _ a' w' h'⟩
def yF(ops:Array Oper):Nat→Nat→Nat→Bool
 |0,_,_=>false
 |f+1,m,i=>match ops[m]? with
  |some o=>o.after.any<|λe=>Region.binds .any e&&(Nat.beq e.on i||yF ops f e.on i)
  |none=>false
def o9(ops:Array Oper)(L:List Nat)(i:Nat):Bool:=match L with
 |[]=>true
 |m::_=> !(Nat.beq m i)&&yF ops 6 m i
def Closed(ops:Array Oper)(listed:Array Bool):Prop:= ∀j o,ops[j]? =some o→listed.getD j false=true→ ∀e∈o.after,Region.binds .any e=true→listed.getD e.on false=true
def mM(ops:Array Oper)(listed:Array Bool):Bool:=(List.range ops.size).all λj=> !(listed.getD j false)||(match ops[j]? with|some o=>o.after.all (λe=> !(Region.binds .any e)||listed.getD e.on false)|none=>true)
variable{listed:Array Bool}
theorem OX(h:mM ops listed=true):Closed ops listed:=by
 intro j o ho hl e he hb
 have hlt:j<ops.size:=(Array.getElem?_eq_some_iff.1 ho).1
 have h1:=List.all_eq_true.1 h j<|List.mem_range.2 hlt
 simp only[hl,Bool.not_true,Bool.false_or,ho] at h1
 have h2:=Array.all_eq_true'.1 h1 e he
 simpa[hb] using h2
theorem Closed.set(h:Closed ops listed)(hi:i∈Region.ready .any ops listed):Closed ops (listed.setIfInBounds i true):=by
 intro j o ho hl e he hb
 refine getD_set_true ?_
 by_cases hji:j=i
 ·subst hji
  obtain⟨_,oj,hoj,hall⟩:=mem_ready.1 hi
  rw[ho] at hoj;cases hoj
  exact hall e he hb
 ·rw[getD_set_ne false<|Ne.symm hji] at hl
  exact h j o ho hl e he hb
theorem HN(hc:Closed ops listed): ∀(f m i:Nat),(∀o,ops[m]? =some o→ ∀e∈o.after,Region.binds .any e=true→listed.getD e.on false=true)→yF ops f m i=true→listed.getD i false=true
 |0,_,_,_,h=>by simp[yF] at h
 |f+1,m,i,hm,h=>by
  unfold yF at h
  cases ho:ops[m]? with
  |none=>rw[ho] at h;simp at h
  |some o=>
   rw[ho] at h
   obtain⟨e,he,hb⟩:=(Array.any_eq_true' .. |>.1 h)
   simp only[Bool.and_eq_true,Bool.or_eq_true] at hb
   have h1:=hm o ho e he hb.1
   rcases hb.2 with h2|h2
   ·rw[←Nat.eq_of_beq_eq_true h2];exact h1
   ·exact HN hc f e.on i (λo' ho'=>hc _ o' ho' h1) h2
variable{L:E6}
theorem Oa{j:Nat}(hc:Closed ops listed)(h:o9 ops L i=true)(hi:listed.getD i true=false)(hj:j∈Region.ready .any ops listed):L.head?≠some j:=by
 intro hL
 cases L with
 |nil=>cases hL
 |cons m L=>
  simp at hL;subst hL
  obtain⟨_,oj,hoj,hall⟩:=mem_ready.1 hj
  simp only[o9,Bool.and_eq_true] at h
  have h1:=HN hc 6 m i (λo ho=>by rw[hoj] at ho;cases ho;exact hall) h.2
  rcases Nat.lt_or_ge i listed.size with h'|h'
  ·simp[h'] at hi h1;rw[hi] at h1;cases h1
  ·simp[Array.getElem?_eq_none h'] at hi
theorem IW(h:o9 ops L i=true):L.head?≠some i:=by
 intro hL
 cases L with
 |nil=>cases hL
 |cons m L=>simp at hL;subst hL;simp[o9] at h
theorem U2.first{oi:Oper}(hi:ops[i]? =some oi)(hsel: ∀(j:Nat)(o:Oper)cs b,ops[j]? =some o→o.op≠ .select cs b)(hcl: ∀w w',S w→Fr [] w w'→S w')(hL:o9 ops L i=true):
  ∀(f:Nat)(listed:Array Bool)(a:Act)(w:World),Closed ops listed→
   (∀j oj,ops[j]? =some oj→j≠i→listed.getD j true=false→(∀e∈oj.after,Region.binds .any e=true→e.on≠i)→oi.apart ops oj=true)→
   i∈Region.ready .any ops listed→Quiet P ops S oi v a→S w→U2 P ops K f L S (listed.setIfInBounds i true) (a.put oi.dst v) w→U2 P ops K (f+1) L S listed a w:=by
 intro f
 induction f with
 |zero=>
  intro listed a w _ _ hr hy hS H
  refine⟨λh=>(by rw[h] at hr;cases hr),λj hj w' hf=>?_⟩
  by_cases hji:j=i
  ·subst hji;exact hy.wpOp hi (hcl _ _ hS hf) λw'' hf'=> .inr ⟨IW hL,hcl _ _ (hcl _ _ hS hf) hf',H.up<|hf.trans hf'⟩
  ·have:=ready_mono hj hji
   rw[H.1] at this
   cases this
 |succ f ih=>
  intro listed a w hclo hfree hr hy hS H
  refine⟨λh=>(by rw[h] at hr;cases hr),λj hj w' hf=>?_⟩
  have hS':=hcl _ _ hS hf
  by_cases hji:j=i
  ·subst hji;exact hy.wpOp hi hS' λw'' hf'=> .inr ⟨IW hL,hcl _ _ hS' hf',H.up<|hf.trans hf'⟩
  ·have h1:=H.2 j (ready_mono hj hji) w' hf
   have hnj:=Oa hclo hL (mem_ready.1 hr).1 hj
   obtain⟨hjun,oj,hoj,hall⟩:=mem_ready.1 hj
   have hnot: ∀e∈oj.after,Region.binds .any e=true→e.on≠i:=λe he hb heq=>by
    have h1:=hall e he hb
    have h0:=(mem_ready.1 hr).1
    rw[heq] at h1
    rcases Nat.lt_or_ge i listed.size with h'|h'
    ·simp[h'] at h0 h1;rw[h0] at h1;cases h1
    ·simp[Array.getElem?_eq_none h'] at h1
   have h2:=ye hoj (hfree j oj hoj hji hjun hnot) (λcs b=>hsel i oi cs b hi) (λcs b=>hsel j oj cs b hoj) hy h1
   have hfree': ∀k ok,ops[k]? =some ok→k≠i→(listed.setIfInBounds j true).getD k true=false→(∀e∈ok.after,Region.binds .any e=true→e.on≠i)→oi.apart ops ok=true:=λk ok hk hki hun hno=>by
    refine hfree k ok hk hki ?_ hno
    by_cases hjk:j=k
    ·subst hjk;exact hjun
    ·rw[getD_set_ne true hjk] at hun;exact hun
   refine tW h2 λa' w'' h3=> .inr ⟨hnj,?_⟩
   obtain⟨hyq,h3⟩:=h3
   rcases h3 with⟨hh,_⟩|⟨_,hS3,hU3⟩
   ·exact absurd hh hnj
   refine⟨hS3,ih (listed.setIfInBounds j true) a' w'' (hclo.set hj) hfree' (ready_mono hr<|Ne.symm hji) hyq hS3 ?_⟩
   rw[Array.setIfInBounds_comm _ _ hji]
   exact hU3
theorem U2.firstP{oi:Oper}(hi:ops[i]? =some oi)(hsel: ∀(j:Nat)(o:Oper)cs b,ops[j]? =some o→o.op≠ .select cs b):
  ∀(f:Nat)(L:E6)(S:World→Prop)(listed:Array Bool)(a:Act)(w:World),(∀w w',S w→Fr [] w w'→S w')→i∉L→
   (∀j oj,ops[j]? =some oj→j≠i→listed.getD j true=false→(∀e∈oj.after,Region.binds .any e=true→e.on≠i)→oi.apart ops oj=true)→
   i∈Region.ready .any ops listed→Quiet P ops (λ_=>True) oi v a→S w→U2 P ops K f L S (listed.setIfInBounds i true) (a.put oi.dst v) w→U2 P ops K (f+1) L S listed a w:=by
 intro f
 induction f with
 |zero=>
  intro L S listed a w hcl hL _ hr hy hS H
  refine⟨λh=>(by rw[h] at hr;cases hr),λj hj w' hf=>?_⟩
  by_cases hji:j=i
  ·subst hji
   refine hy.wpOp hi trivial λw'' hf'=> .inr ⟨λh=>hL<|List.mem_of_mem_head? h,hcl _ _ (hcl _ _ hS hf) hf',H.up<|hf.trans hf'⟩
  ·have:=ready_mono hj hji
   rw[H.1] at this
   cases this
 |succ f ih=>
  intro L S listed a w hcl hL hfree hr hy hS H
  refine⟨λh=>(by rw[h] at hr;cases hr),λj hj w' hf=>?_⟩
  have hS':=hcl _ _ hS hf
  by_cases hji:j=i
  ·subst hji
   exact hy.wpOp hi trivial λw'' hf'=> .inr ⟨λh=>hL<|List.mem_of_mem_head? h,hcl _ _ hS' hf',H.up<|hf.trans hf'⟩
  ·have h1:=H.2 j (ready_mono hj hji) w' hf
   obtain⟨hjun,oj,hoj,hall⟩:=mem_ready.1 hj
   have hnot: ∀e∈oj.after,Region.binds .any e=true→e.on≠i:=λe he hb heq=>by
    have h1:=hall e he hb
    have h0:=(mem_ready.1 hr).1
    rw[heq] at h1
    rcases Nat.lt_or_ge i listed.size with h'|h'
    ·simp[h'] at h0 h1;rw[h0] at h1;cases h1
    ·simp[Array.getElem?_eq_none h'] at h1
   have h2:=ye hoj (hfree j oj hoj hji hjun hnot) (λcs b=>hsel i oi cs b hi) (λcs b=>hsel j oj cs b hoj) hy h1
   have hfree': ∀k ok,ops[k]? =some ok→k≠i→(listed.setIfInBounds j true).getD k true=false→(∀e∈ok.after,Region.binds .any e=true→e.on≠i)→oi.apart ops ok=true:=λk ok hk hki hun hno=>by
    refine hfree k ok hk hki ?_ hno
    by_cases hjk:j=k
    ·subst hjk;exact hjun
    ·rw[getD_set_ne true hjk] at hun;exact hun
   refine tW h2 λa' w'' h3=>?_
   obtain⟨hyq,h3⟩:=h3
   rcases h3 with⟨hh,S',hcl',hS3,hU3⟩|⟨hh,hS3,hU3⟩
   ·refine .inl ⟨hh,S',hcl',hS3,ih L.tail S' (listed.setIfInBounds j true) a' w'' hcl' (λh=>hL<|List.mem_of_mem_tail h) hfree' (ready_mono hr<|Ne.symm hji) hyq hS3 ?_⟩
    rw[Array.setIfInBounds_comm _ _ hji]
    exact hU3
   ·refine .inr ⟨hh,hS3,ih L S (listed.setIfInBounds j true) a' w'' hcl hL hfree' (ready_mono hr<|Ne.symm hji) hyq hS3 ?_⟩
    rw[Array.setIfInBounds_comm _ _ hji]
    exact hU3
end
def Hn.isPure:Hn→Bool
 | .p=>true
 | .w _=>true
 | .eq=>true
 | .sk=>true
 | .cl=>true
 |_=>false
def mT(i:Nat):List Nat→Bool
 |[]=>true
 |j::l=> !(Nat.beq j i)&&mT i l
theorem CZ: ∀{l:E6},mT i l=true→i∉l
 |[],_=>by simp
 |j::l,h=>by
  simp only[mT,Bool.and_eq_true,Bool.not_eq_true'] at h
  simp only[List.mem_cons,not_or]
  exact⟨λe=>Nat.ne_of_beq_eq_false h.1 e.symm,CZ h.2⟩
def jh(ops:Array Oper)(L:List Nat):List Hn→List Nat→Array Bool→Bool
 |[],[],_=>true
 | .o::hs,l,listed=>jh ops L hs l listed
 |h::hs,i::l,listed=>(kQ ops listed i&&mM ops listed)&&(o9 ops L i||(h.isPure&&mT i L))&&jh ops L hs l (listed.setIfInBounds i true)
 |_,_,_=>false
def jg(listed:Array Bool):List Nat→Array Bool
 |[]=>listed
 |i::l=>jg (listed.setIfInBounds i true) l
def fy(ops:Array Oper):List Nat→List Oper
 |[]=>[]
 |i::l=>match ops[i]? with|some o=>o::fy ops l|none=>[]
def kT:List Hn→Bool
 |[]=>true
 | .st _::_=>false
 | .al::_=>false
 |_::l=>kT l
section
variable{P:Program}{Q:Exit→Wy}{n:Nat}{env:aT}{w0:World}{S:E6}{H:List aI}{ops:Zb}{K:Wy}{l:List Oper}{o:Oper}{f:Nat}{L:E6}{listed:Array Bool}
variable{id:Nat}
theorem A.draw2'(L:E6)(hm:P.follows .mixedOrders=true)(h:A n env w0 S H (U2 P l.toArray (Q .normal) l.length L (HS w0 S H)<|Array.replicate l.length false)):
  A n env w0 S H ((Code.region id l.toArray true).wp P Q):=λa w r s=>
 wp_region_any hm (U2.sound _ _ _ _ _ _<|by simpa using h a _ r (s.kept<|Fr.drew _ _))
theorem yS(L:E6)(k:Nat)(hk:(Nat.beq l.length k&&P.follows .mixedOrders)=true)(h:A n env w0 S H (U2 P l.toArray (Q .normal) k L (HS w0 S H)<|Array.replicate k false)):
  A n env w0 S H ((Code.region id l.toArray true).wp P Q):=by
 simp only[Bool.and_eq_true] at hk
 obtain rfl:=Nat.eq_of_beq_eq_true hk.1
 exact A.draw2' L hk.2 h
theorem IX(hr:Ri n base fs a)(hg:lY ops base fs o=true)(hq:cO fs=true→Qt P n (V.full base fs) w0 S H o v):Quiet P ops (HS w0 S H) o (bif cO fs then v else undef) a:=by
 cases hc:cO fs with
 |true=>exact .inl ⟨by rw[hr.wanted hg,hc],λw s=>hq hc a w (hr.full hc) s⟩
 |false=>exact .inr ⟨by rw[hr.wanted hg,hc],rfl⟩
variable{w:World}
theorem yg(hi:ops[i]? =some o)(ht:(kQ ops listed i&&mM ops listed)=true)(hL:o9 ops L i=true)(hq:Quiet P ops (HS w0 S H) o v a)(s:HS w0 S H w)
  (h:U2 P ops K f L (HS w0 S H) (listed.setIfInBounds i true) (a.put o.dst v) w):U2 P ops K (f+1) L (HS w0 S H) listed a w:=by
 simp only[kQ,Bool.and_eq_true] at ht
 exact U2.first hi (Region.noSelect_spec ht.1.2) (λw w' hw hf=>hw.kept hf) hL f listed a w (OX ht.2) (Region.free_spec hi ht.1.1.1) (by simpa using ht.1.1.2) hq s h
theorem C0(hi:ops[i]? =some o)(ht:(kQ ops listed i&&mM ops listed)=true)(hL:mT i L=true)(hq:Quiet P ops (λ_=>True) o v a)(s:HS w0 S H w)
  (h:U2 P ops K f L (HS w0 S H) (listed.setIfInBounds i true) (a.put o.dst v) w):U2 P ops K (f+1) L (HS w0 S H) listed a w:=by
 simp only[kQ,Bool.and_eq_true] at ht
 exact U2.firstP hi (Region.noSelect_spec ht.1.2) f L (HS w0 S H) listed a w (λw w' hw hf=>hw.kept hf) (CZ hL) (Region.free_spec hi ht.1.1.1) (by simpa using ht.1.1.2) hq s h
theorem Oc{clean:Bool}{h:Hn}{q:Qv}{κ:Cx}(hp:h.isPure=true)(hq:jb P H clean env o h=some q)(hc: ∀c,q.c=some c→c κ)(r:Rep n env a):wT P w q.v ((execOp a.eval o).run P w):=by
 cases h with
 |p=>
  simp only[jb] at hq
  split at hq
  ·rename_i hok
   split at hq
   ·rename_i v hv
    simp at hq;subst hq
    refine jM (n:=n) (w0:=w) (S:=[]) (H:=[]) hok (λw=>?_) a w r<|HS.nil w
    unfold ve at hv
    split at hv
    ·rename_i u hu;simp at hv;subst hv;exact tI _ _ hu w
    ·cases hv
   ·cases hq
  ·cases hq
 |w e'=>
  simp only[jb] at hq
  split at hq
  ·rename_i hok
   split at hq
   ·rename_i k e hv
    simp at hq;subst hq
    have he:e=e':=hc _ rfl
    subst he
    refine jM (n:=n) (w0:=w) (S:=[]) (H:=[]) hok (λw=>?_) a w r<|HS.nil w
    unfold ve at hv
    split at hv
    ·rename_i u hu;simp at hv;subst hv;exact tI _ _ hu w
    ·cases hv
   ·cases hq
  ·cases hq
 |eq=>
  simp only[jb] at hq
  split at hq
  ·rename_i t x y ty ho
   split at hq
   ·rename_i v hv;simp at hq;subst hq;exact HD (n:=n) (w0:=w) (S:=[]) (H:=[]) ho hv a w r<|HS.nil w
   ·cases hq
  ·rename_i t x y ty ho
   split at hq
   ·rename_i v hv;simp at hq;subst hq;exact HE (n:=n) (w0:=w) (S:=[]) (H:=[]) ho hv a w r<|HS.nil w
   ·cases hq
  ·cases hq
 |_=>simp[Hn.isPure] at hp<;>simp[jb] at hq
theorem AP{dJ:E6}{Hc:List aI}: ∀(hs:List Hn)(order:E6)(listed:Array Bool)(base:aT)(fs:List Fm)(clean:Bool),kT hs=true→jh ops L hs order listed=true→(clean=true→Hc=H)→(fy ops order).length=order.length→
  (∃r,X P ops n dJ hs (fy ops order) [] base fs H clean=some r∧Good P n w0 S Hc (U2 P ops K f L (HS w0 S H)<|jg listed order) r)→
  ∀a w,Ri n base fs a→HS w0 S H w→U2 P ops K (f+order.length) L (HS w0 S H) listed a w:=by
 intro hs
 induction hs with
 |nil=>
  intro order listed base fs clean _ hd hcl hlen ⟨r,hX,hG⟩ a w hr hsp
  cases order with
  |cons i order=>
   cases hi:ops[i]? with
   |none=>simp[fy,hi] at hlen
   |some o=>simp[fy,hi,X] at hX
  |nil=>
   simp only[fy] at hX
   cases fs with
   |cons f fs=>simp[X] at hX
   |nil=>
    simp only[X] at hX
    cases hk:q9 base dJ with
    |none=>rw[hk] at hX;simp at hX
    |some e=>
     rw[hk] at hX
     simp at hX;subst hX
     exact hG.go a w (yf hr hk) hsp
 |cons h hs ih=>
  intro order listed base fs clean hcalm hd hcl hlen ⟨r,hX,hG⟩ a w hr hsp
  cases order with
  |nil=>cases h<;>simp[fy,X] at hX
  |cons i order=>
   cases hi:ops[i]? with
   |none=>simp[fy,hi] at hlen
   |some o=>
    have hlen':(fy ops order).length=order.length:=by simpa[fy,hi] using hlen
    have hd0:=hd
    simp only[fy,hi] at hX
    have simpX:h≠ .o→kT hs=true→(match lY ops base fs o&&pY n base fs o.dst with
      |true=>(match jb P H clean (V.full base fs) o h with
       |some q=>(match X P ops n dJ hs (fy ops order) [] (uP base fs o.dst q.v) (uQ fs o.dst q.v) H clean with
        |some r=>some<|r.add fs q
        |none=>none)
       |none=>none)
      |false=>none)=some r→U2 P ops K (f+(i::order).length) L (HS w0 S H) listed a w:=by
     intro hno hcalm hX
     have hd:((kQ ops listed i&&mM ops listed)&&(o9 ops L i||(h.isPure&&mT i L))&&jh ops L hs order (listed.setIfInBounds i true))=true:=by
      cases h<;>first|exact absurd rfl hno|exact hd
     obtain⟨hd1,hd⟩:=Bool.and_eq_true_iff.1 hd
     obtain⟨ht,hw⟩:=Bool.and_eq_true_iff.1 hd1
     split at hX
     case h_2=>cases hX
     rename_i hgs
     simp only[Bool.and_eq_true] at hgs
     split at hX
     case h_2=>cases hX
     rename_i q hq
     split at hX
     case h_2=>cases hX
     rename_i r' hr'
     simp at hX;subst hX
     have hk:U2 P ops K (f+order.length) L (HS w0 S H) (listed.setIfInBounds i true) (a.put o.dst<|bif cO fs then q.v else undef) w:=
      ih order _ _ _ clean hcalm hd hcl hlen' ⟨r',hr',hG.tail.1⟩ _ w (hr.put hgs.2) hsp
     rcases Bool.or_eq_true_iff.1 hw with hw|hw
     ·exact yg hi ht hw (IX hr hgs.1<|λhc=>CJ (Hc:=Hc) hq hG.tail.2.1 (hG.tail.2.2 hc) hcl) hsp hk
     ·obtain⟨hp,hw⟩:=Bool.and_eq_true_iff.1 hw
      refine C0 hi ht hw ?_ hsp hk
      cases hc:cO fs with
      |true=>exact .inl ⟨by rw[hr.wanted hgs.1,hc],λw _=>Oc hp hq (hG.tail.2.2 hc)<|hr.full hc⟩
      |false=>exact .inr ⟨by rw[hr.wanted hgs.1,hc],rfl⟩
    cases h with
    |p|w e|eq|es|ld j|rd vs|ix|cq v|ct|si u|ss=>simp only[X] at hX;exact simpX (by simp) (by simpa[kT] using hcalm) hX
    |st j|al=>simp[kT] at hcalm
    |o=>
     simp only[X] at hX
     split at hX
     case h_2=>cases hX
     rename_i j pol hgd
     split at hX
     case h_2=>cases hX
     rename_i d hdd
     split at hX
     case h_2=>cases hX
     rename_i E hE
     exact ih (i::order) listed base _ clean (by simpa[kT] using hcalm) hd0 hcl hlen ⟨r,by simp only[fy,hi];exact hX,hG⟩ a w (hr.open_ hE) hsp
    |cl=>
     obtain⟨hd1,hd⟩:=Bool.and_eq_true_iff.1 (show((kQ ops listed i&&mM ops listed)&&(o9 ops L i||(Hn.cl.isPure&&mT i L))&&jh ops L hs order (listed.setIfInBounds i true))=true from hd)
     obtain⟨ht,hw⟩:=Bool.and_eq_true_iff.1 hd1
     cases fs with
     |nil=>simp[X] at hX
     |cons f1 fs=>
      simp only[X] at hX
      split at hX
      case h_2=>cases hX
      rename_i hgs
      simp only[Bool.and_eq_true] at hgs
      split at hX
      case h_2=>cases hX
      rename_i v hv
      have hq: ∀SS:World→Prop,Quiet P ops SS o (bif cO fs then v else undef) a:=λSS=>by
       cases hc:cO fs with
       |true=>
        refine .inl ⟨by rw[hr.1.wanted hgs.1,hc],λw s=>?_⟩
        rw[CL hr hc hv w]
        exact⟨rfl,Fr.refl _ _⟩
       |false=>exact .inr ⟨by rw[hr.1.wanted hgs.1,hc],rfl⟩
      have hk:U2 P ops K (f+order.length) L (HS w0 S H) (listed.setIfInBounds i true) (a.put o.dst<|bif cO fs then v else undef) w:=
       ih order _ _ _ clean (by simpa[kT] using hcalm) hd hcl hlen' ⟨r,hX,hG⟩ _ w (hr.1.put hgs.2) hsp
      rcases Bool.or_eq_true_iff.1 hw with hw|hw
      ·exact yg hi ht hw (hq _) hsp hk
      ·exact C0 hi ht (Bool.and_eq_true_iff.1 hw).2 (hq _) hsp hk
    |sk=>
     obtain⟨hd1,hd⟩:=Bool.and_eq_true_iff.1 (show((kQ ops listed i&&mM ops listed)&&(o9 ops L i||(Hn.sk.isPure&&mT i L))&&jh ops L hs order (listed.setIfInBounds i true))=true from hd)
     obtain⟨ht,hw⟩:=Bool.and_eq_true_iff.1 hd1
     simp only[X] at hX
     split at hX
     case h_2=>cases hX
     rename_i hwt hsl
     have hq: ∀SS:World→Prop,Quiet P ops SS o undef a:=λSS=> .inr ⟨ic hr hwt,rfl⟩
     have hk:U2 P ops K (f+order.length) L (HS w0 S H) (listed.setIfInBounds i true) (a.put o.dst undef) w:=
      ih order _ _ [] clean (by simpa[kT] using hcalm) hd hcl hlen' ⟨r,hX,hG⟩ _ w (Ri.put (fs:=[]) (v:=undef) hr hsl) hsp
     rcases Bool.or_eq_true_iff.1 hw with hw|hw
     ·exact yg hi ht hw (hq _) hsp hk
     ·exact C0 hi ht (Bool.and_eq_true_iff.1 hw).2 (hq _) hsp hk
theorem Bq{f':Nat}(f:Nat)(hs:List Hn)(order:E6)(env':aT)(l:E6)(C:Cx→Prop)
  (hx:(kT hs&&jh ops L hs order listed&&Nat.beq (fy ops order).length order.length&&Nat.beq f' (f+order.length),X P ops n (dJ env') hs (fy ops order) [] env [] H true)=(true,some ⟨env',H,oN l,C⟩))
  (hc:C ⟨P,w0,S,H⟩)(h:A n env' w0 S H (U2 P ops K f L (HS w0 S H)<|jg listed order)):A n env w0 S H (U2 P ops K f' L (HS w0 S H) listed):=by
 intro a w r s
 simp only[Prod.mk.injEq,Bool.and_eq_true] at hx
 have hf:=Nat.eq_of_beq_eq_true hx.1.2
 rw[hf]
 exact AP (Hc:=H) hs order listed env [] true hx.1.1.1.1 hx.1.1.1.2 (λ_=>rfl) (Nat.eq_of_beq_eq_true hx.1.1.2) ⟨_,hx.2,E8,hc,h⟩ a w r s
theorem mH(hs:List Hn)(order:E6)(env':aT)(l2:E6)(C:Cx→Prop)(hm:P.follows .mixedOrders=true)
  (hx:(kT hs&&jh l.toArray [] hs order (Array.replicate l.length false)&&Nat.beq (fy l.toArray order).length order.length&&Nat.beq order.length l.length&&(Region.ready .any l.toArray<|jg (Array.replicate l.length false) order).isEmpty,
   X P l.toArray n (dJ env') hs (fy l.toArray order) [] env [] H true)=(true,some ⟨env',H,oN l2,C⟩))
  (hc:C ⟨P,w0,S,H⟩)(h:A n env' w0 S H (Q .normal)):A n env w0 S H ((Code.region id l.toArray true).wp P Q):=by
 refine A.draw2' [] hm ?_
 intro a w r s
 simp only[Prod.mk.injEq,Bool.and_eq_true] at hx
 have hl:=Nat.eq_of_beq_eq_true hx.1.1.2
 have:=AP (Hc:=H) (K:=Q .normal) (f:=0) (L:=[]) hs order (Array.replicate l.length false) env [] true hx.1.1.1.1.1 hx.1.1.1.1.2 (λ_=>rfl) (Nat.eq_of_beq_eq_true hx.1.1.1.2) ⟨_,hx.2,E8,hc,?_⟩ a w r s
 ·rw[Nat.zero_add,hl] at this;exact this
 ·intro a w r s
  refine⟨by simpa using hx.1.2,λw' hf=>h a w' r<|s.kept hf⟩
theorem lG(i:Nat)(d:Option Nat)(v:Value)(hi:ops[i]? =some o)(ht:((kQ ops listed i&&mM ops listed)&&o9 ops L i)=true)(hok:ff ops n env o d=true)(hq:Qt P n env w0 S H o v)
  (h:A n (putE env d v) w0 S H (U2 P ops K f L (HS w0 S H)<|listed.setIfInBounds i true)):A n env w0 S H (U2 P ops K (f+1) L (HS w0 S H) listed):=by
 intro a w r s
 obtain⟨h1,h2,h3,_⟩:=jf hok
 obtain⟨ht1,ht2⟩:=Bool.and_eq_true_iff.1 ht
 refine yg hi ht1 ht2 (.inl ⟨ic r h1,λw' s'=>hq a w' r s'⟩) s ?_
 rw[h2]
 exact h _ w (r.putE h3) s
theorem yQ(i:Nat)(hi:ops[i]? =some o)(hr:Region.ready .any ops listed=[i])
  (h:A n env w0 S H (cz P ops o<|λa w=> ∃S':World→Prop,(∀w w',S' w→Fr [] w w'→S' w')∧S' w∧U2 P ops K f L S' (listed.setIfInBounds i true) a w)):A n env w0 S H (U2 P ops K (f+1) (i::L) (HS w0 S H) listed):=by
 intro a w r s
 refine⟨λh0=>(by rw[hr] at h0;cases h0),λj hj w' hf=>?_⟩
 rw[hr,List.mem_singleton] at hj
 subst hj
 have h1:=h a w' r<|s.kept hf
 unfold cz at h1
 unfold wpOp
 simp only[hi]
 split
 ·rename_i hw;rw[if_pos hw] at h1;exact .inl<|Oper.wp_imp h1 λ_ _ h=> .inl ⟨rfl,h⟩
 ·rename_i hw;rw[if_neg hw] at h1;exact .inl ⟨rfl,h1⟩
theorem tD(i j:Nat){o':Oper}(hi:ops[i]? =some o)(hj:ops[j]? =some o')(hr:(Region.ready .any ops listed,Nat.beq i j)=([i,j],false))
  (h1:A n env w0 S H (cz P ops o<|λa w=>HS w0 S H w∧U2 P ops K f (j::L) (HS w0 S H) (listed.setIfInBounds i true) a w))
  (h2:A n env w0 S H (cz P ops o'<|λa w=> ∃S':World→Prop,(∀w w',S' w→Fr [] w w'→S' w')∧S' w∧U2 P ops K f L S' (listed.setIfInBounds j true) a w)):A n env w0 S H (U2 P ops K (f+1) (j::L) (HS w0 S H) listed):=by
 intro a w r s
 simp only[Prod.mk.injEq] at hr
 refine⟨λh0=>(by rw[hr.1] at h0;cases h0),λm hm w' hf=>?_⟩
 have hij:=Nat.ne_of_beq_eq_false hr.2
 rw[hr.1] at hm
 simp only[List.mem_cons,List.not_mem_nil,or_false] at hm
 rcases hm with rfl|rfl
 ·have h:=h1 a w' r<|s.kept hf
  unfold cz at h
  unfold wpOp
  simp only[hi]
  split
  ·rename_i hw;rw[if_pos hw] at h;exact .inl<|Oper.wp_imp h λ_ _ h=> .inr ⟨by simpa using λe=>hij e.symm,h⟩
  ·rename_i hw;rw[if_neg hw] at h;exact .inr ⟨by simpa using λe=>hij e.symm,h⟩
 ·have h:=h2 a w' r<|s.kept hf
  unfold cz at h
  unfold wpOp
  simp only[hj]
  split
  ·rename_i hw;rw[if_pos hw] at h;exact .inl<|Oper.wp_imp h λ_ _ h=> .inl ⟨rfl,h⟩
  ·rename_i hw;rw[if_neg hw] at h;exact .inl ⟨rfl,h⟩
theorem cb(h:A n env w0 S H (U2 P ops K f L (HS w0 S H) listed)):A n env w0 S H (λa w=> ∃S':World→Prop,(∀w w',S' w→Fr [] w w'→S' w')∧S' w∧U2 P ops K f L S' listed a w):=λa w r s=>⟨HS w0 S H,λ_ _ hw hf=>hw.kept hf,s,h a w r s⟩
theorem yV(hr:Region.ready .any ops listed=[])(h:A n env w0 S H K):A n env w0 S H (U2 P ops K f L (HS w0 S H) listed):=by
 intro a w r s
 cases f with
 |zero=>exact⟨hr,λw' hf=>h a w' r<|s.kept hf⟩
 |succ f=>exact⟨λ_ w' hf=>h a w' r<|s.kept hf,by rw[hr];simp⟩
end
abbrev i_(e:Int):Value:= .int .i64 e
abbrev u_(e:Int):Value:= .int .u64 e
abbrev w_(e:Int):Value:= .int .u16 e
abbrev b_(e:Bool):Value:= .bool e
abbrev p_(b:Nat):Value:= .pointer (some ⟨b,0,none⟩)
abbrev q_(b o:Nat):Value:= .pointer (some ⟨b,o,none⟩)
abbrev n_:Value:= .pointer none
abbrev e_:Value:= .slice none 0 0
abbrev c_(n:Nat):Value:= .int .i64 (n:Int)
theorem cR:(∀(p:Prop)[Decidable p],(decide p=true)↔p)∧(∀(p:Prop)[Decidable p],(decide p=false)↔ ¬p)∧(∀(α:Type)[BEq α][LawfulBEq α](a b:α),((a==b)=true)↔a=b)∧(∀(α:Type)[BEq α][LawfulBEq α](a b:α),((a==b)=false)↔ ¬a=b)
  ∧(∀(α:Type)[BEq α][LawfulBEq α](a b:α),((a !=b)=true)↔ ¬a=b)∧(∀(α:Type)[BEq α][LawfulBEq α](a b:α),((a !=b)=false)↔a=b)∧(∀(α:Type)(a b:α),(a≠b)↔ ¬a=b)
  ∧(∀a b:Bool,((a&&b)=true)↔(a=true∧b=true))∧(∀a b:Bool,((a||b)=true)↔(a=true∨b=true))∧(∀a b:Bool,((a||b)=false)↔(a=false∧b=false))∧(∀a:Bool,((!a)=true)↔a=false)∧(∀a:Bool,((!a)=false)↔a=true)
  ∧(∀a b:Int,(¬a<b)↔b≤a)∧(∀a b:Int,(¬a≤b)↔b<a)∧(∀a b:Int,(a>b)↔b<a)∧(∀a b:Int,(a≥b)↔b≤a)∧(∀p:Prop,(¬¬p)↔p):=
 ⟨λ_ _=>decide_eq_true_iff,λ_ _=>decide_eq_false_iff_not,λ_ _ _ _ _=>beq_iff_eq,λ_ _ _ _ _=>beq_eq_false_iff_ne,λ_ _ _ _ _=>bne_iff_ne,λ_ _ _ _ _=>bne_eq_false_iff_eq,λ_ _ _=>Iff.rfl,λ_ _=>by simp,λ_ _=>by simp,λ_ _=>by simp,λ_=>by simp,λ_=>by simp,λ_ _=>Int.not_lt,λ_ _=>Int.not_le,λ_ _=>Iff.rfl,λ_ _=>Iff.rfl,λ_=>Classical.not_not⟩
abbrev vS{α:Type}(A:k0)(xs:List α)(c:Nat):Value:= .slice A xs.length c
theorem cc{a b:α}{l m:List α}(h:a=b)(k:l=m):a::l=b::m:=by subst h;subst k;rfl
variable{t:TypeId}
theorem gx{b:Nat}{l m:Za}(h:l=m):aA b l t=aA b m t:=by subst h;rfl
variable{enc:α→Za}{xs:List α}{sz:Nat}
theorem eJ{ys:List α}{A:k0}{c:Nat}(h:xs=ys):sl A xs.length c t sz (aP enc xs)=sl A ys.length c t sz (aP enc ys):=by subst h;rfl
def bV(x y:Int):Int:=if y>x then y else x
def cF(x y:Int):Int:=if y<x then y else x
theorem zV(x y:Int):bV x y=max x y:=by unfold bV;omega
structure Turn(Is Os:List aI)(w w':World):Prop where
 fr:Fr (aN Is) w w'
 all: ∀it∈Os,it.holds w'
 nodup:(aN Os).Nodup
 own: ∀b∈aN Os,b∈aN Is∨w.heap.size≤b
variable{Is Os K:List aI}{w w':World}
theorem Turn.of(h:HS w (aN Is) K w')(hs:List.Sublist Os K):Turn Is Os w w':=
 have h':=h.sub hs
 ⟨h'.fr,h'.all,h'.nodup,h'.own⟩
def fh:List Nat→List aI→Option (List aI×List aI)
 |[],H=>some ([],H)
 |i::is,H=>match H[i]? with
  |some it=>(match fh is (H.eraseIdx i) with|some (a,r)=>some (it::a,r)|none=>none)
  |none=>none
theorem HO: ∀{H:List α}{i:Nat}{it:α},H[i]? =some it→List.Perm H (it::H.eraseIdx i)
 |[],i,it,h=>by simp at h
 |x::H,0,it,h=>by simp at h;subst h;exact List.Perm.refl _
 |x::H,i+1,it,h=>by
  simp at h
  have:=HO h
  exact(List.Perm.cons x this).trans (List.Perm.swap it x _)
theorem wY: ∀{is:E6}{H Is R:List aI},fh is H=some (Is,R)→List.Perm H (Is++R)
 |[],H,Is,R,h=>by simp[fh] at h;obtain⟨rfl,rfl⟩:=h;exact List.Perm.refl _
 |i::is,H,Is,R,h=>by
  simp only[fh] at h
  cases hi:H[i]? with
  |none=>rw[hi] at h;simp at h
  |some it=>
   rw[hi] at h
   simp only at h
   cases hp:fh is (H.eraseIdx i) with
   |none=>rw[hp] at h;simp at h
   |some ar=>
    obtain⟨a,r⟩:=ar
    rw[hp] at h
    simp at h;obtain⟨rfl,rfl⟩:=h
    exact(HO hi).trans (List.Perm.cons it<|wY hp)
variable{w0:World}{S:E6}{H R:List aI}
theorem HS.focus(h:HS w0 S H w)(hp:List.Perm H (Is++R)):HS w (aN Is) Is w:=by
 have h':=h.perm hp
 refine HS.start w Is (λit hi=>h'.all it<|List.mem_append.2<|.inl hi) ?_
 have:=h'.nodup
 rw[lW] at this
 exact(List.nodup_append.1 this).1
theorem HS.turned(h:HS w0 S H w)(hp:List.Perm H (Is++R))(ht:Turn Is Os w w'):HS w0 S (Os++R) w':=by
 have h':=h.perm hp
 have hnd:=h'.nodup
 rw[lW] at hnd
 obtain⟨n1,n2,n3⟩:=List.nodup_append.1 hnd
 have hlt: ∀b∈aN (Is++R),b<w.heap.size:=λb hb=>by
  obtain⟨it,hi,hb'⟩:=List.mem_flatMap.1 hb
  exact it.here w (h'.all it hi) b hb'
 have hIs: ∀x∈aN Is,x∈S∨w0.heap.size≤x:=λx hx=>h'.own x (by rw[lW];simp[hx])
 refine⟨h'.fr.trans' ht.fr hIs,λit hi=>?_,?_,λb hb=>?_⟩
 ·rcases List.mem_append.1 hi with hi|hi
  ·exact ht.all it hi
  ·refine it.loc w w' (λb hb=>ht.fr.block b (it.here w (h'.all it<|by simp[hi]) b hb) λhm=>?_)<|h'.all it<|by simp[hi]
   exact n3 b hm b (List.mem_flatMap.2 ⟨it,hi,hb⟩) rfl
 ·rw[lW]
  refine List.nodup_append.2 ⟨ht.nodup,n2,λx hx y hy=>?_⟩
  rcases ht.own x hx with h1|h1
  ·exact n3 x h1 y hy
  ·have:=hlt y (by rw[lW];simp[hy]);omega
 ·rw[lW] at hb
  rcases List.mem_append.1 hb with hb|hb
  ·rcases ht.own b hb with h1|h1
   ·exact hIs b h1
   ·right;have:=h'.fr.size;omega
  ·exact h'.own b (by rw[lW];simp[hb])
section
variable{P:Program}{Q:Exit→Wy}{n:Nat}{env:aT}{w0:World}{S:E6}{H:List aI}{ops:Zb}{o:Oper}{K:Wy}
variable{σ:Type}{f:FuncId}
theorem Yo(d:Option Nat)(args:Za)(is:E6)(rv:σ→Value)(φ:σ→Prop)(Os:σ→List aI)(H':σ→List aI)
  (hok:(ff ops n env o d&&nE P f)=true)(hx:pR env o=some (f,args))(hp:fh is H=some (Is,R))
  (hc: ∀w,HS w0 S H w→HS w (aN Is) Is w→Calls P f args.toArray w λe w'=> ∃x,e= .returned (rv x)∧φ x∧Turn Is (Os x) w w')(hH: ∀x,Os x++R=H' x)
  (h: ∀x,φ x→A n (putE env d<|rv x) w0 S (H' x) K):A n env w0 S H (cz P ops o K):=by
 intro a w r s
 obtain⟨hok,hf⟩:=Bool.and_eq_true_iff.1 hok
 obtain⟨h1',h2,h3,h4⟩:=jf hok
 unfold cz
 rw[if_pos<|ic r h1']
 unfold Oper.wp
 rw[Cd r hx hf]
 simp only[Oper.upon,h2]
 have hpm:=wY hp
 refine(hc w s<|s.focus hpm).mono λe w' he=>?_
 obtain⟨x,rfl,hφ,ht⟩:=he
 refine h x hφ _ _ (r.putE h3) ?_
 rw[←hH]
 exact s.turned hpm ht
variable{fn:Func}
theorem ZB(d:Option Nat){c:Code}(args:Za)(env':aT)
  (hok:(ff ops n env o d&&nE P f&&Nat.ble args.length fn.ntmps)=true)(hx:pR env o=some (f,args))
  (hfn:P.funcs[f]? =some fn)(hb:fn.body=some c)(he:uO args=env')
  (h:V.A fn.ntmps env' w0 S H (c.wp P<|bodyPost P fn<|xy n env d K)):V.A n env w0 S H (cz P ops o K):=by
 intro a w r s
 obtain⟨hok,hn⟩:=Bool.and_eq_true_iff.1 hok
 obtain⟨hok,hf⟩:=Bool.and_eq_true_iff.1 hok
 obtain⟨h1',h2,h3,h4⟩:=jf hok
 unfold cz
 rw[if_pos<|ic r h1']
 unfold Oper.wp
 rw[Cd r hx hf]
 simp only[Oper.upon,h2]
 subst he
 have hc:Calls P f args.toArray w (xy n env d K):=by
  refine calls_of_wp hfn hb<|h _ _ ⟨?_,rfl,λi v hv=>?_⟩ s
  ·have:=Nat.le_of_ble_eq_true hn
   simp;omega
  ·have hi:=Cc args i v hv
   have hlt:i<args.length:=(Zf.1 hi).1
   simp only[Array.getD_eq_getD_getElem?]
   rw[Array.getElem?_append_left<|by simpa using hlt]
   simp[hi]
 refine hc.mono λe w' ⟨v,hv,hk⟩=>?_
 subst hv
 exact hk a r
variable{G:Wy}
theorem wO(is:E6)(φ:σ→Prop)(Os H':σ→List aI)(hp:fh is H=some (Is,R))
  (hi: ∀w,HS w (aN Is) Is w→ ∃x,φ x∧(∀it∈Os x,it.holds w)∧(aN<|Os x).Nodup∧ ∀b∈aN (Os x),b∈aN Is)(hH: ∀x,Os x++R=H' x)(h: ∀x,φ x→V.A n env w0 S (H' x) G):V.A n env w0 S H G:=by
 intro a w r s
 have hpm:=wY hp
 obtain⟨x,hφ,h1,h2,h3⟩:=hi w<|s.focus hpm
 have:=s.turned hpm (Os:=Os x) (w':=w) ⟨Fr.refl _ _,h1,h2,λb hb=> .inl (h3 b hb)⟩
 rw[hH] at this
 exact h x hφ a w r this
theorem fE(vs:Za)(hv: ∀a w1,Rep n env a→HS w [] H w1→qG P w1 a fn.results.toList vs)(hx:mS vs=v):
 V.A n env w [] H (bodyPost P fn (λe w'=>e= .returned v∧Fr [] w w') .ret):=tH vs hv λ_ s=>⟨by rw[hx],s.fr⟩
theorem Bo(H':List aI)(hH:H=H')(h:V.A n env w0 S H' G):V.A n env w0 S H G:=hH▸h
theorem OG(is:E6)(K:List aI)(hp:(match fh is H with|some x=>some x.1|none=>none)=some K)(h:V.A n env w0 S K G):V.A n env w0 S H G:=by
 cases hq:fh is H with
 |none=>rw[hq] at hp;cases hp
 |some x=>
  obtain⟨a,r⟩:=x
  rw[hq] at hp;simp at hp;subst hp
  intro b w hr s
  exact h b w hr<|(s.perm<|wY hq).sub (List.sublist_append_left _ _)
variable{K:List aI}
theorem bw(is:E6){env':aT}(hs:V.sub env env')(hp:(match fh is H with|some x=>some x.1|none=>none)=some K):V.A n env w0 S H (λa w=>Rep n env' a∧HS w0 S K w):=
 OG is K hp (mI hs<|List.Sublist.refl _)
theorem Turn.pick(is:E6)(h:HS w (aN Is) K w')(hp:(match fh is K with|some x=>some x.1|none=>none)=some Os):Turn Is Os w w':=by
 cases hq:fh is K with
 |none=>rw[hq] at hp;cases hp
 |some x=>
  obtain⟨a,r⟩:=x
  rw[hq] at hp;simp at hp;subst hp
  exact Turn.of (h.perm<|wY hq)<|List.sublist_append_left _ _
variable{rv:σ→Value}{φ:σ→Prop}{Os:σ→List aI}
theorem cP(is:E6)(vs:Za)(hv: ∀a w1,Rep n env a→HS w (aN Is) H w1→qG P w1 a fn.results.toList vs)
  (x:σ)(hx:mS vs=rv x)(hφ:φ x)(hp:(match fh is H with|some x=>some x.1|none=>none)=some (Os x)):V.A n env w (aN Is) H (bodyPost P fn (λe w'=> ∃x,e= .returned (rv x)∧φ x∧Turn Is (Os x) w w') .ret):=
 tH vs hv λ_ s=>⟨x,by rw[hx],hφ,Turn.pick is s hp⟩
theorem mi(is:E6)(vs:Za)(hv: ∀a w1,Rep n env a→HS w (aN Is) H w1→qG P w1 a fn.results.toList vs)
  (x:σ)(hx:mS vs=rv x)(hφ:φ x)(hp:(match fh is H with|some x=>some x.1|none=>none)=some (Os x)):V.A n env w (aN Is) H (bodyPost P fn (λe w'=> ∃x,e= .returned (rv x)∧φ x∧Turn Is (Os x) w w') .normal):=
 u0 vs hv λ_ s=>⟨x,by rw[hx],hφ,Turn.pick is s hp⟩
variable{vs:Za}
theorem fU{b off:Nat}{cs:Za}(h: ∀w,HS w0 S H w→w.heap[b]? =some (.cells cs.toArray t (0,0)))(hv:(cs.drop off).take vs.length=vs):mR w0 S H ⟨b,off,none⟩ vs:=by
 intro w s j u hu
 rw[oZ,cell_of_row w b (off+j) cs.toArray t (0,0)<|h w s]
 rw[←hv,List.getElem?_take] at hu
 split at hu
 ·rw[List.getElem?_drop] at hu;simpa using hu
 ·cases hu
theorem dh{A:k0}{m:Nat}(he: ∀x,(enc x).length=sz)(hz:0<sz)(hr:Rd w0 S H A (aP enc xs))(hi:m<xs.length):Cx.ix ⟨P,w0,S,H⟩ A xs.length (m:Int):=by
 refine⟨⟨by omega,by omega⟩,λw s=>?_⟩
 have hlt:0<(aP enc xs).length:=by rw[tR he];exact Nat.mul_pos (by omega) hz
 exact(hr w s 0 _<|Ze hlt).1
theorem j8{A:k0}{m f:Nat}{x:α}(he: ∀x,(enc x).length=sz)(hr:Rd w0 S H A (aP enc xs))(hx:xs[m]? =some x)(hf:f+vs.length≤sz)(hv:((enc x).drop f).take vs.length=vs):
 mR w0 S H (((au A).add (m*sz)).add f) vs:=by rw[IT];exact IV he hr hx hf hv
end
def U3(P:Program)(ops:Array Oper)(K:Act→World→Prop)(B:World→Prop):Nat→List Nat→(World→Prop)→Array Bool→Act→World→Prop
 |0,_,_,listed,a,w=>Region.ready .any ops listed=[]∧ ∀w',Fr [] w w'→K a w'
 |f+1,L,S,listed,a,w=>(Region.ready .any ops listed=[]→ ∀w',Fr [] w w'→K a w')∧
  ∀i∈Region.ready .any ops listed,∀w',Fr [] w w'→wpOp P ops Qf i (λa' w''=>
   (L.head?=some i∧ ∃S':World→Prop,(∀w w',S' w→Fr [] w w'→S' w')∧(∀w,S' w→B w)∧S' w''∧U3 P ops K B f L.tail S' (listed.setIfInBounds i true) a' w'')∨(L.head?≠some i∧S w''∧U3 P ops K B f L S (listed.setIfInBounds i true) a' w'')) a w'
section
variable{P:Program}{ops:Zb}{K:Wy}{S B:World→Prop}{Q:Exit→Wy}
theorem U3.up: ∀{f:Nat}{L:E6}{S:World→Prop}{listed:Array Bool}{a:Act}{w w':World},U3 P ops K B f L S listed a w→Fr [] w w'→U3 P ops K B f L S listed a w'
 |0,_,_,_,_,_,_,h,hf=>⟨h.1,λw'' hf'=>h.2 w''<|hf.trans hf'⟩
 |_+1,_,_,_,_,_,_,h,hf=>⟨λh0 w'' hf'=>h.1 h0 w''<|hf.trans hf',λi hi w'' hf'=>h.2 i hi w''<|hf.trans hf'⟩
theorem U3.sound: ∀(f:Nat)(L:E6)(S:World→Prop)(listed:Array Bool)(a:Act)(w:World),U3 P ops (Q .normal) B f L S listed a w→wpAny P .any ops Q f listed a w
 |0,_,_,_,_,_,h=>⟨h.1,h.2 _<|Fr.refl _ _⟩
 |f+1,L,S,_,_,w,h=>⟨λh0=>h.1 h0 _<|Fr.refl _ _,λi hi=>tW (h.2 i hi w<|Fr.refl _ _) λa' w' h'=>by
   rcases h' with⟨_,S',_,_,_,h'⟩|⟨_,_,h'⟩
   ·exact U3.sound f _ _ _ a' w' h'
   ·exact U3.sound f _ _ _ a' w' h'⟩
theorem U3.first{oi:Oper}(hi:ops[i]? =some oi)(hsel: ∀(j:Nat)(o:Oper)cs b,ops[j]? =some o→o.op≠ .select cs b):
  ∀(f:Nat)(L:E6)(S:World→Prop)(listed:Array Bool)(a:Act)(w:World),(∀w w',S w→Fr [] w w'→S w')→(∀w,S w→B w)→i∉L→
   (∀j oj,ops[j]? =some oj→j≠i→listed.getD j true=false→(∀e∈oj.after,Region.binds .any e=true→e.on≠i)→oi.apart ops oj=true)→
   i∈Region.ready .any ops listed→Quiet P ops B oi v a→S w→U3 P ops K B f L S (listed.setIfInBounds i true) (a.put oi.dst v) w→U3 P ops K B (f+1) L S listed a w:=by
 intro f
 induction f with
 |zero=>
  intro L S listed a w hcl hSB hL _ hr hy hS H
  refine⟨λh=>(by rw[h] at hr;cases hr),λj hj w' hf=>?_⟩
  by_cases hji:j=i
  ·subst hji
   refine hy.wpOp hi (hSB _<|hcl _ _ hS hf) λw'' hf'=> .inr ⟨λh=>hL<|List.mem_of_mem_head? h,hcl _ _ (hcl _ _ hS hf) hf',U3.up H<|hf.trans hf'⟩
  ·have:=ready_mono hj hji
   rw[H.1] at this
   cases this
 |succ f ih=>
  intro L S listed a w hcl hSB hL hfree hr hy hS H
  refine⟨λh=>(by rw[h] at hr;cases hr),λj hj w' hf=>?_⟩
  have hS':=hcl _ _ hS hf
  by_cases hji:j=i
  ·subst hji
   exact hy.wpOp hi (hSB _<|hcl _ _ hS hf) λw'' hf'=> .inr ⟨λh=>hL<|List.mem_of_mem_head? h,hcl _ _ hS' hf',U3.up H<|hf.trans hf'⟩
  ·have h1:=H.2 j (ready_mono hj hji) w' hf
   obtain⟨hjun,oj,hoj,hall⟩:=mem_ready.1 hj
   have hnot: ∀e∈oj.after,Region.binds .any e=true→e.on≠i:=λe he hb heq=>by
    have h1:=hall e he hb
    have h0:=(mem_ready.1 hr).1
    rw[heq] at h1
    rcases Nat.lt_or_ge i listed.size with h'|h'
    ·simp[h'] at h0 h1;rw[h0] at h1;cases h1
    ·simp[Array.getElem?_eq_none h'] at h1
   have h2:=ye hoj (hfree j oj hoj hji hjun hnot) (λcs b=>hsel i oi cs b hi) (λcs b=>hsel j oj cs b hoj) hy h1
   have hfree': ∀k ok,ops[k]? =some ok→k≠i→(listed.setIfInBounds j true).getD k true=false→(∀e∈ok.after,Region.binds .any e=true→e.on≠i)→oi.apart ops ok=true:=λk ok hk hki hun hno=>by
    refine hfree k ok hk hki ?_ hno
    by_cases hjk:j=k
    ·subst hjk;exact hjun
    ·rw[getD_set_ne true hjk] at hun;exact hun
   refine tW h2 λa' w'' h3=>?_
   obtain⟨hyq,h3⟩:=h3
   rcases h3 with⟨hh,S',hcl',hSB',hS3,hU3⟩|⟨hh,hS3,hU3⟩
   ·refine .inl ⟨hh,S',hcl',hSB',hS3,ih L.tail S' (listed.setIfInBounds j true) a' w'' hcl' hSB' (λh=>hL<|List.mem_of_mem_tail h) hfree' (ready_mono hr<|Ne.symm hji) hyq hS3 ?_⟩
    rw[Array.setIfInBounds_comm _ _ hji]
    exact hU3
   ·refine .inr ⟨hh,hS3,ih L S (listed.setIfInBounds j true) a' w'' hcl hSB hL hfree' (ready_mono hr<|Ne.symm hji) hyq hS3 ?_⟩
    rw[Array.setIfInBounds_comm _ _ hji]
    exact hU3
end
def qQ(ops:Array Oper)(L:List Nat):List Hn→List Nat→Array Bool→Bool
 |[],[],_=>true
 | .o::hs,l,listed=>qQ ops L hs l listed
 |h::hs,i::l,listed=>(kQ ops listed i&&mM ops listed)&&mT i L&&qQ ops L hs l (listed.setIfInBounds i true)
 |_,_,_=>false
section
variable{P:Program}{Q:Exit→Wy}{n:Nat}{env:aT}{w0:World}{S:E6}{H HB:List aI}{ops:Zb}{K:Wy}{l:List Oper}{o:Oper}{f:Nat}{L:E6}{listed:Array Bool}
theorem Yl{id:Nat}(L:E6)(k:Nat)(HB:List aI)(hk:(Nat.beq l.length k&&P.follows .mixedOrders)=true)(h:A n env w0 S H (U3 P l.toArray (Q .normal) (HS w0 S HB) k L (HS w0 S H)<|Array.replicate k false)):
  A n env w0 S H ((Code.region id l.toArray true).wp P Q):=by
 simp only[Bool.and_eq_true] at hk
 obtain rfl:=Nat.eq_of_beq_eq_true hk.1
 exact λa w r s=>wp_region_any hk.2<|U3.sound _ _ _ _ _ _<|by simpa using h a _ r (s.kept<|Fr.drew _ _)
theorem y5(hBH:List.Sublist HB H)(hi:ops[i]? =some o)(ht:(kQ ops listed i&&mM ops listed)=true)(hL:mT i L=true)(hq:Quiet P ops (HS w0 S HB) o v a)(s:HS w0 S H w)
  (h:U3 P ops K (HS w0 S HB) f L (HS w0 S H) (listed.setIfInBounds i true) (a.put o.dst v) w):U3 P ops K (HS w0 S HB) (f+1) L (HS w0 S H) listed a w:=by
 simp only[kQ,Bool.and_eq_true] at ht
 exact U3.first hi (Region.noSelect_spec ht.1.2) f L (HS w0 S H) listed a w (λw w' hw hf=>hw.kept hf) (λw hw=>hw.sub hBH) (CZ hL) (Region.free_spec hi ht.1.1.1) (by simpa using ht.1.1.2) hq s h
theorem Rt{dJ:E6}{Hc:List aI}(hBH:List.Sublist HB H): ∀(hs:List Hn)(order:E6)(listed:Array Bool)(base:aT)(fs:List Fm)(clean:Bool),kT hs=true→qQ ops L hs order listed=true→(clean=true→Hc=HB)→(fy ops order).length=order.length→
  (∃r,X P ops n dJ hs (fy ops order) [] base fs HB clean=some r∧Good P n w0 S Hc (λa w=>HS w0 S H w→U3 P ops K (HS w0 S HB) f L (HS w0 S H) (jg listed order) a w) r)→
  ∀a w,Ri n base fs a→HS w0 S H w→U3 P ops K (HS w0 S HB) (f+order.length) L (HS w0 S H) listed a w:=by
 intro hs
 induction hs with
 |nil=>
  intro order listed base fs clean _ hd hcl hlen ⟨r,hX,hG⟩ a w hr hsp
  cases order with
  |cons i order=>
   cases hi:ops[i]? with
   |none=>simp[fy,hi] at hlen
   |some o=>simp[fy,hi,X] at hX
  |nil=>
   simp only[fy] at hX
   cases fs with
   |cons f fs=>simp[X] at hX
   |nil=>
    simp only[X] at hX
    cases hk:q9 base dJ with
    |none=>rw[hk] at hX;simp at hX
    |some e=>
     rw[hk] at hX
     simp at hX;subst hX
     exact hG.go a w (yf hr hk) (hsp.sub hBH) hsp
 |cons h hs ih=>
  intro order listed base fs clean hcalm hd hcl hlen ⟨r,hX,hG⟩ a w hr hsp
  cases order with
  |nil=>cases h<;>simp[fy,X] at hX
  |cons i order=>
   cases hi:ops[i]? with
   |none=>simp[fy,hi] at hlen
   |some o=>
    have hlen':(fy ops order).length=order.length:=by simpa[fy,hi] using hlen
    have hd0:=hd
    simp only[fy,hi] at hX
    have simpX:h≠ .o→kT hs=true→(match lY ops base fs o&&pY n base fs o.dst with
      |true=>(match jb P HB clean (V.full base fs) o h with
       |some q=>(match X P ops n dJ hs (fy ops order) [] (uP base fs o.dst q.v) (uQ fs o.dst q.v) HB clean with
        |some r=>some<|r.add fs q
        |none=>none)
       |none=>none)
      |false=>none)=some r→U3 P ops K (HS w0 S HB) (f+(i::order).length) L (HS w0 S H) listed a w:=by
     intro hno hcalm hX
     have hd:((kQ ops listed i&&mM ops listed)&&mT i L&&qQ ops L hs order (listed.setIfInBounds i true))=true:=by
      cases h<;>first|exact absurd rfl hno|exact hd
     obtain⟨hd1,hd⟩:=Bool.and_eq_true_iff.1 hd
     obtain⟨ht,hw⟩:=Bool.and_eq_true_iff.1 hd1
     split at hX
     case h_2=>cases hX
     rename_i hgs
     simp only[Bool.and_eq_true] at hgs
     split at hX
     case h_2=>cases hX
     rename_i q hq
     split at hX
     case h_2=>cases hX
     rename_i r' hr'
     simp at hX;subst hX
     have hk:U3 P ops K (HS w0 S HB) (f+order.length) L (HS w0 S H) (listed.setIfInBounds i true) (a.put o.dst<|bif cO fs then q.v else undef) w:=
      ih order _ _ _ clean hcalm hd hcl hlen' ⟨r',hr',hG.tail.1⟩ _ w (hr.put hgs.2) hsp
     exact y5 hBH hi ht hw (IX hr hgs.1<|λhc=>CJ (Hc:=Hc) hq hG.tail.2.1 (hG.tail.2.2 hc) hcl) hsp hk
    cases h with
    |p|w e|eq|es|ld j|rd vs|ix|cq v|ct|si u|ss=>simp only[X] at hX;exact simpX (by simp) (by simpa[kT] using hcalm) hX
    |st j|al=>simp[kT] at hcalm
    |o=>
     simp only[X] at hX
     split at hX
     case h_2=>cases hX
     rename_i j pol hgd
     split at hX
     case h_2=>cases hX
     rename_i d hdd
     split at hX
     case h_2=>cases hX
     rename_i E hE
     exact ih (i::order) listed base _ clean (by simpa[kT] using hcalm) hd0 hcl hlen ⟨r,by simp only[fy,hi];exact hX,hG⟩ a w (hr.open_ hE) hsp
    |cl=>
     obtain⟨hd1,hd⟩:=Bool.and_eq_true_iff.1 (show((kQ ops listed i&&mM ops listed)&&mT i L&&qQ ops L hs order (listed.setIfInBounds i true))=true from hd)
     obtain⟨ht,hw⟩:=Bool.and_eq_true_iff.1 hd1
     cases fs with
     |nil=>simp[X] at hX
     |cons f1 fs=>
      simp only[X] at hX
      split at hX
      case h_2=>cases hX
      rename_i hgs
      simp only[Bool.and_eq_true] at hgs
      split at hX
      case h_2=>cases hX
      rename_i v hv
      have hq: ∀SS:World→Prop,Quiet P ops SS o (bif cO fs then v else undef) a:=λSS=>by
       cases hc:cO fs with
       |true=>
        refine .inl ⟨by rw[hr.1.wanted hgs.1,hc],λw s=>?_⟩
        rw[CL hr hc hv w]
        exact⟨rfl,Fr.refl _ _⟩
       |false=>exact .inr ⟨by rw[hr.1.wanted hgs.1,hc],rfl⟩
      have hk:U3 P ops K (HS w0 S HB) (f+order.length) L (HS w0 S H) (listed.setIfInBounds i true) (a.put o.dst<|bif cO fs then v else undef) w:=
       ih order _ _ _ clean (by simpa[kT] using hcalm) hd hcl hlen' ⟨r,hX,hG⟩ _ w (hr.1.put hgs.2) hsp
      exact y5 hBH hi ht hw (hq _) hsp hk
    |sk=>
     obtain⟨hd1,hd⟩:=Bool.and_eq_true_iff.1 (show((kQ ops listed i&&mM ops listed)&&mT i L&&qQ ops L hs order (listed.setIfInBounds i true))=true from hd)
     obtain⟨ht,hw⟩:=Bool.and_eq_true_iff.1 hd1
     simp only[X] at hX
     split at hX
     case h_2=>cases hX
     rename_i hwt hsl
     have hq: ∀SS:World→Prop,Quiet P ops SS o undef a:=λSS=> .inr ⟨ic hr hwt,rfl⟩
     have hk:U3 P ops K (HS w0 S HB) (f+order.length) L (HS w0 S H) (listed.setIfInBounds i true) (a.put o.dst undef) w:=
      ih order _ _ [] clean (by simpa[kT] using hcalm) hd hcl hlen' ⟨r,hX,hG⟩ _ w (Ri.put (fs:=[]) (v:=undef) hr hsl) hsp
     exact y5 hBH hi ht hw (hq _) hsp hk
theorem Gm(i:Nat)(d:Option Nat)(v:Value)(hi:ops[i]? =some o)(ht:((kQ ops listed i&&mM ops listed)&&mT i L)=true)(hok:ff ops n env o d=true)(hBH:List.Sublist HB H)(hq:Qt P n env w0 S HB o v)
  (h:A n (putE env d v) w0 S H (U3 P ops K (HS w0 S HB) f L (HS w0 S H)<|listed.setIfInBounds i true)):A n env w0 S H (U3 P ops K (HS w0 S HB) (f+1) L (HS w0 S H) listed):=by
 intro a w r s
 obtain⟨h1,h2,h3,_⟩:=jf hok
 obtain⟨ht1,ht2⟩:=Bool.and_eq_true_iff.1 ht
 refine y5 hBH hi ht1 ht2 (.inl ⟨ic r h1,λw' s'=>hq a w' r s'⟩) s ?_
 rw[h2]
 exact h _ w (r.putE h3) s
theorem ZD(i:Nat)(hi:ops[i]? =some o)(hr:Region.ready .any ops listed=[i])
  (h:A n env w0 S H (cz P ops o<|λa w=> ∃S':World→Prop,(∀w w',S' w→Fr [] w w'→S' w')∧(∀w,S' w→HS w0 S HB w)∧S' w∧U3 P ops K (HS w0 S HB) f L S' (listed.setIfInBounds i true) a w)):A n env w0 S H (U3 P ops K (HS w0 S HB) (f+1) (i::L) (HS w0 S H) listed):=by
 intro a w r s
 refine⟨λh0=>(by rw[hr] at h0;cases h0),λj hj w' hf=>?_⟩
 rw[hr,List.mem_singleton] at hj
 subst hj
 have h1:=h a w' r<|s.kept hf
 unfold cz at h1
 unfold wpOp
 simp only[hi]
 split
 ·rename_i hw;rw[if_pos hw] at h1;exact .inl<|Oper.wp_imp h1 λ_ _ h=> .inl ⟨rfl,h⟩
 ·rename_i hw;rw[if_neg hw] at h1;exact .inl ⟨rfl,h1⟩
theorem gI(hBH:List.Sublist HB H)(h:A n env w0 S H (U3 P ops K (HS w0 S HB) f L (HS w0 S H) listed)):A n env w0 S H (λa w=> ∃S':World→Prop,(∀w w',S' w→Fr [] w w'→S' w')∧(∀w,S' w→HS w0 S HB w)∧S' w∧U3 P ops K (HS w0 S HB) f L S' listed a w):=λa w r s=>⟨HS w0 S H,λ_ _ hw hf=>hw.kept hf,λ_ hw=>hw.sub hBH,s,h a w r s⟩
theorem Ys{B:World→Prop}(hr:Region.ready .any ops listed=[])(h:A n env w0 S H K):A n env w0 S H (U3 P ops K B f L (HS w0 S H) listed):=by
 intro a w r s
 cases f with
 |zero=>exact⟨hr,λw' hf=>h a w' r<|s.kept hf⟩
 |succ f=>exact⟨λ_ w' hf=>h a w' r<|s.kept hf,by rw[hr];simp⟩
end
end Go.Proofs.YtobgjpigngoggaaGreat.V
namespace Go.Proofs.YtobgjpigngoggaaGreat.V
open Go
open Go.MapKept (run_checkKey run_findKey IsKey heap_set)
structure jk(P:Program)(kt:TypeId){κ:Type}(enck:κ→Value):Prop where
 check: ∀(k:κ)(em:Bool)(w:World),(Instr.checkKey em 10000 kt<|enck k).run P w= .ok () w
 find: ∀(k:κ)(l:List (MapEntry×κ))(w:World),(∀p∈l,p.1.key=enck p.2)→
  (∃i p,l[i]? =some p∧p.2=k∧(Instr.findKey kt (enck k) (l.map (·.1))).run P w= .ok (some (i,p.1.val)) w)∨((∀p∈l,p.2≠k)∧(Instr.findKey kt (enck k) (l.map (·.1))).run P w= .ok none w)
 stays: ∀(k:κ)(w:World),(Instr.keyThatStays (enck k)<|enck k).run P w= .ok (enck k) w
variable{kk:IntKind}
theorem HF{d:TypeDesc}(hd:d= .int kk)(k:Int): ∀(l:List (MapEntry×Int))(i0:Nat),(∀p∈l,p.1.key= .int kk p.2)→
  (∃i p,l[i]? =some p∧p.2=k∧(∀j q,l[j]? =some q→j<i→q.2≠k)∧Instr.findNow d (.int kk k) (l.map (·.1)) i0=some (some (i0+i,p.1.val)))∨((∀p∈l,p.2≠k)∧Instr.findNow d (.int kk k) (l.map (·.1)) i0=some none)
 |[],i0,_=> .inr ⟨by simp,rfl⟩
 |p::l,i0,h=>by
  have hp:=h p<|by simp
  subst hd
  have hs:Instr.sameNow (.int kk) (.int kk k) p.1.key=some (k==p.2):=by rw[hp];simp[Instr.sameNow]
  by_cases hk:p.2=k
  ·refine .inl ⟨0,p,rfl,hk,λj q _ hj=>absurd hj<|Nat.not_lt_zero _,?_⟩
   simp[Instr.findNow,hs,hk]
  ·have hb:(k==p.2)=false:=by simpa using λe=>hk e.symm
   rcases HF rfl k l (i0+1) (λq hq=>h q<|by simp[hq]) with⟨i,q,hq,hqk,hmin,hf⟩|⟨hn,hf⟩
   ·refine .inl ⟨i+1,q,by simpa using hq,hqk,λj r hj hlt=>?_,?_⟩
    ·cases j with
     |zero=>simp at hj;subst hj;exact hk
     |succ j=>exact hmin j r (by simpa using hj)<|by omega
    ·simp only[List.map_cons,Instr.findNow,hs,hb,hf];congr 3;omega
   ·refine .inr ⟨λq hq=>?_,by simp only[List.map_cons,Instr.findNow,hs,hb,hf]⟩
    rcases List.mem_cons.1 hq with rfl|hq
    ·exact hk
    ·exact hn q hq
variable{P:Program}{kt:TypeId}
theorem yh(ht:P.underlying kt=some (.int kk)):jk P kt (λk:Int=>Value.int kk k) where
 check k em w:=run_checkKey ht (by simp[IsKey]) em 9999
 find k l w h:=by
  rcases HF rfl k l 0 h with⟨i,p,h1,h2,h3,h4⟩|⟨h1,h2⟩
  ·exact .inl ⟨i,p,h1,h2,by rw[run_findKey ht h4];simp⟩
  ·exact .inr ⟨h1,run_findKey ht h2⟩
 stays k w:=by simp[Instr.keyThatStays,Instr.sameBits]
section
variable{κ β:Type}
def aB[DecidableEq κ]:List (κ×β)→κ→Option β
 |[],_=>none
 |p::l,k=>if p.1=k then some p.2 else aB l k
def aJ[DecidableEq κ]:List (κ×β)→κ→β→List (κ×β)
 |[],k,v=>[(k,v)]
 |p::l,k,v=>if p.1=k then(p.1,v)::l else p::aJ l k v
def aW[DecidableEq κ]:List (κ×β)→κ→List (κ×β)
 |[],_=>[]
 |p::l,k=>if p.1=k then l else p::aW l k
def Ents(enck:κ→Value)(encv:β→Value):List MapEntry→List (κ×β)→Prop
 |[],[]=>True
 |e::es,p::kv=>(e.key=enck p.1∧e.val=encv p.2)∧Ents enck encv es kv
 |_,_=>False
structure YK(enck:κ→Value)(encv:β→Value)(b:Nat)(kv:List (κ×β))(w:World):Prop where
 ex: ∃es clock,w.heap[b]? =some (.map es clock)∧Ents enck encv es.toList kv∧(∀e∈es.toList,e.born<clock)∧(es.toList.map (·.born)).Nodup
 keys:(kv.map (·.1)).Nodup
def bH(enck:κ→Value)(encv:β→Value)(b:Nat)(kv:List (κ×β)):aI where
 foot:=[b]
 holds:=YK enck encv b kv
 loc w w' h hw:=by
  obtain⟨⟨es,c,h1,h2⟩,h3⟩:=hw
  exact⟨⟨es,c,by rw[h b<|by simp];exact h1,h2⟩,h3⟩
 here w hw c hc:=by
  obtain⟨⟨es,cl,h1,h2⟩,h3⟩:=hw
  simp at hc;subst hc
  exact(Array.getElem?_eq_some_iff.1 h1).1
variable{enck:κ→Value}{encv:β→Value}
theorem Ents.len: ∀{es:List MapEntry}{kv:List (κ×β)},Ents enck encv es kv→es.length=kv.length
 |[],[],_=>rfl
 |_::_,_::_,h=>by simp[Ents.len h.2]
 |[],_::_,h=>h.elim
 |_::_,[],h=>h.elim
theorem Ents.zip: ∀{es:List MapEntry}{kv:List (κ×β)},Ents enck encv es kv→(es.zip (kv.map (·.1))).map (·.1)=es∧ ∀p∈es.zip (kv.map (·.1)),p.1.key=enck p.2
 |[],[],_=>⟨rfl,by simp⟩
 |e::es,p::kv,h=>by
  obtain⟨h1,h2⟩:=Ents.zip h.2
  refine⟨by simp[h1],λq hq=>?_⟩
  simp only[List.map_cons,List.zip_cons_cons,List.mem_cons] at hq
  rcases hq with rfl|hq
  ·exact h.1.1
  ·exact h2 q hq
 |[],_::_,h=>h.elim
 |_::_,[],h=>h.elim
theorem Ents.at: ∀{es:List MapEntry}{kv:List (κ×β)}{i:Nat}{e:MapEntry}{k:κ},Ents enck encv es kv→(es.zip (kv.map (·.1)))[i]? =some (e,k)→es[i]? =some e∧ ∃v,kv[i]? =some (k,v)∧e.val=encv v
 |e'::es,p::kv,0,e,k,h,hi=>by
  simp at hi;obtain⟨rfl,rfl⟩:=hi
  exact⟨rfl,p.2,rfl,h.1.2⟩
 |e'::es,p::kv,i+1,e,k,h,hi=>by
  simp at hi
  obtain⟨h1,v,h2,h3⟩:=Ents.at (i:=i) h.2<|by simpa using hi
  exact⟨by simpa using h1,v,by simpa using h2,h3⟩
 |[],[],_,_,_,_,hi=>by simp at hi
variable[DecidableEq κ]
theorem Dp: ∀{kv:List (κ×β)}{i:Nat}{k:κ}{v:β},kv[i]? =some (k,v)→(kv.map (·.1)).Nodup→aB kv k=some v
 |p::kv,0,k,v,h,_=>by simp at h;subst h;simp[aB]
 |p::kv,i+1,k,v,h,hn=>by
  simp at h
  rw[List.map_cons] at hn
  have hn':=List.nodup_cons.1 hn
  have hne:p.1≠k:=λe=>hn'.1 (by rw[e];exact List.mem_map.2 ⟨(k,v),Zd h,rfl⟩)
  simp only[aB,if_neg hne]
  exact Dp h hn'.2
theorem Ce: ∀{kv:List (κ×β)}{k:κ},(∀p∈kv,p.1≠k)→aB kv k=none
 |[],_,_=>rfl
 |p::kv,k,h=>by simp only[aB,if_neg<|h p<|by simp];exact Ce λq hq=>h q<|by simp[hq]
end
section
variable{P:Program}{n:Nat}{env:aT}{w0:World}{S:E6}{H:List aI}{ops:Zb}{o:Oper}{K:Wy}{κ β:Type}[DecidableEq κ]
variable{enck:κ→Value}{encv:β→Value}{kv:List (κ×β)}
theorem ud{es:Array MapEntry}(hk:jk P kt enck)(h:Ents enck encv es.toList kv)(hn:(kv.map (·.1)).Nodup)(k:κ)(w:World):
  (∃i v,kv[i]? =some (k,v)∧(∃e,es[i]? =some e∧e.key=enck k)∧aB kv k=some v∧(Instr.findKey kt (enck k) es.toList).run P w= .ok (some (i,encv v)) w)∨(aB kv k=none∧(∀p∈kv,p.1≠k)∧(Instr.findKey kt (enck k) es.toList).run P w= .ok none w):=by
 obtain⟨h1,h2⟩:=h.zip
 rcases hk.find k (es.toList.zip (kv.map (·.1))) w h2 with⟨i,⟨e,k'⟩,hi,rfl,hf⟩|⟨hn',hf⟩
 ·obtain⟨he,v,hv,hev⟩:=h.at hi
  refine .inl ⟨i,v,hv,⟨e,by simpa using he,h2 _<|Zd hi⟩,Dp hv hn,?_⟩
  rw[h1] at hf;rw[hf,hev]
 ·have hall: ∀p∈kv,p.1≠k:=by
   intro p hp hpk
   obtain⟨i,hlt,hget⟩:=List.mem_iff_getElem.1 hp
   have hl:es.toList.length=kv.length:=h.len
   have hl2:i<es.toList.length:=by omega
   have hz:(es.toList.zip (kv.map (·.1)))[i]? =some (es.toList[i]'hl2,p.1):=by
    rw[Ze (by simp only[List.length_zip,List.length_map];omega)];simp[hget]
   exact hn' _ (Zd hz) hpk
  exact .inr ⟨Ce hall,hall,by rw[h1] at hf;exact hf⟩
variable{x y:Operand}{t et:TypeId}{b:Nat}{k:κ}
theorem kg{d0:β}{z:Value}(hit: ∀w,HS w0 S H w→(bH enck encv b kv).holds w)(ho:o.op= .lookup t x y false)(hx:ev env x=some (.map<|some b))(hy:ev env y=some (enck k))
  (ht:P.underlying t=some (.map kt et))(hk:jk P kt enck)(hz:(P.info? et).bind (·.zero)=some z)(hd:encv d0=z):Qt P n env w0 S H o (encv<|(aB kv k).getD d0):=
 gr λa w r s=>by
  obtain⟨⟨es,clock,hb,hE,_⟩,hn⟩:=hit w s
  simp only[Option.bind_eq_some_iff] at hz
  obtain⟨inf,hinf,hz⟩:=hz
  rcases ud hk hE hn k w with⟨i,v,_,_,hg,hf⟩|⟨hg,_,hf⟩
  ·simp[execOp,ho,r.ev hx,r.ev hy,Instr.lookup,run_underlying ht,Go.MapKept.run_getObj_map hb,hk.check,hf,hg]
  ·simp[execOp,ho,r.ev hx,r.ev hy,Instr.lookup,run_underlying ht,Go.MapKept.run_getObj_map hb,hk.check,hf,hg,zeroValue,typeInfo,hinf,hz,hd]
theorem pH{d0:β}{z:Value}(hit: ∀w,HS w0 S H w→(bH enck encv b kv).holds w)(ho:o.op= .lookup t x y true)(hx:ev env x=some (.map<|some b))(hy:ev env y=some (enck k))
  (ht:P.underlying t=some (.map kt et))(hk:jk P kt enck)(hz:(P.info? et).bind (·.zero)=some z)(hd:encv d0=z):Qt P n env w0 S H o (.tuple #[encv<|(aB kv k).getD d0,.bool (aB kv k).isSome]):=
 gr λa w r s=>by
  obtain⟨⟨es,clock,hb,hE,_⟩,hn⟩:=hit w s
  simp only[Option.bind_eq_some_iff] at hz
  obtain⟨inf,hinf,hz⟩:=hz
  rcases ud hk hE hn k w with⟨i,v,_,_,hg,hf⟩|⟨hg,_,hf⟩
  ·simp[execOp,ho,r.ev hx,r.ev hy,Instr.lookup,run_underlying ht,Go.MapKept.run_getObj_map hb,hk.check,hf,hg]
  ·simp[execOp,ho,r.ev hx,r.ev hy,Instr.lookup,run_underlying ht,Go.MapKept.run_getObj_map hb,hk.check,hf,hg,zeroValue,typeInfo,hinf,hz,hd]
theorem Hi: ∀(kv:List (κ×β))(k:κ)(v:β),(aJ kv k v).map (·.1)=if k∈kv.map (·.1) then kv.map (·.1) else kv.map (·.1)++[k]
 |[],k,v=>by simp[aJ]
 |p::kv,k,v=>by
  unfold aJ
  by_cases h:p.1=k
  ·simp[h]
  ·have ih:=Hi kv k v
   rw[if_neg h,List.map_cons,ih,List.map_cons]
   by_cases h2:k∈kv.map (·.1)
   ·rw[if_pos h2,if_pos<|by simp[h2]]
   ·rw[if_neg h2,if_neg (by simp only[List.mem_cons,not_or];exact⟨λe=>h e.symm,h2⟩),List.cons_append]
theorem mn(h:(kv.map (·.1)).Nodup)(k:κ)(v:β):((aJ kv k v).map (·.1)).Nodup:=by
 rw[Hi];split
 ·exact h
 ·rename_i hk;exact List.nodup_append.2 ⟨h,by simp,λa ha b hb e=>by simp at hb;subst hb;subst e;exact hk ha⟩
theorem JI: ∀{kv:List (κ×β)}{i:Nat}{k:κ}{v:β}(u:β),kv[i]? =some (k,v)→(kv.map (·.1)).Nodup→aJ kv k u=kv.set i (k,u)
 |p::kv,0,k,v,u,h,_=>by simp at h;subst h;simp[aJ]
 |p::kv,i+1,k,v,u,h,hn=>by
  simp at h
  rw[List.map_cons] at hn
  have hn':=List.nodup_cons.1 hn
  have hne:p.1≠k:=λe=>hn'.1 (by rw[e];exact List.mem_map.2 ⟨(k,v),Zd h,rfl⟩)
  simp only[aJ,if_neg hne,List.set_cons_succ]
  rw[JI u h hn'.2]
theorem IY: ∀{kv:List (κ×β)}{k:κ}(u:β),(∀p∈kv,p.1≠k)→aJ kv k u=kv++[(k,u)]
 |[],_,_,_=>rfl
 |p::kv,k,u,h=>by simp only[aJ,if_neg<|h p<|by simp,List.cons_append];rw[IY u λq hq=>h q<|by simp[hq]]
omit [DecidableEq κ] in
theorem Ents.set: ∀{es:List MapEntry}{kv:List (κ×β)}{i:Nat}{k:κ}{v:β}{e:MapEntry},Ents enck encv es kv→kv[i]? =some (k,v)→es[i]? =some e→ ∀u,Ents enck encv (es.set i {e with key:=enck k,val:=encv u})<|kv.set i (k,u)
 |e'::es,p::kv,0,k,v,e,h,_,_,u=>⟨⟨rfl,rfl⟩,h.2⟩
 |e'::es,p::kv,i+1,k,v,e,h,hk,he,u=>⟨h.1,Ents.set (i:=i) h.2 (by simpa using hk) (by simpa using he) u⟩
 |[],[],_,_,_,_,_,hk,_,_=>by simp at hk
omit [DecidableEq κ] in
theorem Ents.snoc{e:MapEntry}{v:β}(he:e.key=enck k∧e.val=encv v): ∀{es:List MapEntry}{kv:List (κ×β)},Ents enck encv es kv→Ents enck encv (es++[e]) (kv++[(k,v)])
 |[],[],_=>⟨he,trivial⟩
 |_::_,_::_,h=>⟨h.1,Ents.snoc he h.2⟩
 |[],_::_,h=>h.elim
 |_::_,[],h=>h.elim
theorem Gp(i:Nat){z:Operand}(v:β)(H':List aI)(hok:ff ops n env o none=true)(ho:o.op= .mapUpdate t x y z)(hx:ev env x=some (.map<|some b))(hy:ev env y=some (enck k))(hz:ev env z=some (encv v))
  (ht:P.underlying t=some (.map kt et))(hk:jk P kt enck)(hi:H[i]? =some (bH enck encv b kv))(hH:H.set i (bH enck encv b<|aJ kv k v)=H')(h:V.A n env w0 S H' K):V.A n env w0 S H (cz P ops o K):=by
 intro a w r s
 obtain⟨h1',h2,h3,h4⟩:=jf hok
 unfold cz
 rw[if_pos<|ic r h1']
 obtain⟨⟨es,clock,hb,hE,hborn,hnd⟩,hn⟩:=s.mem hi
 have key: ∃es' clock',(execOp a.eval o).run P w= .ok .skip {w with heap:=w.heap.setIfInBounds b<|.map es' clock'}∧Ents enck encv es'.toList (aJ kv k v)∧(∀e∈es'.toList,e.born<clock')∧(es'.toList.map (·.born)).Nodup:=by
  rcases ud hk hE hn k w with⟨j,u,hj,⟨e,he,hek⟩,_,hf⟩|⟨_,hall,hf⟩
  ·have hlt:j<es.size:=(Array.getElem?_eq_some_iff.1 he).1
   have hge:es[j]=e:=(Array.getElem?_eq_some_iff.1 he).2
   have hm:(es.modify j λe=>{e with key:=enck k,val:=encv v}).toList=es.toList.set j {e with key:=enck k,val:=encv v}:=by
    apply List.ext_getElem?
    intro q
    simp only[Array.getElem?_toList,Array.getElem?_modify,List.getElem?_set]
    by_cases hq:j=q
    ·subst hq;simp[he,hlt,hge]
    ·simp[hq]
   have hmem:e∈es.toList:=by rw[←hge];simp
   refine⟨es.modify j λe=>{e with key:=enck k,val:=encv v},clock,?_,?_,?_,?_⟩
   ·simp[execOp,ho,r.ev hx,r.ev hy,r.ev hz,Instr.mapUpdate,run_underlying ht,Go.MapKept.run_getObj_map hb,hk.check,hf,he,hek,hk.stays,Go.MapKept.run_setObj_map _ hb]
   ·rw[JI v hj hn,hm];exact hE.set hj (by simpa using he) v
   ·intro e' he'
    rw[hm] at he'
    rcases List.mem_or_eq_of_mem_set he' with h5|rfl
    ·exact hborn _ h5
    ·exact hborn e hmem
   ·rw[hm,List.map_set,show(e.born)=(es.toList.map (·.born))[j]'(by simpa using hlt) by simp[hge],List.set_getElem_self];exact hnd
  ·refine⟨es.push {key:=enck k,val:=encv v,born:=clock},clock+1,?_,?_,?_,?_⟩
   ·simp[execOp,ho,r.ev hx,r.ev hy,r.ev hz,Instr.mapUpdate,run_underlying ht,Go.MapKept.run_getObj_map hb,hk.check,hf,Go.MapKept.run_setObj_map _ hb]
   ·rw[IY v hall,Array.toList_push];exact Ents.snoc (enck:=enck) (encv:=encv) (k:=k) (v:=v) (e:={key:=enck k,val:=encv v,born:=clock}) ⟨rfl,rfl⟩ hE
   ·intro e he
    simp only[Array.toList_push,List.mem_append,List.mem_singleton] at he
    rcases he with he|rfl
    ·have:=hborn e he;omega
    ·simp
   ·rw[Array.toList_push,List.map_append]
    refine List.nodup_append.2 ⟨hnd,by simp,λx hx y hy e=>?_⟩
    simp at hy;subst hy;subst e
    obtain⟨e',he',heq⟩:=List.mem_map.1 hx
    have:=hborn e' he';omega
 obtain⟨es',clock',hrun,hE',hb',hn'⟩:=key
 unfold Oper.wp
 rw[hrun]
 simp only[Oper.upon,h2]
 refine h _ _ r ?_
 rw[←hH]
 obtain⟨hs1,hs2⟩:=heap_set (o':= .map es' clock') hb
 exact s.turn (jt:=bH enck encv b<|aJ kv k v) hi ⟨rfl,rfl,rfl,by simp,λq _ hq=>hs2 q<|by simpa[bH] using hq⟩ ⟨⟨es',clock',hs1,hE',hb',hn'⟩,mn hn k v⟩ (by simp[bH])<|by simp[bH]
omit [DecidableEq κ] in
theorem nU(enck:κ→Value)(encv:β→Value)(d:Nat)(hok:ff ops n env o (some d)=true)(ho:o.op= .makeMap t none)(H':Nat→List aI)(hH: ∀b,H++[bH enck encv b []]=H' b)
  (h: ∀b,V.A n ((d,.map<|some b)::env) w0 S (H' b) K):V.A n env w0 S H (cz P ops o K):=by
 intro a w r s
 obtain⟨h1',h2,h3,h4⟩:=jf hok
 unfold cz
 rw[if_pos<|ic r h1']
 have hrun:(execOp a.eval o).run P w= .ok (.value<|.map<|some w.heap.size) (w.alloc<|.map #[] 0):=by
  simp[execOp,ho,Instr.makeMap,newObj,Sem.run,World.alloc_eq]
 unfold Oper.wp
 rw[hrun]
 simp only[Oper.upon,h2]
 refine h w.heap.size _ _ (r.put<|h3 d rfl) ?_
 rw[←hH]
 exact s.add (it:=bH enck encv w.heap.size []) (Fr.alloc _ _ _) ⟨⟨#[],0,by have:=heap_alloc_new w<|.map #[] 0;simpa using this,trivial,by simp,by simp⟩,by simp⟩ (by simp[bH])<|by simp[bH]
omit [DecidableEq κ] in
theorem u7(hit: ∀w,HS w0 S H w→(bH enck encv b kv).holds w)(ho:o.op= .call {callee:= .builtin .len,args:=#[x],argTypes:=#[t]})(hx:ev env x=some (.map<|some b))(ht:P.underlying t=some (.map kt et)):Qt P n env w0 S H o (.int .i64 (kv.length:Int)):=
 gr λa w r s=>by
  obtain⟨⟨es,clock,hb,hE,_⟩,hn⟩:=hit w s
  have:=congrArg (λn:Nat=>(n:Int)) hE.len
  simp[execOp,ho,resolve,invoke,builtin,r.ev hx,Builtin.len_,run_underlying ht,Go.MapKept.run_getObj_map hb,goInt]
  simpa using this
end
theorem PR{x y:Value}{b:Bool}(h:ju P 10000 kt x y=some b)(w:World):(Op.equal kt x y).run P w= .ok b w:=zT (P:=P) w _ _ _ _ _ h
theorem Gs{κ:Type}[DecidableEq κ]{enck:κ→Value}(heq: ∀a b,ju P 10000 kt (enck a) (enck b)=some (decide (a=b)))(k:κ)(w:World): ∀(l:List (MapEntry×κ))(i0:Nat),(∀p∈l,p.1.key=enck p.2)→
  (∃i p,l[i]? =some p∧p.2=k∧(Instr.findAsking kt (enck k) (l.map (·.1)) i0).run P w= .ok (some (i0+i,p.1.val)) w)∨((∀p∈l,p.2≠k)∧(Instr.findAsking kt (enck k) (l.map (·.1)) i0).run P w= .ok none w)
 |[],i0,_=> .inr ⟨by simp,by simp[Instr.findAsking]⟩
 |p::l,i0,h=>by
  have hp:=h p<|by simp
  have hr:=PR (heq k p.2) w
  rw[←hp] at hr
  by_cases hk:p.2=k
  ·refine .inl ⟨0,p,rfl,hk,?_⟩
   simp[Instr.findAsking,hr,hk]
  ·have hb:decide (k=p.2)=false:=by simpa using λe=>hk e.symm
   rcases Gs heq k w l (i0+1) (λq hq=>h q<|by simp[hq]) with⟨i,q,hq,hqk,hf⟩|⟨hn,hf⟩
   ·refine .inl ⟨i+1,q,by simpa using hq,hqk,?_⟩
    simp only[List.map_cons,Instr.findAsking,Sem.run_bind,hr,hb,Result.andThen_ok,Bool.false_eq_true,if_false]
    rw[hf];congr 3;omega
   ·refine .inr ⟨λq hq=>?_,?_⟩
    ·rcases List.mem_cons.1 hq with rfl|hq
     ·exact hk
     ·exact hn q hq
    ·simp only[List.map_cons,Instr.findAsking,Sem.run_bind,hr,hb,Result.andThen_ok,Bool.false_eq_true,if_false]
     exact hf
theorem OY(hw:(match P.underlying kt with|some (.array _ _)|some (.struct _)=>true|_=>false)=true)(x:Value)(es:List MapEntry)(w:World):(Instr.findKey kt x es).run P w=(Instr.findAsking kt x es).run P w:=by
 cases hu:P.underlying kt with
 |none=>simp[hu] at hw
 |some kd=>
  cases es with
  |nil=>simp[Instr.findKey,run_underlying hu,Instr.findNow,Instr.findAsking]
  |cons e es=>cases kd<;>simp[hu] at hw<;>simp[Instr.findKey,run_underlying hu,Instr.findNow,Instr.sameNow]
theorem Oo{κ:Type}[DecidableEq κ]{enck:κ→Value}(hw:(match P.underlying kt with|some (.array _ _)|some (.struct _)=>true|_=>false)=true)
  (heq: ∀a b,ju P 10000 kt (enck a) (enck b)=some (decide (a=b)))(hc: ∀a em,jy P (Instr.checkKey em 10000 kt<|enck a)=some ())(hs: ∀a,Instr.sameBits 10000 (enck a) (enck a)=true):jk P kt enck where
 check k em w:=tI _ _ (hc k em) w
 find k l w h:=by
  rw[OY hw]
  rcases Gs heq k w l 0 h with⟨i,p,h1,h2,h3⟩|h1
  ·exact .inl ⟨i,p,h1,h2,by simpa using h3⟩
  ·exact .inr h1
 stays k w:=by simp[Instr.keyThatStays,hs]
end Go.Proofs.YtobgjpigngoggaaGreat.V
namespace Go.Proofs.YtobgjpigngoggaaGreat.V
open Go
open Go.MapKept (run_checkKey run_findKey IsKey heap_set)
section
variable{κ β:Type}
variable{enck:κ→Value}{encv:β→Value}
theorem Ents.erase: ∀{es:List MapEntry}{kv:List (κ×β)}(i:Nat),Ents enck encv es kv→Ents enck encv (es.eraseIdx i) (kv.eraseIdx i)
 |[],[],_,_=>by simp[Ents]
 |_::_,_::_,0,h=>h.2
 |_::_,_::_,i+1,h=>⟨h.1,Ents.erase i h.2⟩
 |[],_::_,_,h=>h.elim
 |_::_,[],_,h=>h.elim
variable[DecidableEq κ]
theorem JJ: ∀{kv:List (κ×β)}{i:Nat}{k:κ}{v:β},kv[i]? =some (k,v)→(kv.map (·.1)).Nodup→aW kv k=kv.eraseIdx i
 |[],i,k,v,h,_=>by simp at h
 |p::kv,0,k,v,h,_=>by simp at h;subst h;simp[aW]
 |p::kv,i+1,k,v,h,hn=>by
  simp at h hn
  have hne: ¬p.1=k:=λe=>hn.1 v<|e▸Zd h
  simp only[aW];rw[if_neg hne,JJ h hn.2,List.eraseIdx_cons_succ]
theorem Hj: ∀{kv:List (κ×β)}{k:κ},(∀p∈kv,p.1≠k)→aW kv k=kv
 |[],_,_=>rfl
 |p::kv,k,h=>by simp only[aW];rw[if_neg<|h p<|by simp,Hj λq hq=>h q<|by simp[hq]]
variable{kv:List (κ×β)}
theorem lX(h:(kv.map (·.1)).Nodup)(k:κ):((aW kv k).map (·.1)).Nodup:=by
 have: ∀(kv:List (κ×β)),List.Sublist (aW kv k) kv:=by
  intro kv
  induction kv with
  |nil=>simp[aW]
  |cons p kv ih=>simp only[aW];split;exact List.sublist_cons_self _ _;exact ih.cons_cons _
 exact h.sublist<|(this kv).map _
theorem gP(hn:(kv.map (·.1)).Nodup)(k h:κ):aB (aW kv k) h=if k=h then none else aB kv h:=by
 induction kv with
 |nil=>simp[aW,aB]
 |cons p kv ih=>
  simp only[List.map_cons,List.nodup_cons] at hn
  simp only[aW]
  by_cases e:p.1=k
  ·rw[if_pos e];by_cases e2:k=h
   ·rw[if_pos e2];refine Ce λq hq hqe=>hn.1 ?_
    rw[e,e2,←hqe];exact List.mem_map_of_mem hq
   ·rw[if_neg e2];simp only[aB];rw[if_neg<|λe3=>e2<|e.symm.trans e3]
  ·rw[if_neg e];simp only[aB];rw[ih hn.2]
   by_cases e2:p.1=h
   ·rw[if_pos e2,if_neg<|λe3=>e<|e2.trans e3.symm,if_pos e2]
   ·rw[if_neg e2,if_neg e2]
theorem ig(k h:κ)(v:β):aB (aJ kv k v) h=if k=h then some v else aB kv h:=by
 induction kv with
 |nil=>simp only[aJ,aB]
 |cons p kv ih=>
  simp only[aJ]
  by_cases e:p.1=k
  ·rw[if_pos e];simp only[aB];subst e;by_cases e2:p.1=h<;>simp[e2]
  ·rw[if_neg e];simp only[aB];rw[ih]
   by_cases e2:p.1=h
   ·rw[if_pos e2,if_neg (by intro h3;exact e<|e2.trans h3.symm),if_pos e2]
   ·rw[if_neg e2,if_neg e2]
variable{k:κ}
theorem o0{v:β}(h:aB kv k=some v):(k,v)∈kv:=by
 induction kv with
 |nil=>simp[aB] at h
 |cons p kv ih=>
  simp only[aB] at h
  by_cases e:p.1=k
  ·rw[if_pos e] at h;cases h;subst e;simp
  ·rw[if_neg e] at h;exact List.mem_cons_of_mem _<|ih h
theorem yY(hn:(kv.map (·.1)).Nodup){v:β}(h:(k,v)∈kv):aB kv k=some v:=by
 obtain⟨i,hi⟩:=List.mem_iff_getElem?.1 h
 exact Dp hi hn
theorem CM(v:β)(h:aB kv k=none):(aJ kv k v).length=kv.length+1:=by
 induction kv with
 |nil=>rfl
 |cons p kv ih=>
  simp only[aB] at h;simp only[aJ]
  by_cases e:p.1=k
  ·rw[if_pos e] at h;cases h
  ·rw[if_neg e] at h;rw[if_neg e];simp[ih h]
theorem Gx(v:β)(h:aB kv k≠none):(aJ kv k v).length=kv.length:=by
 induction kv with
 |nil=>simp[aB] at h
 |cons p kv ih=>
  simp only[aB] at h;simp only[aJ]
  by_cases e:p.1=k
  ·rw[if_pos e];rfl
  ·rw[if_neg e] at h;rw[if_neg e];simp[ih h]
theorem yw(h:aB kv k≠none):(aW kv k).length+1=kv.length:=by
 induction kv with
 |nil=>simp[aB] at h
 |cons p kv ih=>
  simp only[aB] at h;simp only[aW]
  by_cases e:p.1=k
  ·rw[if_pos e];rfl
  ·rw[if_neg e] at h;rw[if_neg e];simp[ih h]
variable{P:Program}{ops:Zb}{n:Nat}{env:aT}{w0:World}{S:E6}{H:List aI}{o:Oper}
theorem wQ{K:Wy}(i:Nat){x y:Operand}{t t2 kt et:TypeId}{b:Nat}(H':List aI)(hok:ff ops n env o none=true)
  (ho:o.op= .call {callee:= .builtin .delete,args:=#[x,y],argTypes:=#[t,t2]})(hx:ev env x=some (.map<|some b))(hy:ev env y=some (enck k))
  (ht:P.underlying t=some (.map kt et))(hk:jk P kt enck)(hi:H[i]? =some (bH enck encv b kv))(hH:H.set i (bH enck encv b<|aW kv k)=H')(h:V.A n env w0 S H' K):V.A n env w0 S H (cz P ops o K):=by
 intro a w r s
 obtain⟨h1',h2,h3,h4⟩:=jf hok
 unfold cz
 rw[if_pos<|ic r h1']
 obtain⟨⟨es,clock,hb,hE,hborn,hnd⟩,hn⟩:=s.mem hi
 have key: ∃es':Array MapEntry,(execOp a.eval o).run P w= .ok (.value<|.tuple #[]) {w with heap:=w.heap.setIfInBounds b<|.map es' clock}∧Ents enck encv es'.toList (aW kv k)∧(∀e∈es'.toList,e.born<clock)∧(es'.toList.map (·.born)).Nodup:=by
  rcases ud hk hE hn k w with⟨j,u,hj,⟨e,he,hek⟩,_,hf⟩|⟨_,hall,hf⟩
  ·have hlt:j<es.size:=(Array.getElem?_eq_some_iff.1 he).1
   have hsub:(es.eraseIdxIfInBounds j).toList=es.toList.eraseIdx j:=by
    unfold Array.eraseIdxIfInBounds
    simp[hlt]
   have hs:List.Sublist (es.toList.eraseIdx j) es.toList:=List.eraseIdx_sublist _ _
   refine⟨es.eraseIdxIfInBounds j,?_,?_,?_,?_⟩
   ·simp[execOp,ho,resolve,invoke,builtin,r.ev hx,r.ev hy,Builtin.delete_,run_underlying ht,Go.MapKept.run_getObj_map hb,hk.check,hf,Go.MapKept.run_setObj_map _ hb]
   ·rw[JJ hj hn,hsub];exact hE.erase j
   ·rw[hsub];exact λe' he'=>hborn e'<|hs.subset he'
   ·rw[hsub];exact hnd.sublist<|hs.map _
  ·refine⟨es,?_,?_,hborn,hnd⟩
   ·simp[execOp,ho,resolve,invoke,builtin,r.ev hx,r.ev hy,Builtin.delete_,run_underlying ht,Go.MapKept.run_getObj_map hb,hk.check,hf,Go.MapKept.run_setObj_map _ hb]
   ·rw[Hj hall];exact hE
 obtain⟨es',hrun,hE',hb',hn'⟩:=key
 unfold Oper.wp
 rw[hrun]
 simp only[Oper.upon,h2]
 refine h _ _ r ?_
 rw[←hH]
 obtain⟨hs1,hs2⟩:=heap_set (o':= .map es' clock) hb
 exact s.turn (jt:=bH enck encv b<|aW kv k) hi ⟨rfl,rfl,rfl,by simp,λq _ hq=>hs2 q<|by simpa[bH] using hq⟩ ⟨⟨es',clock,hs1,hE',hb',hn'⟩,lX hn k⟩ (by simp[bH])<|by simp[bH]
end
end Go.Proofs.YtobgjpigngoggaaGreat.V
namespace Go.Proofs.YtobgjpigngoggaaGreat.V
open Go
section
variable{P:Program}{n:Nat}{env:aT}{w0:World}{S:E6}{H:List aI}{ops:Zb}{o:Oper}{α:Type}
def ij(A:Option Addr)(c m sz:Nat):Option Addr:=if c=m then A else A.map (·.add (m*sz))
variable{xs:List α}{c sz:Nat}{x y:Operand}{t e:TypeId}
theorem QK{A:k0}(m:Nat)(ho:o.op= .slice t x none (some y) none)(hx:ev env x=some (.slice A xs.length c))(hy:ev env y=some (.int .i64 (m:Int)))
  (ht:P.underlying t=some (.slice e))(hinf:(P.info? e).map (·.size)=some sz)(hm:m≤xs.length)(hc: ∀w,HS w0 S H w→xs.length≤c):Qt P n env w0 S H o (.slice A (xs.take m).length c):=
 gr λa w r s=>by
  obtain⟨i,hi,hsz⟩:=Option.map_eq_some_iff.1 hinf
  have hc:=hc w s
  have e1:(xs.take m).length=m:=by simp;omega
  have e2:m≤c:=by omega
  cases A<;>simp[execOp,ho,r.ev hx,r.ev hy,Instr.sliceAt,Instr.slice,run_underlying ht,Instr.sliceBounds,Instr.sliceBound,asIntOf,sizeOf,typeInfo,hi,hsz,e1,e2,Addr.add]
theorem DR{A:k0}(m:Nat)(ho:o.op= .slice t x (some y) none none)(hx:ev env x=some (.slice A xs.length c))(hy:ev env y=some (.int .i64 (m:Int)))
  (ht:P.underlying t=some (.slice e))(hinf:(P.info? e).map (·.size)=some sz)(hm:m≤xs.length)(hc: ∀w,HS w0 S H w→xs.length≤c):Qt P n env w0 S H o (.slice (ij A c m sz) (xs.drop m).length (c-m)):=
 gr λa w r s=>by
  obtain⟨i,hi,hsz⟩:=Option.map_eq_some_iff.1 hinf
  have hc:=hc w s
  have e1:(xs.drop m).length=xs.length-m:=by simp
  simp[execOp,ho,r.ev hx,r.ev hy,Instr.sliceAt,Instr.slice,run_underlying ht,Instr.sliceBounds,Instr.sliceBound,asIntOf,sizeOf,typeInfo,hi,hsz,e1,hm,ij]
theorem KV{A:k0}{k:Nat}{cs:Za}{w:World}(h:(sl A k c t sz cs).holds w):k≤c:=h.2.1
end
end Go.Proofs.YtobgjpigngoggaaGreat.V
namespace Go.Proofs.YtobgjpigngoggaaGreat.V
open Go Go.RowKit Go.Maps Go.Sort Go.WideElems
section
variable{β:Type}{encv:β→Value}{P:Program}{kt:TypeId}
end
end Go.Proofs.YtobgjpigngoggaaGreat.V
namespace Go.Proofs.YtobgjpigngoggaaGreat.V
open Go
structure SL where
 sa:Option Addr
 sc:Nat
 sx:List Int
 deriving Inhabited
def kH(s:SL):Value:= .slice s.sa s.sx.length s.sc
def qR(kv:List (Int×SL)):List Nat:=kv.flatMap λp=>fZ p.2.sa
def fF(t:TypeId)(enc:Int→List Value)(kv:List (Int×SL)):aI where
 foot:=qR kv
 holds w:= ∀p∈kv,(sl p.2.sa p.2.sx.length p.2.sc t 1<|aP enc p.2.sx).holds w
 loc w w' h hw p hp:=(sl p.2.sa p.2.sx.length p.2.sc t 1<|aP enc p.2.sx).loc w w' (λb hb=>h b<|List.mem_flatMap.2 ⟨p,hp,hb⟩) (hw p hp)
 here w hw b hb:=by
  obtain⟨p,hp,hb⟩:=List.mem_flatMap.1 hb
  exact(sl p.2.sa p.2.sx.length p.2.sc t 1<|aP enc p.2.sx).here w (hw p hp) b hb
def af:SL:=⟨none,0,[]⟩
theorem wZ(k:Int)(s:SL): ∀kv:hV SL,(aJ kv k s).Perm ((k,s)::aW kv k)
 |[]=> .refl _
 |p::kv=>by
  simp only[aJ,aW]
  by_cases e:p.1=k
  ·rw[if_pos e,if_pos e,e]
  ·rw[if_neg e,if_neg e];exact((wZ k s kv).cons p).trans (.swap _ _ _)
theorem yi{k:Int}{s:SL}: ∀{kv:hV SL},aB kv k=some s→kv.Perm ((k,s)::aW kv k)
 |[],h=>by simp[aB] at h
 |p::kv,h=>by
  simp only[aB] at h;simp only[aW]
  by_cases e:p.1=k
  ·rw[if_pos e] at h⊢;cases h;rw[←e]
  ·rw[if_neg e] at h⊢;exact((yi h).cons p).trans (.swap _ _ _)
theorem Cf{k:Int}: ∀{kv:hV SL},aB kv k=none→aW kv k=kv
 |[],_=>rfl
 |p::kv,h=>by
  simp only[aB] at h;simp only[aW]
  by_cases e:p.1=k
  ·rw[if_pos e] at h;cases h
  ·rw[if_neg e] at h;rw[if_neg e,Cf h]
section
variable{t:TypeId}{enc:Int→Za}
variable{w:World}
theorem xJ{kv:hV SL}(h:(fF t enc kv).holds w)(k:Int):(sl ((aB kv k).getD af).sa ((aB kv k).getD af).sx.length ((aB kv k).getD af).sc t 1 (aP enc ((aB kv k).getD af).sx)).holds w:=by
 cases e:aB kv k with
 |none=>exact AM _ _ _
 |some s=>exact h (k,s)<|o0 e
theorem nY(kv:hV SL)(k:Int)(hs:HS w (aN [fF t enc kv]) [fF t enc kv] w):
  ∃_x:Unit,True∧(∀it∈[fF t enc<|aW kv k,sl ((aB kv k).getD af).sa ((aB kv k).getD af).sx.length ((aB kv k).getD af).sc t 1 (aP enc ((aB kv k).getD af).sx)],it.holds w)∧
   (aN [fF t enc<|aW kv k,sl ((aB kv k).getD af).sa ((aB kv k).getD af).sx.length ((aB kv k).getD af).sc t 1 (aP enc ((aB kv k).getD af).sx)]).Nodup∧
   ∀b∈aN [fF t enc<|aW kv k,sl ((aB kv k).getD af).sa ((aB kv k).getD af).sx.length ((aB kv k).getD af).sc t 1 (aP enc ((aB kv k).getD af).sx)],b∈aN [fF t enc kv]:=by
 have hb:(fF t enc kv).holds w:=hs.all _<|by simp
 have hn:=hs.nodup
 have hsub: ∀p∈aW kv k,p∈kv:=by
  intro p hp;cases e:aB kv k with
  |none=>rw[Cf e] at hp;exact hp
  |some s=>exact(yi e).mem_iff.2 (by simp[hp])
 have hp:(qR (aW kv k)++fZ ((aB kv k).getD af).sa).Perm (qR kv):=by
  cases e:aB kv k with
  |none=>rw[Cf e];simp[af,fZ]
  |some s=>
   have:=(yi e).flatMap_right (λp:Int×SL=>fZ p.2.sa)
   simp only[List.flatMap_cons] at this
   exact List.perm_append_comm.trans this.symm
 refine⟨(),trivial,?_,?_,?_⟩
 ·intro it hi
  simp only[List.mem_cons,List.not_mem_nil,or_false] at hi
  rcases hi with rfl|rfl
  ·exact λp hp=>hb p<|hsub p hp
  ·exact xJ hb k
 ·simp only[aN,fF,sl,List.flatMap_cons,List.flatMap_nil,List.append_nil] at hn⊢
  exact hp.nodup_iff.2 hn
 ·intro b hb2
  simp only[aN,fF,sl,List.flatMap_cons,List.flatMap_nil,List.append_nil] at hb2⊢
  exact hp.mem_iff.1 hb2
theorem nZ(kv:hV SL)(k:Int)(A:k0)(c:Nat)(xs:Wx)(hs:HS w (aN [fF t enc<|aW kv k,sl A xs.length c t 1<|aP enc xs]) [fF t enc<|aW kv k,sl A xs.length c t 1<|aP enc xs] w):
  ∃_x:Unit,True∧(∀it∈[fF t enc<|aJ kv k ⟨A,c,xs⟩],it.holds w)∧(aN [fF t enc<|aJ kv k ⟨A,c,xs⟩]).Nodup∧ ∀b∈aN [fF t enc<|aJ kv k ⟨A,c,xs⟩],b∈aN [fF t enc<|aW kv k,sl A xs.length c t 1<|aP enc xs]:=by
 have hb:(fF t enc<|aW kv k).holds w:=hs.all _<|by simp
 have hq:(sl A xs.length c t 1<|aP enc xs).holds w:=hs.all _<|by simp
 have hn:=hs.nodup
 have hp:(qR<|aJ kv k ⟨A,c,xs⟩).Perm (qR (aW kv k)++fZ A):=by
  have:=(wZ k ⟨A,c,xs⟩ kv).flatMap_right (λp:Int×SL=>fZ p.2.sa)
  simp only[List.flatMap_cons] at this
  exact this.trans List.perm_append_comm
 refine⟨(),trivial,?_,?_,?_⟩
 ·intro it hi
  simp only[List.mem_singleton] at hi;subst hi
  intro p hp
  rcases List.mem_cons.1 ((wZ k _ kv).mem_iff.1 hp) with rfl|h
  ·exact hq
  ·exact hb p h
 ·simp only[aN,fF,sl,List.flatMap_cons,List.flatMap_nil,List.append_nil] at hn⊢
  exact hp.nodup_iff.2 hn
 ·intro b hb2
  simp only[aN,fF,sl,List.flatMap_cons,List.flatMap_nil,List.append_nil] at hb2⊢
  exact hp.mem_iff.1 hb2
theorem UD{A:k0}{c:Nat}{x:Int}{xs:Wx}(he: ∀x,(enc x).length=1)(h:(sl A (x::xs).length c t 1 (aP enc<|x::xs)).holds w):(sl (ij A c 1 1) xs.length (c-1) t 1<|aP enc xs).holds w:=by
 obtain⟨h1,h2,h3,h4⟩:=h
 simp only[List.length_cons] at h1 h2
 have hl:(aP enc xs).length=xs.length:=by rw[tR he];simp
 have hf:aP enc (x::xs)=enc x++aP enc xs:=by simp[aP]
 rcases h4 with⟨rfl,rfl⟩|⟨g,off,cO,rfl,hg,hsz,hcs⟩
 ·omega
 ·refine⟨by omega,by omega,by omega,.inr ?_⟩
  unfold ij
  by_cases hc:c=1
  ·rw[if_pos hc]
   have:xs=[]:=List.eq_nil_of_length_eq_zero<|by omega
   subst this
   exact⟨g,off,cO,rfl,hg,by omega,by simp[aP]⟩
  ·rw[if_neg hc]
   refine⟨g,off+1,cO,rfl,hg,by omega,?_⟩
   have e1:=congrArg (List.drop 1) hcs
   rw[hf] at e1
   have e2:(enc x++aP enc xs).drop 1=aP enc xs:=by rw[List.drop_append_of_le_length (by rw[he];exact Nat.le_refl _),List.drop_eq_nil_of_le (by rw[he];exact Nat.le_refl _)];rfl
   rw[e2,List.drop_take,List.drop_drop] at e1
   simp only[List.length_cons] at e1
   rw[←e1];congr 1
theorem Oe(A:k0)(c m sz:Nat):fZ (ij A c m sz)=fZ A:=by
 unfold ij;split
 ·rfl
 ·cases A with
  |none=>rfl
  |some a=>simp[fZ,Addr.add];split<;>rfl
theorem JK(he: ∀x,(enc x).length=1)(kv:hV SL)(k:Int)(h1:1≤((aB kv k).getD af).sx.length)(hs:HS w (aN [fF t enc kv]) [fF t enc kv] w):
  ∃_x:Unit,True∧(∀it∈[fF t enc<|aJ kv k ⟨ij ((aB kv k).getD af).sa ((aB kv k).getD af).sc 1 1,((aB kv k).getD af).sc-1,((aB kv k).getD af).sx.drop 1⟩],it.holds w)∧
   (aN [fF t enc<|aJ kv k ⟨ij ((aB kv k).getD af).sa ((aB kv k).getD af).sc 1 1,((aB kv k).getD af).sc-1,((aB kv k).getD af).sx.drop 1⟩]).Nodup∧
   ∀b∈aN [fF t enc<|aJ kv k ⟨ij ((aB kv k).getD af).sa ((aB kv k).getD af).sc 1 1,((aB kv k).getD af).sc-1,((aB kv k).getD af).sx.drop 1⟩],b∈aN [fF t enc kv]:=by
 have hb:(fF t enc kv).holds w:=hs.all _<|by simp
 have hn:=hs.nodup
 cases e:aB kv k with
 |none=>rw[e] at h1;simp[af] at h1
 |some s=>
  rw[e] at h1
  simp only[Option.getD_some] at h1⊢
  have hpm:=yi e
  have hp:(qR<|aJ kv k ⟨ij s.sa s.sc 1 1,s.sc-1,s.sx.drop 1⟩).Perm (qR kv):=by
   have a1:=(wZ k ⟨ij s.sa s.sc 1 1,s.sc-1,s.sx.drop 1⟩ kv).flatMap_right (λp:Int×SL=>fZ p.2.sa)
   have a2:=hpm.flatMap_right (λp:Int×SL=>fZ p.2.sa)
   simp only[List.flatMap_cons,Oe] at a1 a2
   exact a1.trans a2.symm
  refine⟨(),trivial,?_,?_,?_⟩
  ·intro it hi
   simp only[List.mem_singleton] at hi;subst hi
   intro p hp
   rcases List.mem_cons.1 ((wZ k _ kv).mem_iff.1 hp) with rfl|h
   ·have h2:=hb (k,s)<|o0 e
    cases hx:s.sx with
    |nil=>rw[hx] at h1;simp at h1
    |cons x xs=>simp only[hx] at h2;exact UD he h2
   ·exact hb p<|hpm.mem_iff.2<|by simp[h]
  ·simp only[aN,fF,List.flatMap_cons,List.flatMap_nil,List.append_nil] at hn⊢
   exact hp.nodup_iff.2 hn
  ·intro b hb2
   simp only[aN,fF,List.flatMap_cons,List.flatMap_nil,List.append_nil] at hb2⊢
   exact hp.mem_iff.1 hb2
end
section
variable{w0:World}{S:E6}{H:List aI}{t:TypeId}{enc:Int→Za}{kv:hV SL}
theorem pZ(i:Nat)(hi:H[i]? =some (fF t enc kv))(k:Int):Rd w0 S H ((aB kv k).getD af).sa (aP enc ((aB kv k).getD af).sx):=λw hs=>tq<|xJ (hs.mem hi) k
theorem IZ(i:Nat)(hi:H[i]? =some (fF t enc kv))(k:Int): ∀w,HS w0 S H w→((aB kv k).getD af).sx.length≤((aB kv k).getD af).sc:=λw hs=>(xJ (hs.mem hi) k).2.1
theorem OK{n:Nat}{env:aT}{G:Wy}(t:TypeId)(enc:Int→Za)(H':List aI)(hH:H++[fF t enc []]=H')(h:V.A n env w0 S H' G):V.A n env w0 S H G:=λa w r s=>
 h a w r (by rw[←hH];exact s.add (Fr.refl _ _) (by intro p hp;cases hp) (by simp[fF,qR])<|by simp[fF,qR])
end
section
variable{P:Program}{n:Nat}{env:aT}{w0:World}{S:E6}{H:List aI}{ops:Zb}{o:Oper}{K:Wy}{f:Nat}{L:E6}{listed:Array Bool}
theorem OF(i i2 j:Nat){o2 o':Oper}(hi:ops[i]? =some o)(hi2:ops[i2]? =some o2)(hj:ops[j]? =some o')(hr:(Region.ready .any ops listed,Nat.beq i j||Nat.beq i2 j)=([i,i2,j],false))
  (h1:A n env w0 S H (cz P ops o<|λa w=>HS w0 S H w∧U2 P ops K f (j::L) (HS w0 S H) (listed.setIfInBounds i true) a w))
  (h1b:A n env w0 S H (cz P ops o2<|λa w=>HS w0 S H w∧U2 P ops K f (j::L) (HS w0 S H) (listed.setIfInBounds i2 true) a w))
  (h2:A n env w0 S H (cz P ops o'<|λa w=> ∃S':World→Prop,(∀w w',S' w→Fr [] w w'→S' w')∧S' w∧U2 P ops K f L S' (listed.setIfInBounds j true) a w)):A n env w0 S H (U2 P ops K (f+1) (j::L) (HS w0 S H) listed):=by
 intro a w r s
 simp only[Prod.mk.injEq,Bool.or_eq_false_iff] at hr
 refine⟨λh0=>(by rw[hr.1] at h0;cases h0),λm hm w' hf=>?_⟩
 have hij:=Nat.ne_of_beq_eq_false hr.2.1
 have hij2:=Nat.ne_of_beq_eq_false hr.2.2
 rw[hr.1] at hm
 simp only[List.mem_cons,List.not_mem_nil,or_false] at hm
 rcases hm with rfl|rfl|rfl
 ·have h:=h1 a w' r<|s.kept hf
  unfold cz at h
  unfold wpOp
  simp only[hi]
  split
  ·rename_i hw;rw[if_pos hw] at h;exact .inl<|Oper.wp_imp h λ_ _ h=> .inr ⟨by simpa using λe=>hij e.symm,h⟩
  ·rename_i hw;rw[if_neg hw] at h;exact .inr ⟨by simpa using λe=>hij e.symm,h⟩
 ·have h:=h1b a w' r<|s.kept hf
  unfold cz at h
  unfold wpOp
  simp only[hi2]
  split
  ·rename_i hw;rw[if_pos hw] at h;exact .inl<|Oper.wp_imp h λ_ _ h=> .inr ⟨by simpa using λe=>hij2 e.symm,h⟩
  ·rename_i hw;rw[if_neg hw] at h;exact .inr ⟨by simpa using λe=>hij2 e.symm,h⟩
 ·have h:=h2 a w' r<|s.kept hf
  unfold cz at h
  unfold wpOp
  simp only[hj]
  split
  ·rename_i hw;rw[if_pos hw] at h;exact .inl<|Oper.wp_imp h λ_ _ h=> .inl ⟨rfl,h⟩
  ·rename_i hw;rw[if_neg hw] at h;exact .inl ⟨rfl,h⟩
end
def lN(es:Array MapEntry)(i:Nat):Nat:=((es[i]?).map (·.born)).getD 0
def gZ(r b:Nat)(es:Array MapEntry)(clock:Nat)(seen:List Nat):aI where
 foot:=[r]
 holds w:=w.heap[r]? =some (.mapIter (some b) clock (seen.map<|lN es).toArray clock)
 loc w w' h hw:=by rw[h r<|by simp];exact hw
 here w hw c hc:=by simp at hc;subst hc;exact(Array.getElem?_eq_some_iff.1 hw).1
section
variable{P:Program}{n:Nat}{env:aT}{w0:World}{S:E6}{H:List aI}{ops:Zb}{o:Oper}{K:Wy}{κ β:Type}
variable{x:Operand}{b clock:Nat}{es:Array MapEntry}
theorem Bw(d:Nat){t kt et:TypeId}(hok:ff ops n env o (some d)=true)(ho:o.op= .range t x)(hx:ev env x=some (.map<|some b))
  (ht:P.underlying t=some (.map kt et))(hb: ∀w,HS w0 S H w→w.heap[b]? =some (.map es clock))(H':Nat→List aI)(hH: ∀r,H++[gZ r b es clock []]=H' r)
  (h: ∀r,V.A n ((d,.pointer<|some ⟨r,0,none⟩)::env) w0 S (H' r) K):V.A n env w0 S H (cz P ops o K):=by
 intro a w r s
 obtain⟨h1',h2,h3,h4⟩:=jf hok
 unfold cz
 rw[if_pos<|ic r h1']
 have hbw:=hb w s
 have hrun:(execOp a.eval o).run P w= .ok (.value<|.pointer<|some ⟨w.heap.size,0,none⟩) (w.alloc<|.mapIter (some b) clock #[] clock):=by
  simp[execOp,ho,r.ev hx,Instr.range,run_underlying ht,Go.MapKept.run_getObj_map hbw,newObj,Sem.run,World.alloc_eq]
 unfold Oper.wp
 rw[hrun]
 simp only[Oper.upon,h2]
 refine h w.heap.size _ _ (r.put<|h3 d rfl) ?_
 rw[←hH]
 exact s.add (it:=gZ w.heap.size b es clock []) (Fr.alloc _ _ _) (by have:=heap_alloc_new w<|.mapIter (some b) clock #[] clock;simpa[gZ] using this) (by simp[gZ])<|by simp[gZ]
variable{enck:κ→Value}{encv:β→Value}
theorem Dq: ∀{es:List MapEntry}{kv:List (κ×β)}{j:Nat}{e:MapEntry},Ents enck encv es kv→es[j]? =some e→ ∃p,kv[j]? =some p∧e.key=enck p.1∧e.val=encv p.2
 |[],_,j,e,_,h=>by simp at h
 |e'::es,p::kv,0,e,hE,h=>by simp at h;subst h;exact⟨p,rfl,hE.1⟩
 |e'::es,p::kv,j+1,e,hE,h=>by simp at h;obtain⟨q,hq,hh⟩:=Dq hE.2 h;exact⟨q,by simpa using hq,hh⟩
 |_::_,[],_,_,hE,_=>hE.elim
theorem QL(hnd:(es.toList.map (·.born)).Nodup){i j:Nat}(hi:i<es.size)(hj:j<es.size)(h:lN es i=lN es j):i=j:=by
 unfold lN at h
 rw[Array.getElem?_eq_getElem hi,Array.getElem?_eq_getElem hj] at h
 simp only[Option.map_some,Option.getD_some] at h
 have hl:i<(es.toList.map (·.born)).length:=by simpa using hi
 have hl2:j<(es.toList.map (·.born)).length:=by simpa using hj
 rcases Nat.lt_trichotomy i j with g|g|g
 ·exact absurd (by simpa using h)<|List.pairwise_iff_getElem.1 hnd i j hl hl2 g
 ·exact g
 ·exact absurd (by simpa using h.symm)<|List.pairwise_iff_getElem.1 hnd j i hl2 hl g
variable{seen:E6}{kv:List (κ×β)}
theorem By(i d:Nat){r:Nat}(hok:ff ops n env o (some d)=true)(ho:o.op= .next x false)
  (hx:ev env x=some (.pointer<|some ⟨r,0,none⟩))(hi:H[i]? =some (gZ r b es clock seen))(hb: ∀w,HS w0 S H w→w.heap[b]? =some (.map es clock))(hE:Ents enck encv es.toList kv)(hborn: ∀e∈es.toList,e.born<clock)(hnd:(es.toList.map (·.born)).Nodup)
  (hs: ∀j∈seen,j<kv.length)(H':Nat→List aI)(hH: ∀j,H.set i (gZ r b es clock<|seen++[j])=H' j)
  (h1:(∀j,j<kv.length→j∈seen)→V.A n ((d,.tuple #[.bool false])::env) w0 S H K)
  (h2: ∀j k v,kv[j]? =some (k,v)→j∉seen→V.A n ((d,.tuple #[.bool true,enck k,encv v])::env) w0 S (H' j) K):V.A n env w0 S H (cz P ops o K):=by
 intro a w ra s
 obtain⟨h1',h2',h3,h4⟩:=jf hok
 unfold cz
 rw[if_pos<|ic ra h1']
 have hbw:=hb w s
 have hr:w.heap[r]? =some (.mapIter (some b) clock (seen.map<|lN es).toArray clock):=s.mem hi
 have hlen:es.toList.length=kv.length:=hE.len
 have hex:(execOp a.eval o)=(Instr.next (.pointer<|some ⟨r,0,none⟩) false o.type).bind λv=>pure (Next.value v):=by
  simp[execOp,ho,ra.ev hx];rfl
 unfold Oper.wp
 rcases run_next_at (P:=P) w o.type r b clock clock (seen.map<|lN es).toArray es clock hr hbw hborn (Nat.le_refl _) with⟨h0,hrun⟩|⟨e,he,w1,hw1,hrun⟩
 ·have hrun':(execOp a.eval o).run P w= .ok (.value<|.tuple #[.bool false]) w:=by
   rw[hex];show((Instr.next _ false o.type)>>=λv=>pure<|Next.value v).run P w=_
   rw[Sem.run_bind,hrun];rfl
  rw[hrun']
  simp only[Oper.upon,h2']
  refine h1 (λj hj=>?_) _ w (ra.put<|h3 d rfl) s
  have hje:j<es.size:=by simp at hlen;omega
  have hz:leftOf es (seen.map<|lN es).toArray=#[]:=Array.eq_empty_of_size_eq_zero h0
  unfold leftOf at hz
  rw[Array.filter_eq_empty_iff] at hz
  have:=hz es[j] (by simp)
  simp at this
  obtain⟨q,hq,e2⟩:=this
  have hqe:q<es.size:=by have:=hs q hq;simp at hlen;omega
  have:q=j:=QL hnd hqe hje (by rw[e2];unfold lN;rw[Array.getElem?_eq_getElem hje];rfl)
  rw[←this];exact hq
 ·have hrun':(execOp a.eval o).run P w= .ok (.value<|.tuple #[.bool true,e.key,e.val]) (Go.ChangeMaps.setBlock w1 r<|.mapIter (some b) clock ((seen.map<|lN es).toArray.push e.born) clock):=by
   rw[hex];show((Instr.next _ false o.type)>>=λv=>pure<|Next.value v).run P w=_
   rw[Sem.run_bind,hrun];rfl
  rw[hrun']
  simp only[Oper.upon,h2']
  unfold leftOf at he
  simp at he
  obtain⟨he1,he2⟩:=he
  obtain⟨j,hj,hje⟩:=Array.mem_iff_getElem.1 he1
  have hjl:es.toList[j]? =some e:=by simp[hj,hje]
  obtain⟨p,hp,hk,hv⟩:=Dq hE hjl
  have hbj:lN es j=e.born:=by unfold lN;rw[Array.getElem?_eq_getElem hj,hje];rfl
  have hns:j∉seen:=λhin=>he2 j hin hbj
  rw[hk,hv]
  refine h2 j p.1 p.2 hp hns _ _ (ra.put<|h3 d rfl) ?_
  rw[←hH]
  have hlt:r<w.heap.size:=(Array.getElem?_eq_some_iff.1 hr).1
  have hh:w1.heap=w.heap∧w1.os=w.os∧w1.tape=w.tape∧w1.output=w.output:=by rcases hw1 with rfl|rfl<;>exact⟨rfl,rfl,rfl,rfl⟩
  refine s.turn (jt:=gZ r b es clock<|seen++[j]) hi ⟨?_,?_,?_,?_,?_⟩ ?_ (by simp[gZ])<|by simp[gZ]
  ·exact hh.2.1
  ·exact hh.2.2.1
  ·exact hh.2.2.2
  ·simp[Go.ChangeMaps.setBlock,hh.1]
  ·intro q _ hq
   have:r≠q:=λe=>hq (by rw[←e];simp[gZ])
   simp[Go.ChangeMaps.setBlock,hh.1,Array.getElem?_setIfInBounds,this]
  ·show(Go.ChangeMaps.setBlock w1 r _).heap[r]? =some _
   simp only[Go.ChangeMaps.setBlock,hh.1]
   rw[Array.getElem?_setIfInBounds,if_pos rfl,if_pos hlt]
   congr 2
   rw[←hbj];simp
theorem yx{r:Nat}{k:κ}{v:β}(i j:Nat)(ho:o.op= .entry x)(hx:ev env x=some (.pointer<|some ⟨r,0,none⟩))
  (hi:H[i]? =some (gZ r b es clock<|seen++[j]))(hb: ∀w,HS w0 S H w→w.heap[b]? =some (.map es clock))(hE:Ents enck encv es.toList kv)(hnd:(es.toList.map (·.born)).Nodup)(hj:kv[j]? =some (k,v)):Qt P n env w0 S H o (.tuple #[enck k,encv v]):=
 gr λa w ra s=>by
  have hbw:=hb w s
  have hr:w.heap[r]? =some (.mapIter (some b) clock ((seen++[j]).map (lN es)).toArray clock):=s.mem hi
  have hlen:es.toList.length=kv.length:=hE.len
  have hjl:j<es.size:=by have:=(Zf.1 hj).1;simp at hlen;omega
  obtain⟨p,hp,hk,hv⟩:=Dq (j:=j) (e:=es[j]) hE<|by simp[hjl]
  rw[hj] at hp;cases hp
  have e1:((seen++[j]).map (lN es)).toArray=(seen.map<|lN es).toArray.push (es[j]).born:=by
   simp;unfold lN;rw[Array.getElem?_eq_getElem hjl];rfl
  rw[e1] at hr
  have:=run_entry_at (P:=P) w r b clock (seen.map<|lN es).toArray es clock es[j] hr hbw (by simp) hnd
  simp[execOp,ho,ra.ev hx,this,hk,hv]
theorem na{x:Obj}{w:World}(s:HS w0 S H w)(h:w0.heap[b]? =some x)(hn:b∉S):w.heap[b]? =some x:=by
 rw[s.fr.block b (Array.getElem?_eq_some_iff.1 h).1 hn];exact h
end
end Go.Proofs.YtobgjpigngoggaaGreat.V
namespace Go.Proofs.YtobgjpigngoggaaGreat.V
open Go Go.Sort
variable{enc:Int→Za}{t:TypeId}
theorem yj(he: ∀x,enc x=[Value.int .i64 x]): ∀l:Wx,aP enc l=l.map (Value.int .i64)
 |[]=>rfl
 |y::l=>by have:=yj he l;simp only[aP,List.flatMap_cons,he,List.map_cons] at this⊢;rw[this];rfl
variable{l:Wx}
theorem QM{g off c:Nat}{w:World}(he: ∀x,enc x=[Value.int .i64 x])(h:(sl (some ⟨g,off,none⟩) l.length c t 1<|aP enc l).holds w):Holds (Value.int .i64) w g off l.toArray∧g<w.heap.size:=by
 obtain⟨h1,h2,h3,⟨h4,_⟩|⟨g',off',cO,e,hg,hsz,hcs⟩⟩:=h
 ·cases h4
 cases e
 refine⟨λj hj=>?_,(Array.getElem?_eq_some_iff.1 hg).1⟩
 have hj':j<l.length:=by simpa using hj
 refine⟨?_,by simp[World.frozen?,hg]⟩
 have e1:((cO.toList.drop off).take (l.length*1))[j]? =(l.map<|Value.int .i64)[j]? :=by rw[hcs,yj he]
 rw[Nat.mul_one,List.getElem?_take_of_lt hj',List.getElem?_drop] at e1
 simp only[World.cell?,hg,Option.isSome_none,Bool.false_eq_true,if_false]
 rw[←Array.getElem?_toList,e1]
 simp[hj']
theorem PS{g off c k:Nat}{ts:Wx}{os:Array Obj}{w:World}(he: ∀x,enc x=[Value.int .i64 x])(hl:ts.length=l.length)(h:(sl (some ⟨g,off,none⟩) l.length c t 1<|aP enc l).holds w):
  Turn [sl (some ⟨g,off,none⟩) l.length c t 1<|aP enc l] [sl (some ⟨g,off,none⟩) ts.length c t 1<|aP enc ts] w (grow (putRow (Value.int .i64) (Sort.ahead w k) g off ts.toArray) os):=by
 obtain⟨h1,h2,h3,⟨h4,_⟩|⟨g',off',cO,e,hg,hsz,hcs⟩⟩:=h
 ·cases h4
 cases e
 have hgs:g<w.heap.size:=(Array.getElem?_eq_some_iff.1 hg).1
 have hgn:(grow (putRow (Value.int .i64) (Sort.ahead w k) g off ts.toArray) os).heap[g]? =some (.cells (putCells (Value.int .i64) off ts.toArray cO) t (0,0)):=by
  rw[heap_grow_old _ _<|by simpa[putRow,mapBlock,Sort.ahead] using hgs]
  simp[putRow,mapBlock,Sort.ahead,Array.getElem?_modify,hg,onCells]
 refine⟨⟨rfl,rfl,rfl,by simp[grow,putRow,mapBlock,Sort.ahead],λq hq hS=>?_⟩,?_,by simp[aN,sl,fZ],by simp[aN,sl,fZ]⟩
 ·have hqg:g≠q:=λe=>hS (by rw[←e];simp[aN,sl,fZ])
  rw[heap_grow_old _ _<|by simpa[putRow,mapBlock,Sort.ahead] using hq]
  simp[putRow,mapBlock,Sort.ahead,Array.getElem?_modify,hqg]
 ·intro it hi;simp only[List.mem_singleton] at hi;subst hi
  refine⟨by rw[yj he];simp,by omega,h3,.inr ⟨g,off,_,rfl,hgn,by simpa[putCells] using hsz,?_⟩⟩
  rw[yj he,Nat.mul_one]
  apply List.ext_getElem?
  intro j
  by_cases hj:j<ts.length
  ·rw[List.getElem?_take_of_lt hj,List.getElem?_drop,Array.getElem?_toList]
   have:off+j<cO.size:=by omega
   simp[putCells,this,hj]
  ·rw[List.getElem?_eq_none (by simp;omega),List.getElem?_eq_none (by simp;omega)]
end Go.Proofs.YtobgjpigngoggaaGreat.V
namespace Go.Proofs.YtobgjpigngoggaaGreat.V
open Go
section
variable{P:Program}{n:Nat}{env:aT}{w0:World}{S:E6}{H:List aI}{ops:Zb}{o:Oper}{K:Wy}{f:Nat}{L:E6}{listed:Array Bool}
end
theorem QN{L vs:Za}{m p sz:Nat}(hp:p+sz≤m)(hL:m≤L.length)(hv:vs.length=sz):(L.take p++vs++L.drop (p+sz)).take m=(L.take m).take p++vs++(L.take m).drop (p+sz):=by
 have hA:(L.take p++vs).length=p+sz:=by simp;omega
 rw[List.take_append,List.take_of_length_le<|by omega,hA,List.take_take,Nat.min_eq_left<|by omega,List.drop_take]
section
variable{P:Program}{n:Nat}{env:aT}{w0:World}{S:E6}{H:List aI}{ops:Zb}{o:Oper}{K:Wy}
theorem Yn{α:Type}(i k:Nat){t ty:TypeId}{x y:Operand}{A:k0}{c sz:Nat}{u:Value}{enc:α→Za}{xs:List α}(v:α)(H':List aI)(hok:ff ops n env o none=true)(ho:o.op= .store t x y)
  (hx:ev env x=some (.pointer<|some<|(au A).add (k*sz)))(hy:ev env y=some u)(hu:u.cells=(enc v).toArray)(hsz:(P.info? t).map (·.size)=some sz)(h1:(enc v).all Value.oneCell'=true)(he: ∀x,(enc x).length=sz)
  (hz:0<sz)(hi:H[i]? =some (sl A xs.length c ty sz<|aP enc xs))(hk:k<xs.length)(hH:H.set i (sl A (xs.set k v).length c ty sz (aP enc<|xs.set k v))=H')(h:V.A n env w0 S H' K):V.A n env w0 S H (cz P ops o K):=by
 intro a w r s
 obtain⟨h1',h2,h3,h4⟩:=jf hok
 unfold cz
 rw[if_pos<|ic r h1']
 have hs:zU A xs.length c ty sz (aP enc xs) w:=s.mem hi
 obtain⟨q1,q2,q3,⟨rfl,q4⟩|⟨g,off,cO,rfl,hg,hle,htake⟩⟩:=hs
 ·omega
 have hmul:(k+1)*sz≤xs.length*sz:=Nat.mul_le_mul_right sz hk
 have hmul2:xs.length*sz≤c*sz:=Nat.mul_le_mul_right sz q2
 rw[Nat.add_mul,Nat.one_mul] at hmul
 have ha:(au<|some (⟨g,off,none⟩:Addr)).add (k*sz)=⟨g,off+k*sz,none⟩:=by simp only[au,Option.getD_some];exact oZ ..
 rw[ha] at hx
 have hh:w.heap[g]? =some (.cells cO.toList.toArray ty (0,0)):=by rw[hg]
 have hve:(enc v).length=sz:=he v
 have hst:=run_storeCells_at P g (off+k*sz) ty (enc v) 0 cO.toList.toArray w hh (by simp;omega)<|λv hv=>List.all_eq_true.1 h1 v hv
 simp only[Nat.add_zero] at hst
 have hlen:u.cells.size=(enc v).length:=by rw[hu];simp
 simp only[Option.map_eq_some_iff] at hsz
 obtain⟨inf,hinf,hsz⟩:=hsz
 have hrun:(execOp a.eval o).run P w= .ok .skip (w.setRow g (cO.toList.take (off+k*sz)++enc v++cO.toList.drop (off+k*sz+(enc v).length)).toArray):=by
  simp only[execOp,ho,Instr.storeAt,r.ev hx,r.ev hy,Instr.sureAddr,storeVar,sizeOf,typeInfo,Sem.run_bind,run_program,Sem.run_pure,Result.andThen_ok,hinf,hsz,hlen,hve]
  simp[hu] at hst⊢
  rw[hst];simp[hve]
 unfold Oper.wp
 rw[hrun]
 simp only[Oper.upon,h2]
 refine h _ _ r ?_
 rw[←hH]
 refine s.turn hi (wV _ _ _) ?_ (by simp[sl,fZ])<|λb hb=> .inl hb
 refine⟨by rw[tR he],by rw[List.length_set];exact q2,q3,.inr ⟨g,off,_,rfl,wW w g _ _ ty hh,by simp;omega,?_⟩⟩
 have hL:xs.length*sz≤(cO.toList.drop off).length:=by simp;omega
 have e1:(cO.toList.take (off+k*sz)++enc v++cO.toList.drop (off+k*sz+(enc v).length)).drop off=(cO.toList.drop off).take (k*sz)++enc v++(cO.toList.drop off).drop (k*sz+sz):=by
  rw[List.append_assoc,List.drop_append,List.drop_take,List.length_take,Nat.min_eq_left (by simp;omega),show off-(off+k*sz)=0 by omega,List.drop_zero,show off+k*sz-off=k*sz by omega,List.drop_drop,hve,←List.append_assoc,show off+(k*sz+sz)=off+k*sz+sz by omega]
 show((List.toArray _).toList.drop off).take ((xs.set k v).length*sz)=_
 rw[List.length_set]
 simp only[List.toList_toArray]
 rw[e1,QN hmul hL hve,htake,←he v,←IU (λx=>he x) xs k v hk,he v]
end
section
variable{P:Program}{n:Nat}{env:aT}{w0:World}{S:E6}{H:List aI}{o:Oper}
end
end Go.Proofs.YtobgjpigngoggaaGreat.V
namespace Go.Proofs.YtobgjpigngoggaaGreat.V
open Go Go.Sort
variable{enc:Int→Za}{t:TypeId}{k:IntKind}
theorem yk(he: ∀x,enc x=[Value.int k x]): ∀l:Wx,aP enc l=l.map (Value.int k)
 |[]=>rfl
 |y::l=>by have:=yk he l;simp only[aP,List.flatMap_cons,he,List.map_cons] at this⊢;rw[this];rfl
variable{l:Wx}
theorem PT{g off c:Nat}{w:World}(he: ∀x,enc x=[Value.int k x])(h:(sl (some ⟨g,off,none⟩) l.length c t 1<|aP enc l).holds w):Holds (Value.int k) w g off l.toArray∧g<w.heap.size:=by
 obtain⟨h1,h2,h3,⟨h4,_⟩|⟨g',off',cO,e,hg,hsz,hcs⟩⟩:=h
 ·cases h4
 cases e
 refine⟨λj hj=>?_,(Array.getElem?_eq_some_iff.1 hg).1⟩
 have hj':j<l.length:=by simpa using hj
 refine⟨?_,by simp[World.frozen?,hg]⟩
 have e1:((cO.toList.drop off).take (l.length*1))[j]? =(l.map<|Value.int k)[j]? :=by rw[hcs,yk he]
 rw[Nat.mul_one,List.getElem?_take_of_lt hj',List.getElem?_drop] at e1
 simp only[World.cell?,hg,Option.isSome_none,Bool.false_eq_true,if_false]
 rw[←Array.getElem?_toList,e1]
 simp[hj']
theorem UE{g off c q:Nat}{ts rest:Wx}{w:World}(he: ∀x,enc x=[Value.int k x])(hl:ts.length+rest.length=l.length)(h:(sl (some ⟨g,off,none⟩) l.length c t 1<|aP enc l).holds w):
  Turn [sl (some ⟨g,off,none⟩) l.length c t 1<|aP enc l] [sl (some ⟨g,off,none⟩) ts.length c t 1<|aP enc ts] w (putRow (Value.int k) (Sort.ahead w q) g off (ts++rest).toArray):=by
 obtain⟨h1,h2,h3,⟨h4,_⟩|⟨g',off',cO,e,hg,hsz,hcs⟩⟩:=h
 ·cases h4
 cases e
 have hgs:g<w.heap.size:=(Array.getElem?_eq_some_iff.1 hg).1
 have hgn:(putRow (Value.int k) (Sort.ahead w q) g off (ts++rest).toArray).heap[g]? =some (.cells (putCells (Value.int k) off (ts++rest).toArray cO) t (0,0)):=by
  simp[putRow,mapBlock,Sort.ahead,Array.getElem?_modify,hg,onCells]
 refine⟨⟨rfl,rfl,rfl,by simp[putRow,mapBlock,Sort.ahead],λp hp hS=>?_⟩,?_,by simp[aN,sl,fZ],by simp[aN,sl,fZ]⟩
 ·have hqg:g≠p:=λe=>hS (by rw[←e];simp[aN,sl,fZ])
  simp[putRow,mapBlock,Sort.ahead,Array.getElem?_modify,hqg]
 ·intro it hi;simp only[List.mem_singleton] at hi;subst hi
  refine⟨by rw[yk he];simp,by omega,h3,.inr ⟨g,off,_,rfl,hgn,by simpa[putCells] using hsz,?_⟩⟩
  rw[yk he,Nat.mul_one]
  apply List.ext_getElem?
  intro j
  by_cases hj:j<ts.length
  ·rw[List.getElem?_take_of_lt hj,List.getElem?_drop,Array.getElem?_toList]
   have:off+j<cO.size:=by omega
   have hj2:j<ts.length+rest.length:=by omega
   simp[putCells,this,hj,hj2,List.getElem_append_left]
  ·rw[List.getElem?_eq_none (by simp;omega),List.getElem?_eq_none (by simp;omega)]
end Go.Proofs.YtobgjpigngoggaaGreat.V
namespace Go.Proofs.YtobgjpigngoggaaGreat.V
open Go
variable{H:Type}{enc:TypeId×Value→H}{P:Program}{w:World}{base:Nat}{spare:Nat→Bool}{held:Bool}
section
variable{P:Program}{Q:Exit→Wy}{n:Nat}{env:aT}{w0:World}{S:E6}{H:List V.aI}
end
def NZ(x:Nat):List Nat→Bool
 |[]=>false
 |y::l=>bif Nat.beq y x then true else NZ x l
def G8:List Nat→aT→aT
 |_,[]=>[]
 |ds,p::l=>bif NZ p.1 ds then G8 ds l else p::G8 (p.1::ds) l
def jF{α:Type}:List α→List α→List α
 |[],r=>r
 |x::l,r=>x::jF l r
variable{α:Type}
theorem AQ: ∀l r:List α,jF l r=l++r
 |[],_=>rfl
 |x::l,r=>by rw[jF,AQ l r];rfl
def dl(ds:List Nat)(ad env:aT):aT:=jF ad<|G8 (jF (dJ ad) ds) env
def lk:List (Nat×aI)→List aI→List aI
 |[],H=>H
 |p::l,H=>lk l<|H.set p.1 p.2
def lB:List Nat→List aI→List aI
 |[],H=>H
 |i::is,H=>lB is<|H.eraseIdx i
def qH(env:aT)(l:List Nat):List (Option Value):=l.map<|eo env
def G9(env:aT):List (Option Value):=env.map λp=>some p.2
theorem Ni{env:aT}: ∀{env':aT},qH env (dJ env')=G9 env'→V.sub env env'
 |[],_=>trivial
 |p::l,h=>by
  simp only[qH,dJ,G9,List.map_cons,List.cons.injEq] at h
  exact⟨h.1,Ni h.2⟩
def sP:List ResultVar→List Nat
 | .tmp t::l=>t::sP l
 |_=>[]
def uM:List ResultVar→Bool
 |[]=>true
 | .tmp _::l=>uM l
 |_=>false
theorem zW{n:Nat}{env:aT}{a:Act}(r:Rep n env a): ∀{l:List ResultVar}{vs:Za},uM l=true→qH env (sP l)=vs.map some→qG P w a l vs
 |[],[],_,_=>trivial
 |[],_::_,_,h=>by simp[qH,sP] at h
 | .tmp t::l,[],_,h=>by simp[qH,sP] at h
 | .tmp t::l,v::vs,h0,h=>by
   simp only[qH,sP,List.map_cons,List.cons.injEq] at h
   exact⟨cw r h.1,zW r (by simpa[uM] using h0) h.2⟩
 | .cell _ _::_,_,h0,_=>by simp[uM] at h0
theorem qI{k:IntKind}{a b:Int}(h:a=b):some (Value.int k a)=some (Value.int k b):=by rw[h]
theorem gB{a b:Bool}(h:a=b):some (Value.bool a)=some (Value.bool b):=by rw[h]
theorem kJ{A:k0}{c:Nat}{a b:List α}(h:a=b):some (Value.slice A a.length c)=some (Value.slice A b.length c):=by rw[h]
variable{b:Nat}
theorem uW{A:k0}{c a:Nat}(h:a=b):some (Value.slice A a c)=some (Value.slice A b c):=by rw[h]
def Y5(o:Oper):Hn→Bool
 | .p=>true
 | .w _=>match o.op with| .fieldAddr _ _ _| .field _ _ _| .load _ _| .store _ _ _| .indexAddr _ _ _| .call _| .alloc _| .box _ _| .pick _ _ _| .move _| .build _ _=>false|_=>true
 | .eq| .es| .ct=>match o.op with| .binOp _ _ _ _ _=>true|_=>false
 | .ld _| .rd _=>match o.op with| .load _ _=>true|_=>false
 | .ix=>match o.op with| .indexAddr _ _ _=>true|_=>false
 | .cq _=>match o.op with| .call _=>true|_=>false
 | .sk| .o=>o.guard.isSome
 | .cl=>match o.op with| .pick _ _ _=>true|_=>false
 | .st _=>match o.op with| .store _ _ _=>true|_=>false
 | .al=>match o.op with| .alloc _| .box _ _=>true|_=>false
 | .si _=>match o.op with| .index _ _ _=>true|_=>false
 | .ss=>match o.op with| .slice _ _ _ _ _=>true|_=>false
def Nj(o:Oper)(r:List Hn→List Hn):List Hn→List Hn
 |[]=> .p::r []
 |h::hs=>bif Y5 o h then h::r hs else .p::r (h::hs)
def fl:List Oper→List Hn→List Hn
 |[],hs=>hs
 |o::ol,.o::hs=>bif o.guard.isSome then .o::Nj o (fl ol) hs else .p::fl ol (.o::hs)
 |o::ol,hs=>Nj o (fl ol) hs
def zo(x:Out):aT×List aI×(Cx→Prop)×List Nat:=(x.env,x.H,x.C,x.eqs.map (·.1))
def zs:Option Out→List Nat
 |some x=>x.eqs.map (·.2)
 |none=>[]
theorem zp: ∀{l:List (Nat×Nat)},l.map (·.1)=l.map (·.2)→ ∀p∈l,p.1=p.2
 |[],_,_,hp=>by simp at hp
 |q::l,h,p,hp=>by
  simp only[List.map_cons,List.cons.injEq] at h
  rcases List.mem_cons.1 hp with rfl|hp
  ·exact h.1
  ·exact zp h.2 p hp
theorem B6{x:Option Out}{E:aT}{H':List aI}{C:Cx→Prop}(h:x.map zo=some (E,H',C,zs x)): ∃q,x=some ⟨E,H',q,C⟩∧ ∀p∈q,p.1=p.2:=by
 cases x with
 |none=>simp at h
 |some x=>
  simp only[Option.map_some,zo,zs,Option.some.injEq,Prod.mk.injEq] at h
  obtain⟨rfl,rfl,rfl,h⟩:=h
  exact⟨_,rfl,zp h⟩
section
variable{P:Program}{Q:Exit→Wy}{n:Nat}{env:aT}{w0:World}{S:E6}{H:List aI}{ops:Zb}{rest:List Oper}{K:Wy}
def XZ(P:Program)(ops:Array Oper)(n:Nat)(ii:List Nat)(hs:List Hn)(ol:List Oper)(bs:List Nat)(env:aT)(H:List aI)(E:aT)(H':List aI)(C:Cx→Prop)(m:Nat):Prop:=
 (nb hs,(X P ops n ii hs ol bs env [] H true).map zo)=(m,some (E,H',C,zs<|X P ops n ii hs ol bs env [] H true))
abbrev XF(P:Program)(ops:Zb)(n:Nat)(hs:List Hn)(ol:List Oper)(env:aT)(H:List aI)(E:aT)(H':List aI)(C:Cx→Prop):Prop:=XZ P ops n (dJ E) (fl ol hs) ol [] env H E H' C 0
abbrev XP(P:Program)(ops:Zb)(n:Nat)(hs:List Hn)(rest:List Oper)(env:aT)(H:List aI)(E:aT)(C:Cx→Prop):Prop:=XZ P ops n (dJ E) hs (rest.take<|kn hs) [] env H E H C 0
abbrev XB(P:Program)(ops:Zb)(n:Nat)(ii:E6)(hs:List Hn)(ol:List Oper)(bs:E6)(env:aT)(H:List aI)(E:aT)(H':List aI)(C:Cx→Prop):Prop:=XZ P ops n ii (fl ol hs) ol bs env H E H' C bs.length
theorem xz{m:Nat}{k:Nat}(hs:List Hn)(ii:E6)(E:E6→aT)(H':E6→List aI)(C:E6→Cx→Prop)
  (hx: ∀bs,bs.length=m→XZ P ops n ii hs (rest.take k) bs env H (E bs) (H' bs) (C bs) m)
  (hc: ∀bs,bs.length=m→C bs ⟨P,w0,S,H⟩)(h: ∀bs,bs.length=m→A n (E bs) w0 S (H' bs) (wpList P ops Q<|rest.drop k)):A n env w0 S H (wpList P ops Q rest):=by
 intro a w r s
 have h1:=JH (P:=P) (ops:=ops) (Q:=Q) (Hc:=H) (rest:=rest.drop k) hs (rest.take k) env [] H true (λ_=>rfl) (dJ:=ii) (λbs hbs=>?_) a w r s
 ·rw[List.take_append_drop] at h1;exact h1
 ·have hm:nb hs=m:=by
   have:=hx (ns m) pJ
   simp[XZ] at this;exact this.1
  have h2:=hx bs<|hbs.trans hm
  obtain⟨q,e,h3⟩:=B6 (Prod.mk.inj h2).2
  exact⟨_,e,h3,hc bs<|hbs.trans hm,h bs<|hbs.trans hm⟩
theorem rK(hs:List Hn)(E:aT)(H':List aI)(C:Cx→Prop)(hx:XF P ops n hs rest env H E H' C)(hc:C ⟨P,w0,S,H⟩)(h:A n E w0 S H' (Q .normal)):A n env w0 S H (wpList P ops Q rest):=
 xz (m:=0) (k:=rest.length) (fl rest hs) (dJ E) (λ_=>E) (λ_=>H') (λ_=>C) (λbs hb=>by
  obtain rfl:=List.eq_nil_of_length_eq_zero hb
  rw[List.take_length];exact hx) (λ_ _=>hc) (λ_ _=>by rw[List.drop_length];exact h)
theorem Bg(hs:List Hn)(E:aT)(C:Cx→Prop)(hx:XP P ops n hs rest env H E C)(hc:C ⟨P,w0,S,H⟩)(h:A n E w0 S H (wpList P ops Q<|rest.drop<|kn hs)):A n env w0 S H (wpList P ops Q rest):=
 xz (m:=0) (k:=kn hs) hs (dJ E) (λ_=>E) (λ_=>H) (λ_=>C) (λbs hb=>by
  obtain rfl:=List.eq_nil_of_length_eq_zero hb
  exact hx) (λ_ _=>hc) (λ_ _=>h)
theorem Bl(hs:List Hn)(E:Nat→aT)(H':Nat→List aI)(C:Nat→Cx→Prop)(hx: ∀b,XB P ops n (dJ<|E b) hs rest [b] env H (E b) (H' b)<|C b)(hi: ∀b,dJ (E b)=dJ (E 0))(hc: ∀b,C b ⟨P,w0,S,H⟩)(h: ∀b,A n (E b) w0 S (H' b)<|Q .normal):A n env w0 S H (wpList P ops Q rest):=
 xz (m:=1) (k:=rest.length) (fl rest hs) (dJ<|E 0) (λbs=>E<|bs.getD 0 0) (λbs=>H'<|bs.getD 0 0) (λbs=>C<|bs.getD 0 0) (λbs hb=>by
  obtain⟨b,rfl⟩:=List.length_eq_one_iff.1 hb
  have:=hx b;rw[hi b] at this;rw[List.take_length];exact this) (λ_ _=>hc _) (λ_ _=>by rw[List.drop_length];exact h _)
theorem Yi(hs:List Hn)(E:Nat→Nat→aT)(H':Nat→Nat→List aI)(C:Nat→Nat→Cx→Prop)(hx: ∀b c,XB P ops n (dJ<|E b c) hs rest [b,c] env H (E b c) (H' b c)<|C b c)(hi: ∀b c,dJ (E b c)=dJ (E 0 0))(hc: ∀b c,C b c ⟨P,w0,S,H⟩)(h: ∀b c,A n (E b c) w0 S (H' b c)<|Q .normal):A n env w0 S H (wpList P ops Q rest):=
 xz (m:=2) (k:=rest.length) (fl rest hs) (dJ<|E 0 0) (λbs=>E (bs.getD 0 0)<|bs.getD 1 0) (λbs=>H' (bs.getD 0 0)<|bs.getD 1 0) (λbs=>C (bs.getD 0 0)<|bs.getD 1 0) (λbs hb=>by
  match bs,hb with
  |[b,c],_=>have:=hx b c;rw[hi b c] at this;rw[List.take_length];exact this) (λ_ _=>hc _ _) (λ_ _=>by rw[List.drop_length];exact h _ _)
end
section
variable{P:Program}{Q:Exit→Wy}{n:Nat}{env:aT}{w0:World}{S:E6}{H HB:List aI}{ops:Zb}{K:Wy}{l:List Oper}{f:Nat}{L:E6}{listed:Array Bool}
def XW(c:Bool)(P:Program)(ops:Array Oper)(n:Nat)(hs:List Hn)(ol:List Oper)(env:aT)(H:List aI)(E:aT)(C:Cx→Prop):Prop:=
 (c,(X P ops n (dJ E) hs ol [] env [] H true).map zo)=(true,some (E,H,C,zs<|X P ops n (dJ E) hs ol [] env [] H true))
abbrev XD(g:Zb→E6→List Hn→E6→Array Bool→Bool)(c:Bool)(P:Program)(ops:Zb)(n:Nat)(L:E6)(hs:List Hn)(order:E6)(listed:Array Bool)(env:aT)(H:List aI)(E:aT)(C:Cx→Prop):Prop:=
 XW (kT (fl (fy ops order) hs)&&g ops L (fl (fy ops order) hs) order listed&&Nat.beq (fy ops order).length order.length&&c) P ops n (fl (fy ops order) hs) (fy ops order) env H E C
theorem Bm{f':Nat}(f:Nat)(hs:List Hn)(order:E6)(E:aT)(C:Cx→Prop)(hx:XD jh (Nat.beq f'<|f+order.length) P ops n L hs order listed env H E C)
  (hc:C ⟨P,w0,S,H⟩)(h:A n E w0 S H (U2 P ops K f L (HS w0 S H)<|jg listed order)):A n env w0 S H (U2 P ops K f' L (HS w0 S H) listed):=by
 intro a w r s
 obtain⟨hb,h2⟩:=Prod.mk.inj hx
 obtain⟨q,e,h3⟩:=B6 h2
 simp only[Bool.and_eq_true] at hb
 rw[Nat.eq_of_beq_eq_true hb.2]
 exact AP (Hc:=H) _ order listed env [] true hb.1.1.1 hb.1.1.2 (λ_=>rfl) (Nat.eq_of_beq_eq_true hb.1.2) ⟨_,e,h3,hc,h⟩ a w r s
theorem Bh{id:Nat}(hs:List Hn)(order:E6)(E:aT)(C:Cx→Prop)(hm:P.follows .mixedOrders=true)
  (hx:XD jh (Nat.beq order.length l.length&&(Region.ready .any l.toArray<|jg (Array.replicate l.length false) order).isEmpty) P l.toArray n [] hs order (Array.replicate l.length false) env H E C)
  (hc:C ⟨P,w0,S,H⟩)(h:A n E w0 S H (Q .normal)):A n env w0 S H ((Code.region id l.toArray true).wp P Q):=by
 refine A.draw2' [] hm ?_
 intro a w r s
 obtain⟨hb,h2⟩:=Prod.mk.inj hx
 obtain⟨q,e,h3⟩:=B6 h2
 simp only[Bool.and_eq_true] at hb
 have hl:=Nat.eq_of_beq_eq_true hb.2.1
 have:=AP (Hc:=H) (K:=Q .normal) (f:=0) (L:=[]) _ order (Array.replicate l.length false) env [] true hb.1.1.1 hb.1.1.2 (λ_=>rfl) (Nat.eq_of_beq_eq_true hb.1.2) ⟨_,e,h3,hc,?_⟩ a w r s
 ·rw[Nat.zero_add,hl] at this;exact this
 ·intro a w r s
  refine⟨by simpa using hb.2.2,λw' hf=>h a w' r<|s.kept hf⟩
theorem OH{f':Nat}(f:Nat)(hs:List Hn)(order:E6)(E:aT)(C:Cx→Prop)(hx:XD qQ (Nat.beq f'<|f+order.length) P ops n L hs order listed env HB E C)
  (hBH:List.Sublist HB H)(hc:C ⟨P,w0,S,HB⟩)(h:A n E w0 S H (U3 P ops K (HS w0 S HB) f L (HS w0 S H)<|jg listed order)):A n env w0 S H (U3 P ops K (HS w0 S HB) f' L (HS w0 S H) listed):=by
 intro a w r s
 obtain⟨hb,h2⟩:=Prod.mk.inj hx
 obtain⟨q,e,h3⟩:=B6 h2
 simp only[Bool.and_eq_true] at hb
 rw[Nat.eq_of_beq_eq_true hb.2]
 exact Rt (Hc:=HB) hBH _ order listed env [] true hb.1.1.1 hb.1.1.2 (λ_=>rfl) (Nat.eq_of_beq_eq_true hb.1.2) ⟨_,e,h3,hc,λa w r _ s=>h a w r s⟩ a w r s
end
section
variable{P:Program}{Q:Exit→Wy}{n:Nat}{env:aT}{w0:World}{S:E6}{H:List aI}{ops:Zb}{rest:List Oper}{o:Oper}{K:Wy}
theorem db(hs:List Hn)(ds:E6)(ad:aT)(h:A n (dl ds ad env) w0 S H (Q .normal))(hx:XF P ops n hs rest env H (dl ds ad env) H T0:=by show _=_;kernel_rfl):A n env w0 S H (wpList P ops Q rest):=rK hs _ _ _ hx trivial h
theorem gK(hs:List Hn)(ds:E6)(ad:aT)(h:A n (dl ds ad env) w0 S H (wpList P ops Q<|rest.drop<|kn hs))(hx:XP P ops n hs rest env H (dl ds ad env) T0:=by show _=_;kernel_rfl):A n env w0 S H (wpList P ops Q rest):=Bg hs _ _ hx trivial h
theorem gl(hs:List Hn)(ds:E6)(ad:aT)(is:List (Nat×aI))(h:A n (dl ds ad env) w0 S (lk is H) (Q .normal))(hx:XF P ops n hs rest env H (dl ds ad env) (lk is H) T0:=by show _=_;kernel_rfl):A n env w0 S H (wpList P ops Q rest):=rK hs _ _ _ hx trivial h
theorem dM(hs:List Hn)(ds:E6)(ad:Nat→aT)(is:Nat→List (Nat×aI))(N:Nat→aI)(h: ∀b,A n (dl ds (ad b) env) w0 S (jF (lk (is b) H) [N b])<|Q .normal)(hx: ∀b,XB P ops n (dJ<|dl ds (ad b) env) hs rest [b] env H (dl ds (ad b) env) (jF (lk (is b) H) [N b]) T0:=by intro _;show _=_;kernel_rfl)(hi: ∀b,dJ (dl ds (ad b) env)=dJ (dl ds (ad 0) env):=by intro _;kernel_rfl):A n env w0 S H (wpList P ops Q rest):=Bl hs _ _ (λ_=>T0) hx hi (λ_=>trivial) h
variable{id:Nat}
theorem CB{l:List Oper}(hs:List Hn)(order:E6)(ds:E6)(ad:aT)(C:Cx→Prop)(hc:C ⟨P,w0,S,H⟩)(h:A n (dl ds ad env) w0 S H (Q .normal))(hm:P.follows .mixedOrders=true:=by kernel_rfl)
 (hx:XD jh (Nat.beq order.length l.length&&(Region.ready .any l.toArray<|jg (Array.replicate l.length false) order).isEmpty) P l.toArray n [] hs order (Array.replicate l.length false) env H (dl ds ad env) C:=by show _=_;kernel_rfl):A n env w0 S H ((Code.region id l.toArray true).wp P Q):=Bh hs order _ C hm hx hc h
variable{c:Operand}{x y:Code}
theorem iD(E:Bool)(ht:E=true→A n env w0 S H (x.wp P Q))(hf:E=false→A n env w0 S H (y.wp P Q))(hc:ev env c=some (.bool E):=by kernel_rfl):A n env w0 S H ((Code.cond c x y).wp P Q):=aL hc ht hf
theorem dU(ht:A n env w0 S H (x.wp P Q))(hc:ev env c=some (.bool true):=by kernel_rfl):A n env w0 S H ((Code.cond c x y).wp P Q):=iw hc ht
theorem bM(hf:A n env w0 S H (y.wp P Q))(hc:ev env c=some (.bool false):=by kernel_rfl):A n env w0 S H ((Code.cond c x y).wp P Q):=oW hc hf
variable{σ:Type}{f:FuncId}{Is:List aI}
theorem Yj(d:Option Nat)(args:Za)(is:E6)(rv:σ→Value)(φ:σ→Prop)(Os:σ→List aI)
  (hc: ∀w,HS w0 S H w→HS w (aN Is) Is w→Calls P f args.toArray w λe w'=> ∃x,e= .returned (rv x)∧φ x∧Turn Is (Os x) w w')
  (h: ∀x,φ x→A n (putE env d<|rv x) w0 S (jF (Os x)<|lB is H) K)
  (hok:(ff ops n env o d&&nE P f)=true:=by kernel_rfl)(hx:pR env o=some (f,args):=by kernel_rfl)(hp:fh is H=some (Is,lB is H):=by kernel_rfl):A n env w0 S H (cz P ops o K):=
 Yo d args is rv φ Os _ hok hx hp hc (λ_=>(AQ _ _).symm) h
variable{rv:σ→Value}{φ:σ→Prop}{Os:σ→List aI}
theorem dH(d:Option Nat){args:Za}(is:E6)
 (hc: ∀w,HS w0 S H w→HS w (aN Is) Is w→Calls P f args.toArray w λe w'=> ∃x,e= .returned (rv x)∧φ x∧Turn Is (Os x) w w')
 (h: ∀x,φ x→A n (putE env d<|rv x) w0 S (jF (Os x)<|lB is H) K)
 (hok:(ff ops n env o d&&nE P f)=true:=by kernel_rfl)(hx:pR env o=some (f,args):=by kernel_rfl)(hp:fh is H=some (Is,lB is H):=by kernel_rfl):A n env w0 S H (cz P ops o K):=Yj d args is rv φ Os hc h hok hx hp
theorem iJ(enc:α→Za)(xs:List α)(ys:List α)(i:Nat)(d:Nat)(z:Value)(by_:Nat){x y:Operand}{t e:TypeId}{sz:Nat}{a0:k0}{c:Nat}{X:k0}{cx:Nat}
  (he: ∀x,(enc x).length=sz)(h1: ∀x,(enc x).all Value.oneCell'=true)(hr:Rd w0 S H X (aP enc ys))(hbytes:xs.length+ys.length≤1048576∧by_≤134217728)
  (h: ∀A' c',V.A n ((d,.slice A' (xs++ys).length c')::env) w0 S (H.set i<|sl A' (xs++ys).length c' e sz (aP enc<|xs++ys)) K)
  (hi:H[i]? =some (sl a0 xs.length c e sz<|aP enc xs):=by rfl)(ho:o.op= .call {callee:= .builtin .append,args:=#[x,y],argTypes:=#[t,t]}:=by rfl)(hx:ev env x=some (.slice a0 xs.length c):=by rfl)(hy:ev env y=some (.slice X ys.length cx):=by rfl)
  (ht:P.underlying t=some (.slice e):=by kernel_rfl)(hinf:(P.info? e).map (λi=>(i.zero,i.size,i.bytes))=some (some z,sz,by_):=by kernel_rfl)(hzs:z.cells.size=sz:=by rfl)(hsz:0<sz:=by decide)
  (hok:ff ops n env o (some d)=true:=by kernel_rfl):V.A n env w0 S H (cz P ops o K):=
 jZ (xs:=xs) ys i d hok ho hx hy ht hinf hzs hsz he h1 hi hr hbytes _ (λ_ _=>rfl) h
theorem cX(is:E6){env':aT}{G:List aI}(hs:qH env (dJ env')=G9 env':=by kernel_rfl)(hp:(match fh is H with|some x=>some x.1|none=>none)=some G:=by kernel_rfl):A n env w0 S H (λa w=>Rep n env' a∧HS w0 S G w):=bw is (Ni hs) hp
variable{G:Wy}
theorem dO(d:Nat)(v:Value)(hd:eo env d=some v)(h:A n ((d,v)::env) w0 S H G):A n env w0 S H G:=λa w r s=>h a w (r.cons hd r) s
theorem bR{fn:Func}(is:E6)(vs:Za)(x:σ)(hx:mS vs=rv x)(hφ:φ x)(ho:uM fn.results.toList=true:=by kernel_rfl)(hv:qH env (sP fn.results.toList)=vs.map some:=by kernel_rfl)(hp:(match fh is H with|some x=>some x.1|none=>none)=some (Os x):=by kernel_rfl):V.A n env w (aN Is) H (bodyPost P fn (λe w'=> ∃x,e= .returned (rv x)∧φ x∧Turn Is (Os x) w w') .ret):=
 cP is vs (λ_ _ r _=>zW r ho hv) x hx hφ hp
theorem bJ{fn:Func}{v:Value}(vs:Za)(hx:mS vs=v)(ho:uM fn.results.toList=true:=by kernel_rfl)(hv:qH env (sP fn.results.toList)=vs.map some:=by kernel_rfl):
 V.A n env w [] H (bodyPost P fn (λe w'=>e= .returned v∧Fr [] w w') .ret):=fE vs (λ_ _ r _=>zW r ho hv) hx
theorem dL(hs:List Hn)(ds:E6)(ad:Nat→aT)(N:Nat→aI)(h: ∀b,A n (dl ds (ad b) env) w0 S (jF H [N b])<|Q .normal)(hx: ∀b,XB P ops n (dJ<|dl ds (ad b) env) hs rest [b] env H (dl ds (ad b) env) (jF H [N b]) T0:=by intro _;show _=_;kernel_rfl)(hi: ∀b,dJ (dl ds (ad b) env)=dJ (dl ds (ad 0) env):=by intro _;kernel_rfl):A n env w0 S H (wpList P ops Q rest):=Bl hs _ _ (λ_=>T0) hx hi (λ_=>trivial) h
theorem iK(hs:List Hn)(ds:E6)(ad:Nat→Nat→aT)(N:Nat→Nat→List aI)(h: ∀b c,A n (dl ds (ad b c) env) w0 S (jF H<|N b c)<|Q .normal)(hx: ∀b c,XB P ops n (dJ<|dl ds (ad b c) env) hs rest [b,c] env H (dl ds (ad b c) env) (jF H<|N b c) T0:=by intro _ _;show _=_;kernel_rfl)(hi: ∀b c,dJ (dl ds (ad b c) env)=dJ (dl ds (ad 0 0) env):=by intro _ _;kernel_rfl):A n env w0 S H (wpList P ops Q rest):=Yi hs _ _ (λ_ _=>T0) hx hi (λ_ _=>trivial) h
theorem ca(i:Nat)(it':aI){it:aI}(hi:H[i]? =some it)(e:it=it')(h:A n env w0 S (H.set i it') G):A n env w0 S H G:=by
 subst e
 have:H.set i it=H:=by
  obtain⟨h1,h2⟩:=Zf.1 hi
  rw[←h2];exact List.set_getElem_self h1
 rw[this] at h;exact h
theorem iC{c:Code}(ds:E6)(ad:σ→aT)(is:E6)(Os:σ→List aI)(φ:σ→Prop)(μ:σ→Nat)(x0:σ)(h0:φ x0)
 (hstart:A n env w0 S H (λa w=>Rep n (dl ds (ad x0) env) a∧HS w0 S (jF (Os x0)<|lB is H) w))
 (round: ∀x,φ x→A n (dl ds (ad x) env) w0 S (jF (Os x)<|lB is H) (c.wp P<|Exit.then (λa w=> ∃y,φ y∧μ y<μ x∧Rep n (dl ds (ad y) env) a∧HS w0 S (jF (Os y)<|lB is H) w) Q)):
 A n env w0 S H ((Code.loop c).wp P Q):=fY _ (λx=>jF (Os x)<|lB is H) φ μ x0 h0 hstart round
variable{x:List Oper}
theorem aC(h:A n env w0 S H (wpList P x.toArray (Exit.then (y.wp P Q) Q) x)):A n env w0 S H ((Code.seq (Code.region id x.toArray false) y).wp P Q):=aD<|aM h
theorem Y6{J:Exit→Wy}(h:A n env w0 S H (wpList P x.toArray (Exit.then (y.wp P Q) Q) x)):A n env w0 S H (Exit.then ((Code.seq (Code.region id x.toArray false) y).wp P Q) J .normal):=eF<|aD<|aM h
end
structure MB where
 mb:Option Nat
 mx:List (Int×Int)
 deriving Inhabited
def m0:MB:=⟨none,[]⟩
abbrev pj(v:MB):Value:= .map v.mb
abbrev oq(b:Nat)(kv:hV Int):aI:=bH (λk:Int=>Value.int .i64 k) (λx:Int=>Value.int .i64 x) b kv
abbrev qz(b:Nat)(kv:hV MB):aI:=bH (λk:Int=>Value.int .i64 k) pj b kv
def kx(kv:List (Int×MB))(k:Int):List (Int×Int):=((aB kv k).getD m0).mx
def tY(kv:List (Int×MB)):List Nat:=kv.flatMap λp=>p.2.mb.toList
def ee(kv:List (Int×MB)):aI where
 foot:=tY kv
 holds w:= ∀p∈kv,∃b,p.2.mb=some b∧(oq b p.2.mx).holds w
 loc w w' h hw p hp:=by
  obtain⟨b,e,hb⟩:=hw p hp
  exact⟨b,e,(oq b p.2.mx).loc w w' (λc hc=>h c<|List.mem_flatMap.2 ⟨p,hp,by rw[e];exact hc⟩) hb⟩
 here w hw c hc:=by
  obtain⟨p,hp,hc⟩:=List.mem_flatMap.1 hc
  obtain⟨b,e,hb⟩:=hw p hp
  exact(oq b p.2.mx).here w hb c (by rw[e] at hc;exact hc)
section
variable{β:Type}
theorem qe(k:Int)(s:β): ∀kv:List (Int×β),(aJ kv k s).Perm ((k,s)::aW kv k)
 |[]=> .refl _
 |p::kv=>by
  simp only[aJ,aW]
  by_cases e:p.1=k
  ·rw[if_pos e,if_pos e,e]
  ·rw[if_neg e,if_neg e];exact((qe k s kv).cons p).trans (.swap _ _ _)
theorem sJ{k:Int}{s:β}: ∀{kv:List (Int×β)},aB kv k=some s→kv.Perm ((k,s)::aW kv k)
 |[],h=>by simp[aB] at h
 |p::kv,h=>by
  simp only[aB] at h;simp only[aW]
  by_cases e:p.1=k
  ·rw[if_pos e] at h⊢;cases h;rw[←e]
  ·rw[if_neg e] at h⊢;exact((sJ h).cons p).trans (.swap _ _ _)
theorem DT(k:Int)(s t:β): ∀kv:List (Int×β),aJ (aJ kv k s) k t=aJ kv k t
 |[]=>by simp[aJ]
 |p::kv=>by
  simp only[aJ]
  by_cases e:p.1=k
  ·rw[if_pos e,if_pos e];simp[aJ,e]
  ·rw[if_neg e,if_neg e];simp only[aJ,if_neg e];rw[DT k s t kv]
theorem vh{k:Int}: ∀{kv:List (Int×β)},aB kv k=none→aW kv k=kv
 |[],_=>rfl
 |p::kv,h=>by
  simp only[aB] at h;simp only[aW]
  by_cases e:p.1=k
  ·rw[if_pos e] at h;cases h
  ·rw[if_neg e] at h;rw[if_neg e,vh h]
end
variable{m:MB}
theorem E9(h:m.mb=some b):m=⟨some b,m.mx⟩:=by cases m;cases h;rfl
theorem xX(kv:hV MB)(k q:Int)(m:MB):kx (aJ kv k m) q=if k=q then m.mx else kx kv q:=by
 unfold kx;rw[ig];split<;>rfl
variable{kv:hV MB}{k:Int}
theorem Ds(h:aB kv k=none):kx kv k=[]:=by unfold kx;rw[h];rfl
theorem Dt(h:aB kv k=some m):kx kv k=m.mx:=by unfold kx;rw[h];rfl
variable{κ β:Type}{enck:κ→Value}{encv:β→Value}
theorem DU: ∀{es:List MapEntry}{kv kw:List (κ×β)},Ents enck encv es kv→kv.map (λp=>(p.1,encv p.2))=kw.map (λp=>(p.1,encv p.2))→Ents enck encv es kw
 |[],[],[],_,_=>trivial
 |[],[],_::_,_,h=>by simp at h
 |e::es,p::kv,[],_,h=>by simp at h
 |e::es,p::kv,q::kw,h,h2=>by
  simp only[List.map_cons,List.cons.injEq,Prod.mk.injEq] at h2
  exact⟨⟨by rw[←h2.1.1];exact h.1.1,by rw[←h2.1.2];exact h.1.2⟩,DU h.2 h2.2⟩
 |[],_::_,_,h,_=>h.elim
 |_::_,[],_,h,_=>h.elim
theorem Rw{kw:hV MB}(h:(qz b kv).holds w)(e:kv.map (λp=>(p.1,pj p.2))=kw.map (λp=>(p.1,pj p.2))):(qz b kw).holds w:=by
 obtain⟨⟨es,c,h1,h2,h3⟩,h4⟩:=h
 refine⟨⟨es,c,h1,DU h2 e,h3⟩,?_⟩
 have e2:=congrArg (List.map (λp:Int×Value=>p.1)) e
 simp only[List.map_map] at e2
 have e3:kv.map (·.1)=kw.map (·.1):=by simpa[Function.comp_def] using e2
 rw[←e3];exact h4
theorem JL{m':MB}(hm:m.mb=m'.mb): ∀{kv:hV MB},aB kv k=some m→kv.map (λp=>(p.1,pj p.2))=(aJ kv k m').map (λp=>(p.1,pj p.2))
 |[],h=>by simp[aB] at h
 |p::kv,h=>by
  simp only[aB] at h;simp only[aJ]
  by_cases e:p.1=k
  ·rw[if_pos e] at h⊢;cases h;simp[hm]
  ·rw[if_neg e] at h⊢;simp only[List.map_cons];rw[←JL hm h]
theorem I0(kv:hV MB)(k:Int)(hm:aB kv k=some m)(hs:HS w (aN [ee kv]) [ee kv] w):
  ∃b,m.mb=some b∧(∀it∈[ee<|aW kv k,oq b m.mx],it.holds w)∧(aN [ee<|aW kv k,oq b m.mx]).Nodup∧ ∀c∈aN [ee<|aW kv k,oq b m.mx],c∈aN [ee kv]:=by
 have hb:(ee kv).holds w:=hs.all _<|by simp
 have hn:=hs.nodup
 have hpm:=sJ hm
 obtain⟨b,e,h2⟩:=hb (k,m)<|o0 hm
 have hp:(tY (aW kv k)++[b]).Perm (tY kv):=by
  have:=hpm.flatMap_right (λp:Int×MB=>p.2.mb.toList)
  simp only[List.flatMap_cons] at this
  dsimp only at e;rw[e] at this
  exact List.perm_append_comm.trans this.symm
 refine⟨b,e,?_,?_,?_⟩
 ·intro it hi
  simp only[List.mem_cons,List.not_mem_nil,or_false] at hi
  rcases hi with rfl|rfl
  ·exact λp hp=>hb p<|hpm.mem_iff.2<|by simp[hp]
  ·exact h2
 ·simp only[aN,ee,bH,List.flatMap_cons,List.flatMap_nil,List.append_nil] at hn⊢
  exact hp.nodup_iff.2 hn
 ·intro c hc
  simp only[aN,ee,bH,List.flatMap_cons,List.flatMap_nil,List.append_nil] at hc⊢
  exact hp.mem_iff.1 hc
theorem wq(mk:Nat)(kc kv:hV MB)(k:Int)(b:Nat)(xs ys:hV Int)(hc:aJ kc k ⟨some b,xs⟩=aJ kv k ⟨some b,xs⟩)(hg:aB kc k=some ⟨some b,ys⟩)(hs:HS w (aN [qz mk kc,ee<|aW kv k,oq b xs]) [qz mk kc,ee<|aW kv k,oq b xs] w):
  ∃_x:Unit,True∧(∀it∈[qz mk<|aJ kv k ⟨some b,xs⟩,ee<|aJ kv k ⟨some b,xs⟩],it.holds w)∧(aN [qz mk<|aJ kv k ⟨some b,xs⟩,ee<|aJ kv k ⟨some b,xs⟩]).Nodup∧ ∀c∈aN [qz mk<|aJ kv k ⟨some b,xs⟩,ee<|aJ kv k ⟨some b,xs⟩],c∈aN [qz mk kc,ee<|aW kv k,oq b xs]:=by
 have ho:(qz mk kc).holds w:=hs.all _<|by simp
 have hb:(ee<|aW kv k).holds w:=hs.all _<|by simp
 have hq:(oq b xs).holds w:=hs.all _<|by simp
 have hn:=hs.nodup
 have hp:(tY<|aJ kv k ⟨some b,xs⟩).Perm (tY (aW kv k)++[b]):=by
  have:=(qe k (⟨some b,xs⟩:MB) kv).flatMap_right (λp:Int×MB=>p.2.mb.toList)
  simp only[List.flatMap_cons] at this
  exact this.trans List.perm_append_comm
 refine⟨(),trivial,?_,?_,?_⟩
 ·intro it hi
  simp only[List.mem_cons,List.not_mem_nil,or_false] at hi
  rcases hi with rfl|rfl
  ·rw[←hc];exact Rw ho<|JL (m:=⟨some b,ys⟩) (m':=⟨some b,xs⟩) rfl hg
  ·intro p hp2
   rcases List.mem_cons.1 ((qe k _ kv).mem_iff.1 hp2) with rfl|h
   ·exact⟨b,rfl,hq⟩
   ·exact hb p h
 ·simp only[aN,ee,bH,List.flatMap_cons,List.flatMap_nil,List.append_nil] at hn⊢
  exact((List.Perm.refl [mk]).append hp).nodup_iff.2 hn
 ·intro c hc2
  simp only[aN,ee,bH,List.flatMap_cons,List.flatMap_nil,List.append_nil] at hc2⊢
  exact((List.Perm.refl [mk]).append hp).mem_iff.1 hc2
theorem UF(h:(ee kv).holds w)(hm:aB kv k=some m): ∃b,m.mb=some b∧(oq b m.mx).holds w:=h (k,m)<|o0 hm
section
variable{P:Program}{n:Nat}{env:aT}{w0:World}{S:E6}{H:List aI}{ops:Zb}{o:Oper}{K:Wy}
theorem Yx{G:Wy}(H':List aI)(hH:H++[ee []]=H')(h:V.A n env w0 S H' G):V.A n env w0 S H G:=λa w r s=>
 h a w r (by rw[←hH];exact s.add (Fr.refl _ _) (by intro p hp;cases hp) (by simp[ee,tY])<|by simp[ee,tY])
theorem zX(h:aB kv k=none):pj ((aB kv k).getD m0)= .map none:=by rw[h];rfl
theorem tZ(h:aB kv k=some m)(e:m.mb=some b):pj ((aB kv k).getD m0)= .map (some b):=by rw[h];show Value.map m.mb=_;rw[e]
variable{x:Operand}{t kt et:TypeId}
theorem QO{y:Operand}{t2:TypeId}{k:κ}(ho:o.op= .call {callee:= .builtin .delete,args:=#[x,y],argTypes:=#[t,t2]})(hx:ev env x=some (.map none))(hy:ev env y=some (enck k))(ht:P.underlying t=some (.map kt et))(hk:jk P kt enck):Qt P n env w0 S H o (.tuple #[]):=
 gr λa w r s=>by
  simp[execOp,ho,resolve,invoke,builtin,r.ev hx,r.ev hy,Builtin.delete_,run_underlying ht,hk.check]
theorem DV(ho:o.op= .call {callee:= .builtin .len,args:=#[x],argTypes:=#[t]})(hx:ev env x=some (.map none))(ht:P.underlying t=some (.map kt et)):Qt P n env w0 S H o (.int .i64 0):=
 gr λa w r s=>by
  simp[execOp,ho,resolve,invoke,builtin,r.ev hx,Builtin.len_,run_underlying ht,goInt]
end
section
variable{β:Type}
def lq(f:β→List aI)(kv:List (Int×β)):List Nat:=kv.flatMap λp=>aN<|f p.2
theorem Hk{l:List aI}{it:aI}{c:Nat}(h:it∈l)(hc:c∈it.foot):c∈aN l:=List.mem_flatMap.2 ⟨it,h,hc⟩
def df(f:β→List aI)(kv:List (Int×β)):aI where
 foot:=lq f kv
 holds w:= ∀p∈kv,∀it∈f p.2,it.holds w
 loc w w' h hw p hp it hi:=it.loc w w' (λc hc=>h c<|List.mem_flatMap.2 ⟨p,hp,Hk hi hc⟩)<|hw p hp it hi
 here w hw c hc:=by
  obtain⟨p,hp,hc⟩:=List.mem_flatMap.1 hc
  obtain⟨it,hi,hc⟩:=List.mem_flatMap.1 hc
  exact it.here w (hw p hp it hi) c hc
variable{kv:List (Int×β)}
theorem xY{f:β→List aI}(h:(df f kv).holds w){m:β}(hm:aB kv k=some m): ∀it∈f m,it.holds w:=h (k,m)<|o0 hm
theorem DW{ev:β→Value}{m m':β}(hm:ev m'=ev m): ∀{kv:List (Int×β)},aB kv k=some m→kv.map (λp=>(p.1,ev p.2))=(aJ kv k m').map (λp=>(p.1,ev p.2))
 |[],h=>by simp[aB] at h
 |p::kv,h=>by
  simp only[aB] at h;simp only[aJ]
  by_cases e:p.1=k
  ·rw[if_pos e] at h⊢;cases h;simp[hm]
  ·rw[if_neg e] at h⊢;simp only[List.map_cons];rw[←DW hm h]
theorem Hl{ek:Int→Value}{ev:β→Value}{kw:List (Int×β)}(h:(bH ek ev b kv).holds w)(e:kv.map (λp=>(p.1,ev p.2))=kw.map (λp=>(p.1,ev p.2))):(bH ek ev b kw).holds w:=by
 obtain⟨⟨es,c,h1,h2,h3⟩,h4⟩:=h
 refine⟨⟨es,c,h1,DU h2 e,h3⟩,?_⟩
 have e2:=congrArg (List.map (λp:Int×Value=>p.1)) e
 simp only[List.map_map] at e2
 have e3:kv.map (·.1)=kw.map (·.1):=by simpa[Function.comp_def] using e2
 rw[←e3];exact h4
section
variable{P:Program}{n:Nat}{env:aT}{w0:World}{S:E6}{H R H':List aI}{G:Wy}{f:β→List aI}{kv:List (Int×β)}{k:Int}{m m':β}{l:List aI}
theorem yT(is:E6){Is Os:List aI}(hp:fh is H=some (Is,R))(hi: ∀w,(∀it∈Is,it.holds w)→ ∀it∈Os,it.holds w)(hf:(aN Os).Perm (aN Is))(hH:Os++R=H')(h:V.A n env w0 S H' G):V.A n env w0 S H G:=
 wO is (λ_:Unit=>True) (λ_=>Os) (λ_=>H') hp (λw hs=>⟨(),trivial,hi w hs.all,hf.nodup_iff.2 hs.nodup,λb hb=>hf.mem_iff.1 hb⟩) (λ_=>hH) (λ_ _=>h)
end
end
inductive Ob where
 |wr (k:IntKind) (e n:Int)
 |ix (A:Option Addr) (len:Nat) (e:Int)
 |rd (p:Addr) (vs:List Value)
 |cq (f:FuncId) (args:List Value) (v:Value)
 |pr (p:Prop)
 |gd (c:Bool) (o:Ob)
def Ob.at(κ:Cx):Ob→Prop
 | .wr k e n=>k.wrap e=n
 | .ix A len e=>κ.ix A len e
 | .rd p vs=>κ.rd p vs
 | .cq f args v=>κ.call f args v
 | .pr p=>p
 | .gd c o=>c=true→o.at κ
def gC(κ:Cx):List Ob→Prop
 |[]=>True
 |o::l=>o.at κ∧gC κ l
section
variable{P:Program}{Q:Exit→Wy}{n:Nat}{env:aT}{w0:World}{S:E6}{H:List aI}{ops:Zb}{rest:List Oper}{o:Oper}{K:Wy}{κ:Cx}{os:List Ob}
variable{x:Ob}
theorem oc(h:x.at κ)(k:gC κ os):gC κ (x::os):=⟨h,k⟩
theorem o1(h:x.at κ):gC κ [x]:=⟨h,trivial⟩
theorem wo{k:IntKind}{e m:Int}(h:k.wrap e=m):(Ob.wr k e m).at κ:=h
theorem wj(e:Int)(h: -9223372036854775808≤e∧e<9223372036854775808):(Ob.wr .i64 e e).at κ:=nB h
theorem wv(e:Int)(h:0≤e∧e<18446744073709551616):(Ob.wr .u64 e e).at κ:=wrap_u64 h
theorem io(e:Int){A:k0}{len:Nat}(h:κ.ix A len e):(Ob.ix A len e).at κ:=h
theorem ro(p:Addr){vs:Za}(h:κ.rd p vs):(Ob.rd p vs).at κ:=h
theorem qo{f:FuncId}{args:Za}{v:Value}(h: ∀w,HS w0 S H w→Calls P f args.toArray w λe w'=>e= .returned v∧Fr [] w w'):(Ob.cq f args v).at ⟨P,w0,S,H⟩:=h
theorem go(c:Bool)(h:c=true→x.at κ):(Ob.gd c x).at κ:=h
theorem lH(hs:List Hn)(ds:E6)(ad:aT)(hc:gC ⟨P,w0,S,H⟩ os)(h:A n (dl ds ad env) w0 S H (Q .normal))(hx:XF P ops n hs rest env H (dl ds ad env) H (λκ=>gC κ os):=by show _=_;kernel_rfl):A n env w0 S H (wpList P ops Q rest):=rK hs _ _ _ hx hc h
theorem u1(hs:List Hn)(ds:E6)(ad:aT)(hc:gC ⟨P,w0,S,H⟩ os)(h:A n (dl ds ad env) w0 S H (wpList P ops Q<|rest.drop<|kn hs))(hx:XP P ops n hs rest env H (dl ds ad env) (λκ=>gC κ os):=by show _=_;kernel_rfl):A n env w0 S H (wpList P ops Q rest):=Bg hs _ _ hx hc h
theorem gJ(hs:List Hn)(ds:E6)(ad:aT)(is:List (Nat×aI))(hc:gC ⟨P,w0,S,H⟩ os)(h:A n (dl ds ad env) w0 S (lk is H) (Q .normal))(hx:XF P ops n hs rest env H (dl ds ad env) (lk is H) (λκ=>gC κ os):=by show _=_;kernel_rfl):A n env w0 S H (wpList P ops Q rest):=rK hs _ _ _ hx hc h
theorem jw{id:Nat}{l:List Oper}(hs:List Hn)(order:E6)(ds:E6)(ad:aT)(hc:gC ⟨P,w0,S,H⟩ os)(h:A n (dl ds ad env) w0 S H (Q .normal))(hm:P.follows .mixedOrders=true:=by kernel_rfl)
 (hx:XD jh (Nat.beq order.length l.length&&(Region.ready .any l.toArray<|jg (Array.replicate l.length false) order).isEmpty) P l.toArray n [] hs order (Array.replicate l.length false) env H (dl ds ad env) (λκ=>gC κ os):=by show _=_;kernel_rfl):A n env w0 S H ((Code.region id l.toArray true).wp P Q):=Bh hs order _ _ hm hx hc h
theorem Ym{L:E6}{listed:Array Bool}{f':Nat}(f:Nat)(hs:List Hn)(order:E6)(ds:E6)(ad:aT)(hc:gC ⟨P,w0,S,H⟩ os)(h:A n (dl ds ad env) w0 S H (U2 P ops K f L (HS w0 S H)<|jg listed order))
 (hx:XD jh (Nat.beq f'<|f+order.length) P ops n L hs order listed env H (dl ds ad env) (λκ=>gC κ os):=by show _=_;kernel_rfl):A n env w0 S H (U2 P ops K f' L (HS w0 S H) listed):=Bm f hs order _ _ hx hc h
end
section
variable{P:Program}
theorem aU{f:FuncId}{fn:Func}{c:Code}{args:Za}{R:Ending→World→Prop}{S:E6}{H:List aI}(hf:P.funcs[f]? =some fn)(hb:fn.body=some c)(hs:HS w S H w)
 (h:A fn.ntmps (uO args) w S H (c.wp P<|bodyPost P fn R))(hn:(Nat.ble args.length fn.ntmps)=true:=by rfl):Calls P f args.toArray w R:=IN (uO args) S H hf hb hn (Cc args) hs h
abbrev HI(w:World)(Is:List aI):Prop:=HS w (aN Is) Is w
abbrev CT{σ:Type}(P:Program)(n:FuncId)(args:Array Value)(w:World)(Is:List aI)(rv:σ→Value)(φ:σ→Prop)(Os:σ→List aI):Prop:=
 Calls P n args w λe w'=> ∃x,e= .returned (rv x)∧φ x∧Turn Is (Os x) w w'
abbrev CQ(P:Program)(n:FuncId)(args:Array Value)(w:World)(v:Value):Prop:=Calls P n args w λe w'=>e= .returned v∧Fr [] w w'
end
section
variable{P:Program}{Q:Exit→Wy}{n:Nat}{env:aT}{w0:World}{S:E6}{H:List aI}{o:Oper}{ops:Zb}{K G:Wy}
theorem dQ(i:Nat)(vs:Za){t ty:TypeId}{x y:Operand}{off:Nat}{u:Value}{cs:Za}(hi:H[i]? =some (aA b cs ty))(h:A n env w0 S (H.set i<|aA b (cs.take off++vs++cs.drop (off+vs.length)) ty) K)
  (ho:o.op= .store t x y:=by rfl)(hok:ff ops n env o none=true:=by kernel_rfl)(hx:ev env x=some (.pointer<|some ⟨b,off,none⟩):=by rfl)
  (hy:ev env y=some u:=by rfl)(hu:u.cells=vs.toArray:=by rfl)(hsz:(P.info? t).map (·.size)=some vs.length:=by kernel_rfl)(h1:vs.all Value.oneCell'=true:=by rfl)(hin:Nat.ble (off+vs.length) cs.length=true:=by rfl):A n env w0 S H (cz P ops o K):=
 oV i (vs:=vs) _ hok ho hx hy hu hsz h1 hi hin rfl h
end
section
variable{P:Program}{Q:Exit→Wy}{n:Nat}{env:aT}{w0:World}{S:E6}{H HB R:List aI}{o:Oper}{ops:Zb}{K G:Wy}{f:Nat}{L:E6}{listed:Array Bool}{rest:List Oper}
theorem JM: ∀(is:E6)(H:List aI),List.Sublist (lB is H) H
 |[],_=> .refl _
 |i::is,H=>(JM is<|H.eraseIdx i).trans (List.eraseIdx_sublist H i)
theorem sd(is:E6)(h:lB is H=HB:=by kernel_rfl):List.Sublist HB H:=h▸JM is H
theorem bF(i:Nat)(hi:ops[i]? =some o)(h:A n env w0 S H (cz P ops o<|λa w=> ∃S':World→Prop,(∀w w',S' w→Fr [] w w'→S' w')∧S' w∧U2 P ops K f L S' (listed.setIfInBounds i true) a w))(hr:Region.ready .any ops listed=[i]:=by kernel_rfl):A n env w0 S H (U2 P ops K (f+1) (i::L) (HS w0 S H) listed):=yQ i hi hr h
theorem gR(i:Nat)(hi:ops[i]? =some o)(h:A n env w0 S H (cz P ops o<|λa w=> ∃S':World→Prop,(∀w w',S' w→Fr [] w w'→S' w')∧(∀w,S' w→HS w0 S HB w)∧S' w∧U3 P ops K (HS w0 S HB) f L S' (listed.setIfInBounds i true) a w))(hr:Region.ready .any ops listed=[i]:=by kernel_rfl):A n env w0 S H (U3 P ops K (HS w0 S HB) (f+1) (i::L) (HS w0 S H) listed):=ZD i hi hr h
theorem eN(h:A n env w0 S H K)(hr:Region.ready .any ops listed=[]:=by kernel_rfl):A n env w0 S H (U2 P ops K f L (HS w0 S H) listed):=yV hr h
theorem je{B:World→Prop}(h:A n env w0 S H K)(hr:Region.ready .any ops listed=[]:=by kernel_rfl):A n env w0 S H (U3 P ops K B f L (HS w0 S H) listed):=Ys hr h
variable{l:List Oper}
theorem bY{id:Nat}(L:E6)(k:Nat)(h:A n env w0 S H (U2 P l.toArray (Q .normal) k L (HS w0 S H)<|Array.replicate k false))(hk:(Nat.beq l.length k&&P.follows .mixedOrders)=true:=by kernel_rfl):A n env w0 S H ((Code.region id l.toArray true).wp P Q):=yS L k hk h
theorem jx{id:Nat}(L:E6)(k:Nat)(HB:List aI)(h:A n env w0 S H (U3 P l.toArray (Q .normal) (HS w0 S HB) k L (HS w0 S H)<|Array.replicate k false))(hk:(Nat.beq l.length k&&P.follows .mixedOrders)=true:=by kernel_rfl):A n env w0 S H ((Code.region id l.toArray true).wp P Q):=Yl L k HB hk h
variable{fn:Func}
theorem eM(d:Option Nat){f:FuncId}{c:Code}(args:Za)(hfn:P.funcs[f]? =some fn)(hb:fn.body=some c)(h:V.A fn.ntmps (uO args) w0 S H (c.wp P<|bodyPost P fn<|xy n env d K))(hx:pR env o=some (f,args):=by rfl)(hok:(ff ops n env o d&&nE P f&&Nat.ble args.length fn.ntmps)=true:=by kernel_rfl):V.A n env w0 S H (cz P ops o K):=
 ZB d args _ hok hx hfn hb rfl h
theorem Y7: ∀{d:Option Nat},(d.map λx=>Nat.blt x n).getD true=true→(match d with|some x=>Nat.blt x n|none=>true)=true
 |some _,h=>h
 |none,_=>rfl
theorem d6{m:Nat}{env':aT}{d:Option Nat}(vs:Za)(h:V.A n (putE env d<|mS vs) w0 S H K)(ho:uM fn.results.toList=true:=by kernel_rfl)(hv:qH env' (sP fn.results.toList)=vs.map some:=by kernel_rfl)(hd:(d.map λx=>Nat.blt x n).getD true=true:=by kernel_rfl):V.A m env' w0 S H (bodyPost P fn (xy n env d K) .ret):=
 tH vs (λ_ _ r _=>zW r ho hv) (pG (Y7 hd) h)
variable{x:Tmp}{t ty:TypeId}{off:Nat}{cs:Za}
theorem dS(i:Nat){a:Act}{vs:Za}(r:Rep n env a)(s:HS w0 S H w)(h:eo env x=some (.pointer<|some ⟨b,off,none⟩):=by rfl)(ht:np P t=some vs.length:=by kernel_rfl)(hi:H[i]? =some (aA b cs ty):=by rfl)(hv:(cs.drop off).take vs.length=vs:=by rfl):RV P w a (.cell x t) (.agg vs.toArray):=tQ r s h ht<|jL hi hv
theorem ez{v:Value}(i:Nat)(vs:Za)(hx:Value.agg vs.toArray=v)(hf:fn.results.toList=[.cell x t]:=by rfl)(h:eo env x=some (.pointer<|some ⟨b,off,none⟩):=by rfl)(ht:np P t=some vs.length:=by kernel_rfl)(hi:H[i]? =some (aA b cs ty):=by rfl)(hv:(cs.drop off).take vs.length=vs:=by rfl):
  V.A n env w [] H (bodyPost P fn (λe w'=>e= .returned v∧Fr [] w w') .ret):=
 fE [.agg vs.toArray] (λ_ _ r s=>by rw[hf];exact⟨tQ r s h ht<|jL hi hv,trivial⟩) hx
theorem pF{v:Value}{y:Tmp}(i:Nat)(vs:Za)(u:Value)(hx:mS [.agg vs.toArray,u]=v)(hf:fn.results.toList=[.cell x t,.tmp y]:=by rfl)(h:eo env x=some (.pointer<|some ⟨b,off,none⟩):=by rfl)(ht:np P t=some vs.length:=by kernel_rfl)(hi:H[i]? =some (aA b cs ty):=by rfl)(hv:(cs.drop off).take vs.length=vs:=by rfl)(hu:eo env y=some u:=by kernel_rfl):
  V.A n env w [] H (bodyPost P fn (λe w'=>e= .returned v∧Fr [] w w') .ret):=
 fE [.agg vs.toArray,u] (λ_ _ r s=>by rw[hf];exact⟨tQ r s h ht<|jL hi hv,cw r hu,trivial⟩) hx
variable{Is:List aI}
theorem OE{σ:Type}(is:E6)(φ:σ→Prop)(Os:σ→List aI)
  (hi: ∀w,HS w (aN Is) Is w→ ∃x,φ x∧(∀it∈Os x,it.holds w)∧(aN<|Os x).Nodup∧ ∀b∈aN (Os x),b∈aN Is)(hp:fh is H=some (Is,lB is H))(h: ∀x,φ x→V.A n env w0 S (jF (Os x)<|lB is H) G):V.A n env w0 S H G:=
 wO is φ Os _ hp hi (λ_=>rfl) (λx hx=>by rw[←AQ];exact h x hx)
theorem eQ(is:E6)(Os:List aI)(hp:fh is H=some (Is,lB is H))(hi: ∀w,HS w (aN Is) Is w→ ∃_:Unit,True∧(∀it∈Os,it.holds w)∧(aN Os).Nodup∧ ∀b∈aN Os,b∈aN Is)(h:V.A n env w0 S (jF Os<|lB is H) G):V.A n env w0 S H G:=
 wO is (λ_:Unit=>True) (λ_=>Os) _ hp hi (λ_=>rfl) (λ_ _=>by rw[←AQ];exact h)
variable{x y:Operand}{kv:List (κ×β)}
theorem gV[DecidableEq κ]{z:Operand}(kt et:TypeId)(i:Nat)(k:κ)(v:β)(hi:H[i]? =some (bH enck encv b kv))(hk:jk P kt enck)(h:V.A n env w0 S (H.set i<|bH enck encv b<|aJ kv k v) K)
  (hok:ff ops n env o none=true:=by kernel_rfl)(ho:o.op= .mapUpdate t x y z:=by rfl)(hx:ev env x=some (.map<|some b):=by rfl)(hy:ev env y=some (enck k):=by rfl)(hz:ev env z=some (encv v):=by rfl)(ht:P.underlying t=some (.map kt et):=by kernel_rfl):V.A n env w0 S H (cz P ops o K):=
 Gp i v _ hok ho hx hy hz ht hk hi rfl h
theorem qL[DecidableEq κ](kt et:TypeId)(k:κ)(d0:β)(hit: ∀w,HS w0 S H w→(bH enck encv b kv).holds w)(hk:jk P kt enck)(ho:o.op= .lookup t x y false:=by rfl)(hx:ev env x=some (.map<|some b):=by rfl)(hy:ev env y=some (enck k):=by rfl)
 (ht:P.underlying t=some (.map kt et):=by kernel_rfl)(hz:(P.info? et).bind (·.zero)=some (encv d0):=by kernel_rfl):Qt P n env w0 S H o (encv<|(aB kv k).getD d0):=kg hit ho hx hy ht hk hz rfl
theorem vv[DecidableEq κ](kt et:TypeId)(k:κ)(d0:β)(hit: ∀w,HS w0 S H w→(bH enck encv b kv).holds w)(hk:jk P kt enck)(ho:o.op= .lookup t x y true:=by rfl)(hx:ev env x=some (.map<|some b):=by rfl)(hy:ev env y=some (enck k):=by rfl)
 (ht:P.underlying t=some (.map kt et):=by kernel_rfl)(hz:(P.info? et).bind (·.zero)=some (encv d0):=by kernel_rfl):Qt P n env w0 S H o (.tuple #[encv<|(aB kv k).getD d0,.bool (aB kv k).isSome]):=pH hit ho hx hy ht hk hz rfl
theorem qM(i:Nat){it:aI}(hi:H[i]? =some it): ∀w,HS w0 S H w→it.holds w:=λ_ s=>s.mem hi
variable{enc:α→Za}{xs:List α}{a:k0}
theorem jV{sz c:Nat}(i m:Nat)(he: ∀x,(enc x).length=sz)(hh:H[i]? =some (sl a xs.length c t sz<|aP enc xs))(hi:m<xs.length)(hz:0<sz:=by decide):(Ob.ix a xs.length (m:Int)).at ⟨P,w0,S,H⟩:=dh he hz (bW hh) hi
theorem Y8{sz c:Nat}{x:α}(i m:Nat)(vs:Za)(he: ∀x,(enc x).length=sz)(hh:H[i]? =some (sl a n c t sz<|aP enc xs))(hx:xs[m]? =some x)(hf:Nat.ble vs.length sz=true:=by rfl)(hv:(enc x).take vs.length=vs:=by rfl):(Ob.rd ((au a).add (m*sz)) vs).at ⟨P,w0,S,H⟩:=dr he (bW hh) hx (Nat.le_of_ble_eq_true hf) hv
end
section
variable{κ:Cx}
end
section
variable{P:Program}{Q:Exit→Wy}{n:Nat}{env:aT}{w0:World}{S:E6}{H HB R:List aI}{o:Oper}{ops:Zb}{K G:Wy}{L:E6}{listed:Array Bool}{rest:List Oper}{os:List Ob}{f':Nat}
theorem da(hs:List Hn)(E:aT)(h:A n E w0 S H (Q .normal))(hx:XF P ops n hs rest env H E H T0:=by show _=_;kernel_rfl):A n env w0 S H (wpList P ops Q rest):=rK hs _ _ _ hx trivial h
theorem jK(hs:List Hn)(E:aT)(hc:gC ⟨P,w0,S,H⟩ os)(h:A n E w0 S H (Q .normal))(hx:XF P ops n hs rest env H E H (λκ=>gC κ os):=by show _=_;kernel_rfl):A n env w0 S H (wpList P ops Q rest):=rK hs _ _ _ hx hc h
theorem k9(hs:List Hn)(E:aT)(h:A n E w0 S H (wpList P ops Q<|rest.drop<|kn hs))(hx:XP P ops n hs rest env H E T0:=by show _=_;kernel_rfl):A n env w0 S H (wpList P ops Q rest):=Bg hs _ _ hx trivial h
theorem Bv(hs:List Hn)(E:aT)(hc:gC ⟨P,w0,S,H⟩ os)(h:A n E w0 S H (wpList P ops Q<|rest.drop<|kn hs))(hx:XP P ops n hs rest env H E (λκ=>gC κ os):=by show _=_;kernel_rfl):A n env w0 S H (wpList P ops Q rest):=Bg hs _ _ hx hc h
theorem wN(f:Nat)(hs:List Hn)(order:E6)(E:aT)(h:A n E w0 S H (U2 P ops K f L (HS w0 S H)<|jg listed order))
 (hx:XD jh (Nat.beq f'<|f+order.length) P ops n L hs order listed env H E T0:=by show _=_;kernel_rfl):A n env w0 S H (U2 P ops K f' L (HS w0 S H) listed):=Bm f hs order E T0 hx trivial h
theorem Bt(f:Nat)(hs:List Hn)(order:E6)(E:aT)(hc:gC ⟨P,w0,S,H⟩ os)(h:A n E w0 S H (U2 P ops K f L (HS w0 S H)<|jg listed order))
 (hx:XD jh (Nat.beq f'<|f+order.length) P ops n L hs order listed env H E (λκ=>gC κ os):=by show _=_;kernel_rfl):A n env w0 S H (U2 P ops K f' L (HS w0 S H) listed):=Bm f hs order E _ hx hc h
theorem OI(hs:List Hn)(E:aT)(H':List aI)(h:A n E w0 S H' (Q .normal))(hx:XF P ops n hs rest env H E H' T0:=by show _=_;kernel_rfl):A n env w0 S H (wpList P ops Q rest):=rK hs _ _ _ hx trivial h
theorem jI{os:Nat→List Ob}(hs:List Hn)(ds:E6)(ad:Nat→aT)(is:Nat→List (Nat×aI))(N:Nat→aI)(hc: ∀b,gC ⟨P,w0,S,H⟩<|os b)(h: ∀b,A n (dl ds (ad b) env) w0 S (jF (lk (is b) H) [N b])<|Q .normal)(hx: ∀b,XB P ops n (dJ<|dl ds (ad b) env) hs rest [b] env H (dl ds (ad b) env) (jF (lk (is b) H) [N b]) (λκ=>gC κ<|os b):=by intro _;show _=_;kernel_rfl)(hi: ∀b,dJ (dl ds (ad b) env)=dJ (dl ds (ad 0) env):=by intro _;kernel_rfl):A n env w0 S H (wpList P ops Q rest):=Bl hs _ _ _ hx hi hc h
theorem Gj(f:Nat)(hs:List Hn)(order:E6)(ds:E6)(ad:aT)(h:A n (dl ds ad env) w0 S H (U2 P ops K f L (HS w0 S H)<|jg listed order))
 (hx:XD jh (Nat.beq f'<|f+order.length) P ops n L hs order listed env H (dl ds ad env) T0:=by show _=_;kernel_rfl):A n env w0 S H (U2 P ops K f' L (HS w0 S H) listed):=Bm f hs order _ T0 hx trivial h
theorem iL(f:Nat)(hs:List Hn)(order:E6)(E:aT)(hBH:List.Sublist HB H)(h:A n E w0 S H (U3 P ops K (HS w0 S HB) f L (HS w0 S H)<|jg listed order))
 (hx:XD qQ (Nat.beq f'<|f+order.length) P ops n L hs order listed env HB E T0:=by show _=_;kernel_rfl):A n env w0 S H (U3 P ops K (HS w0 S HB) f' L (HS w0 S H) listed):=OH f hs order E T0 hx hBH trivial h
theorem tG(f:Nat)(hs:List Hn)(order:E6)(E:aT)(hBH:List.Sublist HB H)(hc:gC ⟨P,w0,S,HB⟩ os)(h:A n E w0 S H (U3 P ops K (HS w0 S HB) f L (HS w0 S H)<|jg listed order))
 (hx:XD qQ (Nat.beq f'<|f+order.length) P ops n L hs order listed env HB E (λκ=>gC κ os):=by show _=_;kernel_rfl):A n env w0 S H (U3 P ops K (HS w0 S HB) f' L (HS w0 S H) listed):=OH f hs order E _ hx hBH hc h
theorem cC(d:Option Nat)(v:Value)(hq:Qt P n env w0 S H o v)(h:A n (putE env d v) w0 S H K)(hok:ff ops n env o d=true:=by kernel_rfl):A n env w0 S H (cz P ops o K):=Bj d v hok hq h
theorem Gn{t ty:TypeId}{x y:Operand}{a:k0}{c sz:Nat}{u:Value}{enc:α→Za}{xs:List α}(i k:Nat)(v:α)(hi:H[i]? =some (sl a xs.length c ty sz<|aP enc xs))(he: ∀x,(enc x).length=sz)(hk:k<xs.length)(h:V.A n env w0 S (H.set i<|sl a (xs.set k v).length c ty sz (aP enc<|xs.set k v)) K)
  (ho:o.op= .store t x y:=by rfl)(hok:ff ops n env o none=true:=by kernel_rfl)(hx:ev env x=some (.pointer<|some<|(au a).add (k*sz)):=by rfl)(hy:ev env y=some u:=by rfl)(hu:u.cells=(enc v).toArray:=by rfl)(hsz:(P.info? t).map (·.size)=some sz:=by kernel_rfl)(h1:(enc v).all Value.oneCell'=true:=by rfl)(hz:0<sz:=by decide):V.A n env w0 S H (cz P ops o K):=
 Yn i k v _ hok ho hx hy hu hsz h1 he hz hi hk rfl h
end
abbrev CV{σ:Type}(n:FuncId)(args:Array Value)(w:World)(Is:List aI)(rv:σ→Value)(φ:σ→Prop)(Os:σ→List aI):Prop:=CT Tryz.prog n args w Is rv φ Os
abbrev CW(n:FuncId)(args:Array Value)(w:World)(v:Value):Prop:=CQ Tryz.prog n args w v
abbrev CS{σ:Type}(n:FuncId)(args:Array Value)(Is:List aI)(rv:σ→Value)(φ:σ→Prop)(Os:σ→List aI):Prop:= ∀w:World,HI w Is→CT Tryz.prog n args w Is rv φ Os
section
variable{P:Program}{Q:Exit→Wy}{n:Nat}{env:aT}{w0:World}{S:E6}{H:List aI}{ops:Zb}{rest:List Oper}{os:List Ob}
theorem CC(hs:List Hn)(E:aT)(is:List (Nat×aI))(h:A n E w0 S (lk is H) (Q .normal))(hx:XF P ops n hs rest env H E (lk is H) T0:=by show _=_;kernel_rfl):A n env w0 S H (wpList P ops Q rest):=rK hs _ _ _ hx trivial h
end
section
variable{P:Program}{Q:Exit→Wy}{n:Nat}{env:aT}{w0:World}{S:E6}{H:List aI}{ops:Zb}{rest:List Oper}
def rg:Nat→Nat→List Nat
 |_,0=>[]
 |a,n+1=>a::rg (a+1) n
def ps:Nat→List Hn
 |0=>[]
 |n+1=> .p::ps n
theorem yR(hs:List Hn)(E:Nat→aT)(is:Nat→List (Nat×aI))(N:Nat→aI)(h: ∀b,A n (E b) w0 S (jF (lk (is b) H) [N b])<|Q .normal)(hx: ∀b,XB P ops n (dJ<|E b) hs rest [b] env H (E b) (jF (lk (is b) H) [N b]) T0:=by intro _;show _=_;kernel_rfl)(hi: ∀b,dJ (E b)=dJ (E 0):=by intro _;kernel_rfl):A n env w0 S H (wpList P ops Q rest):=Bl hs _ _ (λ_=>T0) hx hi (λ_=>trivial) h
end
section
variable{P:Program}{Q:Exit→Wy}{n:Nat}{env:aT}{w0:World}{S:E6}{H:List aI}{ops:Zb}{rest:List Oper}{os:List Ob}{K:Wy}{f':Nat}{L:E6}{listed:Array Bool}{x:List Oper}{y z:Code}{id:Nat}{o:Oper}
theorem aQ(ad:aT)(h:A n (dl [] ad env) w0 S H (Q .normal))(hx:XF P ops n [] rest env H (dl [] ad env) H T0:=by show _=_;kernel_rfl):A n env w0 S H (wpList P ops Q rest):=db [] [] ad h hx
theorem bB(hs:List Hn)(ad:aT)(h:A n (dl [] ad env) w0 S H (Q .normal))(hx:XF P ops n hs rest env H (dl [] ad env) H T0:=by show _=_;kernel_rfl):A n env w0 S H (wpList P ops Q rest):=db hs [] ad h hx
theorem aj(hs:List Hn)(ad:aT)(hc:gC ⟨P,w0,S,H⟩ os)(h:A n (dl [] ad env) w0 S H (Q .normal))(hx:XF P ops n hs rest env H (dl [] ad env) H (λκ=>gC κ os):=by show _=_;kernel_rfl):A n env w0 S H (wpList P ops Q rest):=lH hs [] ad hc h hx
theorem cV(hs:List Hn)(ad:aT)(h:A n (dl [] ad env) w0 S H (wpList P ops Q<|rest.drop<|kn hs))(hx:XP P ops n hs rest env H (dl [] ad env) T0:=by show _=_;kernel_rfl):A n env w0 S H (wpList P ops Q rest):=gK hs [] ad h hx
theorem jJ(hs:List Hn)(ad:aT)(hc:gC ⟨P,w0,S,H⟩ os)(h:A n (dl [] ad env) w0 S H (wpList P ops Q<|rest.drop<|kn hs))(hx:XP P ops n hs rest env H (dl [] ad env) (λκ=>gC κ os):=by show _=_;kernel_rfl):A n env w0 S H (wpList P ops Q rest):=u1 hs [] ad hc h hx
theorem bL(hs:List Hn)(ad:aT)(is:List (Nat×aI))(h:A n (dl [] ad env) w0 S (lk is H) (Q .normal))(hx:XF P ops n hs rest env H (dl [] ad env) (lk is H) T0:=by show _=_;kernel_rfl):A n env w0 S H (wpList P ops Q rest):=gl hs [] ad is h hx
theorem cQ(f:Nat)(hs:List Hn)(order:E6)(ad:aT)(h:A n (dl [] ad env) w0 S H (U2 P ops K f L (HS w0 S H)<|jg listed order))
 (hx:XD jh (Nat.beq f'<|f+order.length) P ops n L hs order listed env H (dl [] ad env) T0:=by show _=_;kernel_rfl):A n env w0 S H (U2 P ops K f' L (HS w0 S H) listed):=Gj f hs order [] ad h hx
theorem eR(f:Nat)(hs:List Hn)(order:E6)(ad:aT)(hc:gC ⟨P,w0,S,H⟩ os)(h:A n (dl [] ad env) w0 S H (U2 P ops K f L (HS w0 S H)<|jg listed order))
 (hx:XD jh (Nat.beq f'<|f+order.length) P ops n L hs order listed env H (dl [] ad env) (λκ=>gC κ os):=by show _=_;kernel_rfl):A n env w0 S H (U2 P ops K f' L (HS w0 S H) listed):=Ym f hs order [] ad hc h hx
theorem aE(ad:aT)(h:A n (dl [] ad env) w0 S H (y.wp P Q))(hx:XF P x.toArray n [] x env H (dl [] ad env) H T0:=by show _=_;kernel_rfl):A n env w0 S H ((Code.seq (Code.region id x.toArray false) y).wp P Q):=aC<|db [] [] ad h hx
theorem bZ(ad:aT)(h:A n (dl [] ad env) w0 S H (Q .normal))(hx:XF P x.toArray n [] x env H (dl [] ad env) H T0:=by show _=_;kernel_rfl):A n env w0 S H ((Code.region id x.toArray false).wp P Q):=aM<|db [] [] ad h hx
theorem dF(hs:List Hn)(ad:aT)(hc:gC ⟨P,w0,S,H⟩ os)(h:A n (dl [] ad env) w0 S H (y.wp P Q))(hx:XF P x.toArray n hs x env H (dl [] ad env) H (λκ=>gC κ os):=by show _=_;kernel_rfl):A n env w0 S H ((Code.seq (Code.region id x.toArray false) y).wp P Q):=aC<|lH hs [] ad hc h hx
theorem bS(h:A n env w0 S H (wpList P x.toArray (Exit.then (y.wp P<|Exit.then (z.wp P Q) Q)<|Exit.then (z.wp P Q) Q) x)):A n env w0 S H ((Code.seq (Code.seq (Code.region id x.toArray false) y) z).wp P Q):=aD<|aC h
theorem az{J:Exit→Wy}(h:A n env w0 S H (y.wp P<|Exit.then (z.wp P Q) Q)):A n env w0 S H (Code.skip.wp P<|Exit.then ((Code.seq y z).wp P Q) J):=aO<|aD h
theorem dV(h:A n env w0 S H K){f:Nat}(hr:Region.ready .any ops listed=[]:=by kernel_rfl):A n env w0 S H (λa w=> ∃S':World→Prop,(∀w w',S' w→Fr [] w w'→S' w')∧S' w∧U2 P ops K f L S' listed a w):=cb<|eN h hr
end
section
variable{P:Program}{Q:Exit→Wy}{n:Nat}{env:aT}{w0:World}{S:E6}{H:List aI}{ops:Zb}{rest:List Oper}
variable{l:List Oper}
theorem OM{id:Nat}(hs:List Hn)(order:E6)(E:aT)(h:A n E w0 S H (Q .normal))(hm:P.follows .mixedOrders=true:=by kernel_rfl)
 (hx:XD jh (Nat.beq order.length l.length&&(Region.ready .any l.toArray<|jg (Array.replicate l.length false) order).isEmpty) P l.toArray n [] hs order (Array.replicate l.length false) env H E T0:=by show _=_;kernel_rfl):A n env w0 S H ((Code.region id l.toArray true).wp P Q):=Bh hs order _ T0 hm hx trivial h
theorem kN{id:Nat}(hs:List Hn)(order:E6)(ad:aT)(h:A n (dl [] ad env) w0 S H (Q .normal))(hm:P.follows .mixedOrders=true:=by kernel_rfl)
 (hx:XD jh (Nat.beq order.length l.length&&(Region.ready .any l.toArray<|jg (Array.replicate l.length false) order).isEmpty) P l.toArray n [] hs order (Array.replicate l.length false) env H (dl [] ad env) T0:=by show _=_;kernel_rfl):A n env w0 S H ((Code.region id l.toArray true).wp P Q):=Bh hs order _ T0 hm hx trivial h
theorem tC(hs:List Hn)(E:aT)(C:Cx→Prop)(hc:C ⟨P,w0,S,H⟩)(h:A n E w0 S H (Q .normal))(hx:XF P ops n hs rest env H E H C:=by show _=_;kernel_rfl):A n env w0 S H (wpList P ops Q rest):=rK hs _ _ _ hx hc h
end
section
variable{P:Program}{n:Nat}{env:aT}{w0:World}{S:E6}{H:List aI}{K:Wy}{o:Oper}{f:FuncId}{args:Za}{ops:Zb}
theorem qw{v:Value}(h: ∀w,Calls P f args.toArray w λe w'=>e= .returned v∧Fr [] w w'):(Ob.cq f args v).at ⟨P,w0,S,H⟩:=λw _=>h w
theorem b0{σ:Type}(d:Option Nat)(is:E6){Is:List aI}{rv:σ→Value}{φ:σ→Prop}{Os:σ→List aI}(hc: ∀w,HI w Is→CT P f args.toArray w Is rv φ Os)
 (h: ∀x,φ x→A n (putE env d<|rv x) w0 S (jF (Os x)<|lB is H) K)(hok:(ff ops n env o d&&nE P f)=true:=by kernel_rfl)(hx:pR env o=some (f,args):=by kernel_rfl)(hp:fh is H=some (Is,lB is H):=by kernel_rfl):A n env w0 S H (cz P ops o K):=dH d is (λw _ hh=>hc w hh) h hok hx hp
end
theorem eG:jk Tryz.prog 3 (λk:Int=>i_ k):=yh<|by kernel_rfl
abbrev wU(x:Int):Int:=IntKind.u64.wrap x
section
variable{P:Program}{Q:Exit→Wy}{n:Nat}{env:aT}{w0:World}{S:E6}{H:List aI}{ops:Zb}{rest:List Oper}{os:List Ob}
abbrev XN(P:Program)(ops:Zb)(n:Nat)(k:Nat)(hs:List Hn)(rest:List Oper)(env:aT)(H:List aI)(E:aT)(C:Cx→Prop):Prop:=XZ P ops n (dJ E) (fl (rest.take k) hs) (rest.take k) [] env H E H C 0
theorem Ny(k:Nat)(hs:List Hn)(E:aT)(C:Cx→Prop)(hx:XN P ops n k hs rest env H E C)(hc:C ⟨P,w0,S,H⟩)(h:A n E w0 S H (wpList P ops Q<|rest.drop k)):A n env w0 S H (wpList P ops Q rest):=
 xz (m:=0) (k:=k) (fl (rest.take k) hs) (dJ E) (λ_=>E) (λ_=>H) (λ_=>C) (λbs hb=>by
  obtain rfl:=List.eq_nil_of_length_eq_zero hb
  exact hx) (λ_ _=>hc) (λ_ _=>h)
theorem an(k:Nat)(hs:List Hn)(ad:aT)(h:A n (dl [] ad env) w0 S H (wpList P ops Q<|rest.drop k))(hx:XN P ops n k hs rest env H (dl [] ad env) T0:=by show _=_;kernel_rfl):A n env w0 S H (wpList P ops Q rest):=Ny k hs _ _ hx trivial h
theorem eI(k:Nat)(hs:List Hn)(ad:aT)(hc:gC ⟨P,w0,S,H⟩ os)(h:A n (dl [] ad env) w0 S H (wpList P ops Q<|rest.drop k))(hx:XN P ops n k hs rest env H (dl [] ad env) (λκ=>gC κ os):=by show _=_;kernel_rfl):A n env w0 S H (wpList P ops Q rest):=Ny k hs _ _ hx hc h
end
end Go.Proofs.YtobgjpigngoggaaGreat.V
