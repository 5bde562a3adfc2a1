/- Lemmas over the model, without conditions of their own: regions that draw (2), closed runs. -/
import Derived.Test.YtpfogalbnijcoaaGreatEvE
import Derived.RowKit3
import Derived.Below
open List renaming mem_cons->asS,mem_filter->atc,length_cons->asV,nil_append->as8,cons_append->atl,mem_iff_getElem?->au7,mem_range->auO,range'->aus
open Nat renaming testBit->asp,lt_trichotomy->avs,le_refl->ar8,le_trans->asq,lt_of_not_le->au4,zero_le->asT
open List.cons renaming inj->auG,injEq->as4
open Bool renaming and_eq_true->ar4,false_or->auj,not_true->au0
open Classical renaming byContradiction->asO
open Option renaming isSome_iff_exists->auM,map_some->asy,getD_some->asW
open Go.Region renaming ready->auk,binds->atT
open Array renaming getElem?_eq_getElem->asw,getD_eq_getD_getElem?->atk,all_eq_true'->awm,getElem?_toList->at0,replicate->atp
open Option.some renaming inj->auU
open Go.Fence renaming wide->asB
open Option renaming some->aa,none->ah
open Bool renaming true->ab,false->af
set_option linter.all false
namespace Go.Ev
variable{P:Program}{S:Nat->Self}{ro:Nat}{ops:Array Oper}{pl:dR}{D:Nat->DS}{N:Nat}[Sm]
structure Made(ops:Array Oper)(D:Nat->DS)(p:Piece):Prop where
 lt:p.j<ops.size
 lo:p.lo=(D p.j).n
 hi:p.hi=(D (p.j+1)).n
 aH:(D (p.j+1)).aH=p::(D p.j).aH
def S_(ops:Array Oper)(pl:dR)(D:Nat->DS)(i:Nat):Prop:=bc pl i=.effect/\∃o,ops[i]?=aa o/\aO o ops (D i).e=ab
def te(ops:Array Oper)(pl:dR)(D:Nat->DS)(A:Nat->Prop)(q:Nat):Prop:=∀i,A i->S_ ops pl D i->¬jh pl i q
def fR(l:List (Nat×T Ob)):T Ob:=match l with|(_,b)::_=>b|[]=>.lf
theorem Tr.aH(ht:Tr P S pl ro ops D)(ho:pn ops pl)(h0:(D 0).aH=[]):∀j,j<=ops.size->∀p∈(D j).aH,Made ops D p/\p.j<j/\∀i,i<j->S_ ops pl D i->¬jh pl i p.j:=by
 intro j;induction j with
 |zero=>intro _ p hp;rw[h0]at hp;cases hp
 |succ j ih=>
  intro hj p hp;have hjs:j<ops.size:=by omega
  obtain⟨o,v,h1,_,_,hs⟩:=ht.OA hjs
  have cH:p∈(D j).aH->(S_ ops pl D j->¬jh pl j p.j)->Made ops D p/\p.j<j+1/\∀i,i<j+1->S_ ops pl D i->¬jh pl i p.j:=λhp hw=>by
   obtain⟨a,b,c⟩:=ih (by omega) p hp;refine⟨a,by omega,λi hi fS=>?_⟩;rcases Nat.lt_or_eq_of_le (Nat.le_of_lt_succ hi)with hi|rfl
   ·exact c i hi fS
   ·exact hw fS
  have new:∀σ:St,p=⟨j,(D j).n,σ.n,σ.t⟩->(D (j+1)).n=σ.n->(D (j+1)).aH=⟨j,(D j).n,σ.n,σ.t⟩::(D j).aH->Made ops D p/\p.j<j+1/\∀i,i<j+1->S_ ops pl D i->¬jh pl i p.j:=λσ DT hn jq=>by
   subst DT;refine⟨⟨hjs,rfl,hn.symm,jq⟩,Nat.lt_succ_self _,λi hi _ hb=>?_⟩;have:=afK ho i (by omega) _ hb;dsimp only at this;omega
  cases hs with
  |skip hw hv hn jq hk hb=>rw[jq]at hp;exact cH hp λh=>absurd h.1 hk
  |Fm hw hv hn jq hk=>
   rw[jq]at hp;refine cH hp λh=>?_;obtain⟨_,o',h2,h3⟩:=h;rw[h1]at h2;cases h2;rw[hw]at h3;cases h3
  |pure hw hk hn jq=>rw[jq]at hp;exact cH hp λh=>(by have:=h.1;rw[hk]at this;cases this)
  |load hw hk hn jq=>rw[jq]at hp;exact cH hp λh=>(by have:=h.1;rw[hk]at this;cases this)
  |alloc hw hk hb σ he hn jq=>
   have qV:=hp;rw[jq]at qV;rcases asS.1 qV with rfl|qV
   ·exact new σ rfl hn jq
   ·exact cH qV λh=>(by have:=h.1;rw[hk]at this;cases this)
  |call hw hk hb i0 b rest gk σ he hn jq=>
   have qV:=hp;rw[jq]at qV;rcases asS.1 qV with rfl|qV
   ·exact new σ rfl hn jq
   ·exact cH qV λh=>(by have:=h.1;rw[hk]at this;cases this)
  |effect hw hk i0 b rest gk σ he hn hb jq=>
   rw[jq,atc]at hp;refine cH hp.1 λ_ hb=>?_;have h2:=hp.2;unfold jh at hb;rw[hb]at h2;cases h2
theorem OC(ht:Tr P S pl ro ops D){p:Piece}(hp:Made ops D p):bc pl p.j≠.effect:=by
 intro hk;obtain⟨o,v,h1,_,_,hs⟩:=ht.OA hp.lt;have jq:=hp.aH;have len:=congrArg List.length jq;simp only[asV]at len;cases hs with
 |skip _ _ _ h=>rw[h]at len;omega
 |Fm _ _ _ h=>rw[h]at len;omega
 |pure _ h=>rw[hk]at h;cases h
 |load _ h=>rw[hk]at h;cases h
 |alloc _ h=>rw[hk]at h;cases h
 |call _ h=>rw[hk]at h;cases h
 |effect _ _ _ _ _ _ _ _ _ _ h=>
  rw[h]at len;have:=List.length_filter_le (λq=> !asp (pl.b_.getD p.j 0) q.j) (D p.j).aH;omega
theorem OD{p q:Piece}(hp:Made ops D p)(hq:Made ops D q)(h:p.j=q.j):p=q:=by
 have h1:=hp.aH;have h2:=hq.aH;rw[h,h2]at h1;exact(auG h1).1.symm
structure q3(ops:Array Oper)(pl:dR)(D:Nat->DS)(N ro:Nat)(gz:Io)(w0:World)(ef:St)(A:Nat->Prop)(m:Nat)(e:Env)(ι:Io)(cur:Nat->Option Ob)(w:World):Prop where
 sub:∀i,A i->i<ops.size
 closed:∀j,A j->∀i,jh pl j i->A i
 env:tb ops D A e
 OE:m<=ops.size
 LD:∀i,i<ops.size->bc pl i=.effect->(A i↔i<m)
 last:m=0\/∃i,m=i+1/\A i/\bc pl i=.effect
 wC:zi ro (D ops.size).n gz w0 ef (λid=>(∃j,j<ops.size/\¬A j/\(D j).n<=id/\id<(D (j+1)).n)\/((D ops.size).n<=id/\id<N)) ι cur w
 piece:∀p,Made ops D p->A p.j->te ops pl D A p.j->∀id o,p.lo<=id->id<p.hi->p.t.get id=aa o->cur id=aa o
 base:∀id o,(fR (D m).bs).get id=aa o->cur id=aa o
 J9:∀p,Made ops D p->te ops pl D A p.j->∀id,p.lo<=id->id<p.hi->(fR (D m).bs).get id=ah
 top:∀id,(D m).n<=id->(fR (D m).bs).get id=ah
 low:∀id,id<ro->id<ef.n->(fR (D m).bs).get id=ef.at id
section phi
variable{gz ι aG:Io}{w0 w w':World}{ef:St}{A:Nat->Prop}{m:Nat}{e:Env}{cur rS:Nat->Option Ob}
theorem q3.see(h:q3 ops pl D N ro gz w0 ef A m e ι cur w){j n':Nat}{aH:List Piece}(hb:∀i,jh pl j i->A i)(hp:∀p∈aH,Made ops D p/\te ops pl D A p.j/\p.hi<=n')(hn:(D m).n<=n'):
 (∀id o,(seen aH (pl.b_.getD j 0) (fR (D m).bs)).get id=aa o->cur id=aa o)/\(∀id,n'<=id->(seen aH (pl.b_.getD j 0) (fR (D m).bs)).get id=ah):=by
 refine⟨λid o hs=>?_,λid hid=>?_⟩
 ·rcases G9 hs with⟨p,DU,lu,h1,h2,h3⟩|hs
  ·obtain⟨a,b,_⟩:=hp p DU;exact h.piece p a (hb _ lu) b id o h1 h2 h3
  ·exact h.base id o hs
 ·cases hs:(seen aH (pl.b_.getD j 0) (fR (D m).bs)).get id with
  |none=>rfl
  |some o=>
   rcases G9 hs with⟨p,DU,lu,h1,h2,h3⟩|hs
   ·obtain⟨_,_,c⟩:=hp p DU;omega
   ·rw[h.top id (by omega)]at hs;cases hs
theorem te.less{A':Nat->Prop}{q:Nat}(h:te ops pl D A' q)(hA:∀i,A i->A' i):te ops pl D A q:=λi hi=>h i (hA i hi)
theorem q3.next(h:q3 ops pl D N ro gz w0 ef A m e ι cur w)(ht:Tr P S pl ro ops D)(hc:∀j,bX (S j))(hk:∀j,bF (S j)){j:Nat}{e':Env}(hj:j<ops.size)(mY:¬A j)(hb:∀i,jh pl j i->A i)(fH:bc pl j≠.effect)
 (he:tb ops D (λi=>A i\/i=j) e'){Fr:Nat->Prop}(lr:zi ro (D ops.size).n gz w0 ef Fr aG rS w')
 (uj:∀id,((∃i,i<ops.size/\¬(A i\/i=j)/\(D i).n<=id/\id<(D (i+1)).n)\/((D ops.size).n<=id/\id<N))->Fr id)
 (afL:∀id o,¬((D j).n<=id/\id<(D (j+1)).n)->cur id=aa o->rS id=aa o)(hr:(D (j+1)).n=(D j).n\/∃p,Made ops D p/\p.j=j)
 (jq:∀p,Made ops D p->p.j=j->∀id o,p.lo<=id->id<p.hi->p.t.get id=aa o->rS id=aa o):q3 ops pl D N ro gz w0 ef (λi=>A i\/i=j) m e' aG rS w' where
 sub:=λi hi=>hi.elim (h.sub i) (λx=>x▸hj)
 closed:=λi hi q hq=>hi.elim (λhi=>.inl (h.closed i hi q hq)) (λx=>.inl (hb q (x▸hq)))
 env:=he
 OE:=h.OE
 LD:=λi hi q4=>by
  rw[<-h.LD i hi q4];exact⟨λx=>x.elim id (λx=>absurd (x▸q4) fH),.inl⟩
 last:=h.last.imp id (λ⟨i,h1,h2,h3⟩=>⟨i,h1,.inl h2,h3⟩)
 wC:=lr.fr uj
 piece:=λp hp hA hu id o h1 h2 h3=>by
  by_cases n9:p.j=j
  ·exact jq p hp n9 id o h1 h2 h3
  ·refine afL id o (λhx=>?_) (h.piece p hp (hA.resolve_right n9) (hu.less λ_ x=>.inl x) id o h1 h2 h3);rw[hp.lo]at h1;rw[hp.hi]at h2;exact n9 (ht.apart hc hk hp.lt hj ⟨h1,h2⟩ hx)
 base:=λid o hg=>by
  refine afL id o (λhx=>?_) (h.base id o hg);rcases hr with hr|⟨p,hp,n9⟩
  ·omega
  ·have:=h.J9 p hp (λi hi _ N3=>mY (h.closed i hi j (n9▸N3))) id (by rw[hp.lo,n9];exact hx.1) (by rw[hp.hi,n9];exact hx.2);rw[this]at hg;cases hg
 J9:=λp hp hu=>h.J9 p hp (hu.less λ_ x=>.inl x)
 top:=h.top
 low:=h.low
theorem q3.acI(h:q3 ops pl D N ro gz w0 ef A m e ι cur w){j:Nat}{e':Env}(hj:j<ops.size)(hb:∀i,jh pl j i->A i)(fH:bc pl j=.effect)(wh:∀i,i<ops.size->bc pl i=.effect->(A i↔i<j))
 (he:tb ops D (λi=>A i\/i=j) e'){Fr:Nat->Prop}(lr:zi ro (D ops.size).n gz w0 ef Fr aG rS w')
 (uj:∀id,((∃i,i<ops.size/\¬(A i\/i=j)/\(D i).n<=id/\id<(D (i+1)).n)\/((D ops.size).n<=id/\id<N))->Fr id)
 (jq:∀p,Made ops D p->p.j≠j->A p.j->te ops pl D (λi=>A i\/i=j) p.j->∀id o,p.lo<=id->id<p.hi->cur id=aa o->rS id=aa o)(aZ:∀p,Made ops D p->p.j≠j)
 (Vv:∀id o,(fR (D (j+1)).bs).get id=aa o->rS id=aa o)
 (ajd:∀p,Made ops D p->te ops pl D (λi=>A i\/i=j) p.j->∀id,p.lo<=id->id<p.hi->(fR (D (j+1)).bs).get id=ah)
 (Ha:∀id,(D (j+1)).n<=id->(fR (D (j+1)).bs).get id=ah)(anq:∀id,id<ro->id<ef.n->(fR (D (j+1)).bs).get id=ef.at id):
 q3 ops pl D N ro gz w0 ef (λi=>A i\/i=j) (j+1) e' aG rS w' where
 sub:=λi hi=>hi.elim (h.sub i) (λx=>x▸hj)
 closed:=λi hi q hq=>hi.elim (λhi=>.inl (h.closed i hi q hq)) (λx=>.inl (hb q (x▸hq)))
 env:=he
 OE:=hj
 LD:=λi hi q4=>by
  constructor
  ·intro x;rcases x with x|rfl
   ·have:=(wh i hi q4).1 x;omega
   ·omega
  ·intro x;by_cases mX:i=j
   ·exact .inr mX
   ·exact .inl ((wh i hi q4).2 (by omega))
 last:=.inr ⟨j,rfl,.inr rfl,fH⟩
 wC:=lr.fr uj
 piece:=λp hp hA hu id o h1 h2 h3=>jq p hp (aZ p hp) (hA.resolve_right (aZ p hp)) hu id o h1 h2 (h.piece p hp (hA.resolve_right (aZ p hp)) (hu.less λ_ x=>.inl x) id o h1 h2 h3)
 base:=Vv
 J9:=ajd
 top:=Ha
 low:=anq
end phi
end Go.Ev
namespace Go.Ev
variable{P:Program}{S:Nat->Self}{ro:Nat}{ops:Array Oper}{pl:dR}{D:Nat->DS}{N:Nat}[Sm]
theorem LF{e:Env}{o:Oper}{n bits:Nat}{v:IV}{aH:List Piece}{b:T Ob}(h:loadAt P e o n v aH bits b=ab):
 ∃σ,av P n (ax e) o ⟨n,seen aH bits b⟩=aa (.val v σ)/\σ.n=n:=by
 unfold loadAt at h;split at h
 ·rename_i u σ he;simp only[ar4]at h;rw[Sm.ok _ _ h.2]at he;exact⟨σ,he,Nat.eq_of_beq_eq_true h.1⟩
 ·cases h
theorem Gv{e:Env}{o:Oper}{n bits:Nat}{v:IV}{aH:List Piece}{i:Nat}{b:T Ob}{rest:List (Nat×T Ob)}:∀{pre:List (Nat×T Ob)},lT P e o n v aH bits (pre++(i,b)::rest)=ab->
 (∀x∈pre,asp bits x.1≠ab)->loadAt P e o n v aH bits b=ab
 |[],h,_=>by
  simp only[as8,lT,ar4]at h;exact h.1
 |x::pre,h,hp=>by
  obtain⟨i',b'⟩:=x;simp only[atl,lT,ar4,Bool.or_eq_true]at h;exact Gv (h.2.resolve_left (hp (i',b') (by simp))) λy hy=>hp y (by simp[hy])
theorem XJ{i:Nat}{t:Tmp}(h:jg ops i=aa t):i<ops.size:=by
 unfold jg at h;cases ho:ops[i]? with
 |none=>rw[ho]at h;cases h
 |some o=>exact(Array.getElem?_eq_some_iff.1 ho).1
section step
variable{gz ι:Io}{w0 w:World}{ef:St}{A:Nat->Prop}{m:Nat}{e:Env}{cur:Nat->Option Ob}{j:Nat}
theorem q3.reads(h:q3 ops pl D N ro gz w0 ef A m e ι cur w)(ht:Tr P S pl ro ops D)(ho:pn ops pl)(hj:j<ops.size)(mY:¬A j)(hb:∀i,jh pl j i->A i):∀t∈Aj ops j,e.at t=(D j).e.at t:=by
 intro t hm;refine G_ h.env (ht.env ho j (by omega)) λi hd=>?_;have hi:=XJ hd;rcases avs i j with ai|rfl|ai
 ·refine⟨λ_=>ai,λ_=>asO λhn=>?_⟩;exact(ho.free i j ai hj (λhx=>hn (hb i hx))).1 t hd hm
 ·exact⟨λx=>absurd x mY,λx=>absurd x (by omega)⟩
 ·refine⟨λhA=>absurd hm ?_,λx=>by omega⟩;exact(ho.free j i ai hi (λhx=>mY (h.closed i hA j hx))).2.1 t hd
theorem q3.order(h:q3 ops pl D N ro gz w0 ef A m e ι cur w)(ht:Tr P S pl ro ops D)(ho:pn ops pl)(hj:j<ops.size)(mY:¬A j)(hb:∀i,jh pl j i->A i)(fH:bc pl j=.effect\/bc pl j=.call):
 (∀i,i<ops.size->bc pl i=.effect->(A i↔i<j))/\m<=j/\(D j).bs=(D m).bs:=by
 have h1:∀i,i<ops.size->bc pl i=.effect->(A i↔i<j):=by
  intro i hi q4;rcases avs i j with ai|rfl|ai
  ·refine⟨λ_=>ai,λ_=>asO λhn=>?_⟩;have:=(ho.free i j ai hj (λhx=>hn (hb i hx))).2.2;rw[q4]at this;rcases fH with fH|fH<;>(rw[fH]at this;cases this)
  ·exact⟨λx=>absurd x mY,λx=>absurd x (by omega)⟩
  ·refine⟨λhA=>?_,λx=>by omega⟩;have:=(ho.free j i ai hi (λhx=>mY (h.closed i hA j hx))).2.2;rw[q4]at this;rcases fH with fH|fH<;>(rw[fH]at this;cases this)
 have h2:m<=j:=by
  rcases h.last with hm|⟨i,hm,hA,q4⟩
  ·omega
  ·have:=(h1 i (h.sub i hA) q4).1 hA;omega
 refine⟨h1,h2,ht.OB h2 (by omega) λi OF XK q4=>?_⟩;have:=(h1 i (by omega) q4).2 XK;have:=(h.LD i (by omega) q4).1 this;omega
theorem Tr.aje(ht:Tr P S pl ro ops D)(hj:j<ops.size):(D j).bs≠[]:=by
 obtain⟨_,_,_,_,h,_⟩:=ht.OA hj;exact h
theorem q3.ajf(h:q3 ops pl D N ro gz w0 ef A m e ι cur w)(ht:Tr P S pl ro ops D)(ho:pn ops pl)(hc:∀j,bX (S j))(hk:∀j,bF (S j))(h0:(D 0).aH=[])(hj:j<ops.size)(mY:¬A j)(hb:∀i,jh pl j i->A i)
 {o:Oper}{v:IV}(me:ops[j]?=aa o)(hw:aO o ops (D j).e=ab)(fH:bc pl j=.load)(hej:(D (j+1)).e=(D j).e.put o.dst v)
 {i0:Nat}{b:T Ob}{rest:List (Nat×T Ob)}(gk:(D j).bs=(i0,b)::rest){σ:St}(he:av P (D j).n (ax (D j).e) o ⟨(D j).n,seen (D j).aH (pl.b_.getD j 0) b⟩=aa (.val v σ))(kJ:σ.n=(D j).n)
 (hl:(asp (pl.b_.getD j 0) i0||lT P (D j).e o (D j).n v (D j).aH (pl.b_.getD j 0) rest)=ab):
 ∃aH n' u ao,av P n' (ax e) o ⟨n',seen aH (pl.b_.getD j 0) (fR (D m).bs)⟩=aa (.val u ao)/\ao.n=n'/\(∀p∈aH,Made ops D p/\te ops pl D A p.j/\p.hi<=n')/\(D m).n<=n'/\e.put o.dst u=e.put o.dst v:=by
 have jC:=h.reads ht ho hj mY hb;have oJ:e.n=(D j).e.n:=by rw[h.env.n,(ht.env ho j (by omega)).n]
 by_cases Ik:m<=j
 ·have jq:∀p∈(D j).aH,Made ops D p/\te ops pl D A p.j/\p.hi<=(D j).n:=by
   intro p hp;obtain⟨a,b,c⟩:=ht.aH ho h0 j (by omega) p hp;refine⟨a,λi hA Gw=>c i ?_ Gw,by rw[a.hi];exact ht.fG hc hk b (by omega)⟩;have:=(h.LD i (h.sub i hA) Gw.1).1 hA;omega
  have Nu:=λ(n':Nat) (σ:St)=>p6 (P:=P) (ro:=n') (σ:=σ) (tc me jC oJ).1;obtain⟨pre,OG,vL⟩:=ht.LC Ik (by omega:j<=ops.size);cases pre with
  |nil=>
   have qu:fR (D m).bs=b:=by
    rw[as8]at OG;rw[<-OG,gk];rfl
   exact⟨(D j).aH,(D j).n,v,σ,by rw[Nu,qu];exact he,kJ,jq,ht.fG hc hk Ik (by omega),rfl⟩
  |cons x pre=>
   obtain⟨i1,b1,Nv,Gq⟩:∃i1 b1 Nv,(D m).bs=(i1,b1)::Nv:=by
    cases hx:(D m).bs with
    |nil=>exact absurd hx (ht.aje (by omega))
    |cons y ys=>exact⟨y.1,y.2,ys,rfl⟩
   have nob:∀y∈x::pre,asp (pl.b_.getD j 0) y.1≠ab:=by
    intro y hy lu;obtain⟨g1,g2,g3⟩:=vL y hy;have:=(h.LD y.1 (by omega) g3).1 (hb y.1 lu);omega
   rw[gk]at OG;simp only[atl,as4]at OG;obtain⟨hx,gg⟩:=OG
   have LA:asp (pl.b_.getD j 0) i0=af:=by
    have:=nob x (by simp);rw[<-hx]at this;simpa using this
   rw[LA,auj,gg,Gq]at hl;obtain⟨ao,h1,h2⟩:=LF (Gv hl λy hy=>nob y (by simp[hy]));refine⟨(D j).aH,(D j).n,v,ao,?_,h2,jq,ht.fG hc hk Ik (by omega),rfl⟩;rw[Nu,Gq];exact h1
 ·obtain⟨i,hmi,hA,q4⟩:∃i,m=i+1/\A i/\bc pl i=.effect:=h.last.resolve_left (by omega);have hi:=h.sub i hA;have mX:i≠j:=λhx=>mY (hx▸hA);have ai:j<i:=by omega
  have ajg:¬jh pl i j:=λhx=>mY (h.closed i hA j hx)
  have jq:∀p∈(D m).aH,Made ops D p/\te ops pl D A p.j/\p.hi<=(D m).n:=by
   intro p hp;obtain⟨a,b,c⟩:=ht.aH ho h0 m h.OE p hp;refine⟨a,λi hA Gw=>c i ?_ Gw,by rw[a.hi];exact ht.fG hc hk b h.OE⟩;exact(h.LD i (h.sub i hA) Gw.1).1 hA
  have Vw:=ht.env ho i (by omega)
  have afM:∀t∈Aj ops j,e.at t=(D i).e.at t:=by
   intro t htm;refine G_ h.env Vw λq hd=>?_;have hq:=XJ hd;rcases avs q j with XL|rfl|XL
   ·have:A q:=asO λhn=>(ho.free q j XL hj (λhx=>hn (hb q hx))).1 t hd htm;exact⟨λ_=>by omega,λ_=>this⟩
   ·exact absurd htm (ho.aaO q hj fH t hd)
   ·exact absurd htm (ho.XF j q XL hq fH t hd)
  have afN:e.n=(D i).e.n:=by rw[h.env.n,Vw.n]
  have Nu:=λ(n':Nat) (σ:St)=>p6 (P:=P) (ro:=n') (σ:=σ) (tc me afM afN).1;have fS:aO o ops (D i).e=ab:=by rw[<-(tc me afM afN).2,(tc me jC oJ).2,hw]
  have BC:recheck P pl ops (pl.b_.getD i 0) (D i).e (D m).n (D m).aH (fR (D m).bs) (ops.toList.zipIdx.take i)=ab:=by
   obtain⟨o',v',_,_,_,hs⟩:=ht.OA hi;rw[hmi];cases hs with
   |skip _ _ _ _ hx=>exact absurd q4 hx
   |Fm _ _ hn hp _ i1 b1 Nv _ cI hr=>rw[hn,hp,cI];exact hr
   |pure _ hx=>rw[q4]at hx;cases hx
   |alloc _ hx=>rw[q4]at hx;cases hx
   |load _ hx=>rw[q4]at hx;cases hx
   |call _ hx=>rw[q4]at hx;cases hx
   |effect _ _ i1 b1 Nv _ aq _ hn cI hp hr=>rw[cI];exact hr
  unfold recheck at BC;rw[List.all_eq_true]at BC
  have eg:(o,j)∈ops.toList.zipIdx.take i:=by
   rw[au7];refine⟨j,?_⟩;rw[List.getElem?_take,if_pos ai,List.getElem?_zipIdx];have:ops.toList[j]?=aa o:=by simpa using me
   rw[this];simp
  have hx:=BC (o,j) eg;dsimp only at hx;have anr:pl.kinds.getD j .effect=.load:=fH;rw[anr]at hx
  have LA:asp (pl.b_.getD i 0) j=af:=by
   cases hc:asp (pl.b_.getD i 0) j with
   |false=>rfl
   |true=>exact absurd hc ajg
  rw[LA,fS]at hx;simp only[au0,auj]at hx;split at hx
  ·rename_i d hd;obtain⟨ao,h1,h2⟩:=LF hx;refine⟨(D m).aH,(D m).n,(D i).e.at d,ao,?_,h2,jq,ar8 _,?_⟩
   ·rw[Nu];exact h1
   ·rw[hd];have hdj:jg ops j=aa d:=by unfold jg;rw[me];exact hd
    have aE:(D i).e.at d=(D (j+1)).e.at d:=Vw.put j ai d hdj;rw[aE,hej,hd,Env.cV];by_cases hdn:d<e.n
    ·rw[if_pos ⟨by rw[<-oJ];exact hdn,rfl⟩]
    ·have bw:∀z:IV,e.put (aa d) z=e:=λz=>by
      have:Nat.blt d e.n=af:=by
       cases hc:Nat.blt d e.n with
       |false=>rfl
       |true=>exact absurd (by simpa using hc) hdn
      simp only[Env.put,this];rfl
     rw[bw,bw]
  ·cases hx
end step
end Go.Ev
namespace Go.Ev
variable{P:Program}{S:Nat->Self}{ro nn:Nat}{ops:Array Oper}{pl:dR}{D:Nat->DS}{N:Nat}{F:Fence}{rd:Option Nat}{Q:Exit->Act->World->Prop}[Sm]
theorem put_defers{a:Act}{dst:Option Tmp}{u:Value}:(a.put dst u).defers=a.defers:=by cases dst<;>rfl
theorem aaR{cur:Nat->Option Ob}{σ ao:St}(h:∀id,σ.at id=ah)(hn:ao.n<=σ.n):zh cur σ ao=cur:=by
 funext id;unfold zh;rw[if_neg];rw[h id];intro hx;rcases hx with hx|hx
 ·cases hx
 ·omega
section step
variable{gz ι:Io}{w0 w:World}{ef:St}{A:Nat->Prop}{m:Nat}{e:Env}{cur:Nat->Option Ob}{j:Nat}{a:Act}{K:Act->World->Prop}
theorem q3.step(hS:∀j,hZ P (S j) nn)(hC:∀j,eu P (S j))(hm:∀j,bX (S j))(hk:∀j,bF (S j))(ho:pn ops pl)(ht:Tr P S pl ro ops D)(h0:(D 0).aH=[])(kJ:(D 0).n=ef.n)(hnk:(D ops.size).n<=N)(C4:Inv N gz ef w0)
 (h:q3 ops pl D N ro gz w0 ef A m e ι cur w)(hj:j<ops.size)(mY:¬A j)(hb:∀i,jh pl j i->A i)(hF0:kr F rd gz)(he:c9 ι e a.tmps)
 (hK:∀m' e' aG rS w' a',q3 ops pl D N ro gz w0 ef (λi=>A i\/i=j) m' e' aG rS w'->c9 aG e' a'.tmps->a'.defers=a.defers->K a' w'):wpOpIn F 0 P ops Q j K a w:=by
 obtain⟨o,v,me,hej,arM,hs⟩:=ht.OA hj;have hF:kr F rd ι:=hF0.mono h.wC.ext;have Vx:=ht.env ho j (by omega);have jC:=h.reads ht ho hj mY hb;have oJ:e.n=(D j).e.n:=by rw[h.env.n,Vx.n]
 have eh:=tc me jC oJ;have hold:∀t,jg ops j=aa t->(D j).e.at t=(D 0).e.at t:=λt hd=>Vx.cH t λi hi hc=>ho.single i j hi hj t hc hd;have BF:tb ops D (λi=>A i\/i=j) (e.put o.dst v):=h.env.step ho h.sub me mY hej hold Vx.n;have Ox:∀id,ef.n<=id->id<(D ops.size).n->∀e,gz id e=ah:=λid h1 h2=>C4.fresh id h1 (by omega);have hnj:(D j).n<=(D (j+1)).n:=ht.XH hm hk hj;have aaS:ef.n<=(D j).n:=by rw[<-kJ];exact ht.fG hm hk (by omega) (by omega)
 have arN:(D (j+1)).n<=(D ops.size).n:=ht.fG hm hk (by omega) (by omega)
 have hX:∀id,((∃i,i<ops.size/\¬(A i\/i=j)/\(D i).n<=id/\id<(D (i+1)).n)\/((D ops.size).n<=id/\id<N))->
  ((∃i,i<ops.size/\¬A i/\(D i).n<=id/\id<(D (i+1)).n)\/((D ops.size).n<=id/\id<N))/\¬((D j).n<=id/\id<(D (j+1)).n):=by
  intro id hx;rcases hx with⟨i,h1,h2,h3⟩|hx
  ·exact⟨.inl ⟨i,h1,λhA=>h2 (.inl hA),h3⟩,λhr=>h2 (.inr (ht.apart hm hk h1 hj h3 hr))⟩
  ·exact⟨.inr hx,λhr=>by omega⟩
 have hFr:∀id,(D j).n<=id->id<(D (j+1)).n->((∃i,i<ops.size/\¬A i/\(D i).n<=id/\id<(D (i+1)).n)\/((D ops.size).n<=id/\id<N)):=λid h1 h2=>.inl ⟨j,hj,mY,h1,h2⟩
 have J_:(D (j+1)).n=(D j).n->∀p,Made ops D p->p.j=j->∀(rS:Nat->Option Ob) id o,p.lo<=id->id<p.hi->p.t.get id=aa o->rS id=aa o:=by
  intro hn p hp n9 rS id o h1 h2;rw[hp.lo,n9]at h1;rw[hp.hi,n9]at h2;omega
 have hbB:∀{i0:Nat} {b:T Ob} {rest:List (Nat×T Ob)},(D j).bs=(i0,b)::rest->(D j).bs=(D m).bs->fR (D m).bs=b:=λh1 h2=>by rw[<-h2,h1];rfl
 have iZ:(∀i,i<ops.size->bc pl i=.effect->(A i↔i<j))->∀p∈(D j).aH,Made ops D p/\te ops pl D A p.j/\p.hi<=(D j).n:=by
  intro wh p hp;obtain⟨c1,c2,c3⟩:=ht.aH ho h0 j (by omega) p hp;exact⟨c1,λi hA Gw=>c3 i ((wh i (h.sub i hA) Gw.1).1 hA) Gw,by rw[c1.hi];exact ht.fG hm hk c2 (by omega)⟩
 unfold wpOpIn;rw[me];dsimp only;rw[sq he,eh.2];cases hs with
 |skip hw hv hn hp fH gk=>
  rw[hw];refine⟨λf _=>hF.fn f,?_⟩;subst hv;exact hK m _ ι cur w _ (h.next ht hm hk hj mY hb fH BF h.wC (λid hx=>(hX id hx).1) (λ_ _ _ hc=>hc) (.inl hn) (λp hp n9=>J_ hn p hp n9 cur)) (he.put rQ _) put_defers
 |Fm hw hv hn hp fH i0 b rest gk cI hr=>
  rw[hw];refine⟨λf _=>hF.fn f,?_⟩;subst hv;obtain⟨wh,Ik,qu⟩:=h.order ht ho hj mY hb (.inl fH);have hB:=hbB gk qu;have Il:fR (D (j+1)).bs=fR (D m).bs:=by rw[cI,hB];rfl
  have mG:=ht.fG hm hk Ik (by omega:j<=ops.size);refine hK (j+1) _ ι cur w _ (h.acI hj hb fH wh BF h.wC (λid hx=>(hX id hx).1) (λ_ _ _ _ _ _ _ _ _ hc=>hc) (λp hp n9=>OC ht hp (by rw[n9];exact fH)) ?_ ?_ ?_ ?_) (he.put rQ _) put_defers
  ·rw[Il];exact h.base
  ·rw[Il];exactλp hp hu=>h.J9 p hp (hu.less λ_ x=>.inl x)
  ·rw[Il];exactλid hid=>h.top id (by omega)
  ·rw[Il];exact h.low
 |pure hw fH hn hp gk σ fq Im=>
  rw[hw];have hx:jA P (S j) 0 e o ⟨0,.lf⟩=aa (v,σ):=by unfold jA;rw[p6 eh.1,fq]
  refine AN (N:=0) (hS j) (hC j) (hm j) hx (by omega) hF (h.wC.toGn.inv (λid o hs=>by cases hs) (λid h1 h2=>by omega) (λ_ _=>rfl)) he λu w' aG hv cW hl=>?_;have lr:=h.wC.step Ox (λid o hs=>by cases hs) (λid h1 h2=>by omega) (λid _ hs=>by cases hs) (λ_ _=>rfl) cW hl;rw[aaR (λ_=>rfl) (by omega)]at lr;exact hK m _ aG cur w' _ (h.next ht hm hk hj mY hb (by rw[fH];simp) BF lr (λid hx=>⟨(hX id hx).1,λhh=>by omega⟩) (λ_ _ _ hc=>hc) (.inl hn) (λp hp n9=>J_ hn p hp n9 cur)) ((he.mono hl.ext).put hv _) put_defers
 |alloc hw fH gk σ fq hn hp=>
  rw[hw];have hx:jA P (S j) 0 e o ⟨(D j).n,.lf⟩=aa (v,σ):=by unfold jA;rw[p6 eh.1,fq]
  refine AN (N:=(D (j+1)).n) (hS j) (hC j) (hm j) hx (by omega) hF (h.wC.toGn.inv (λid o hs=>by cases hs) (λid h1 h2=>hFr id h1 h2) (λ_ _=>rfl)) he λu w' aG hv cW hl=>?_;have lr:=h.wC.step Ox (λid o hs=>by cases hs) (λid h1 h2=>⟨asq aaS h1,by omega⟩) (λid _ hs=>by cases hs) (λ_ _=>rfl) cW hl;have Ov:Made ops D ⟨j,(D j).n,σ.n,σ.t⟩:=⟨hj,rfl,hn.symm,hp⟩;refine hK m _ aG _ w' _ (h.next ht hm hk hj mY hb (by rw[fH];simp) BF lr (λid hx=>⟨(hX id hx).1,λhh=>(hX id hx).2 (by rw[hn];exact hh)⟩) (λid o hr hc=>?_) (.inr ⟨_,Ov,rfl⟩) (λp lE n9 id o h1 h2 h3=>?_)) ((he.mono hl.ext).put hv _) put_defers
  ·unfold zh;rw[if_neg,hc];intro hx;rcases hx with hx|hx
   ·cases hx
   ·exact hr (by rw[hn];exact hx)
  ·have DT:=OD lE Ov n9;subst DT;unfold zh;rw[if_pos (.inr ⟨h1,h2⟩)];exact h3
 |load hw fH hn hp gk i0 b rest DV σ fq Im wz=>
  rw[hw];obtain⟨aH,n',u',ao,ans,arO,Gx,mG,G7⟩:=h.ajf ht ho hm hk h0 hj mY hb me hw fH hej DV fq Im wz;obtain⟨fc,jr⟩:=h.see hb Gx mG;have hx:jA P (S j) n' e o ⟨n',seen aH (pl.b_.getD j 0) (fR (D m).bs)⟩=aa (u',ao):=by unfold jA;rw[ans]
  refine AN (N:=n') (hS j) (hC j) (hm j) hx (by omega) hF (h.wC.toGn.inv fc (λid h1 h2=>by dsimp only at h1;omega) jr) he λu w' aG hv cW hl=>?_;have lr:=h.wC.step (σ:=⟨n',seen aH (pl.b_.getD j 0) (fR (D m).bs)⟩) Ox fc (λid h1 h2=>by dsimp only at h1;omega) (λid _ hs=>?_) jr cW hl
  ·have zj:zh cur ⟨n',seen aH (pl.b_.getD j 0) (fR (D m).bs)⟩ ao=cur:=by
    funext id;unfold zh;split
    ·rename_i hc;have hs:((⟨n',seen aH (pl.b_.getD j 0) (fR (D m).bs)⟩:St).at id).isSome:=hc.resolve_right (by dsimp only;omega);obtain⟨x,hx⟩:=auM.1 hs;have ai:id<n':=au4 λhle=>by have:=jr id hle;rw[show(⟨n',seen aH (pl.b_.getD j 0) (fR (D m).bs)⟩:St).at id=_ from this]at hx;cases hx
     rw[hl.wg id ai ai,hx];exact(fc id x hx).symm
    ·rfl
   rw[zj]at lr;have ant:c9 aG (e.put o.dst v) (a.put o.dst u).tmps:=by rw[<-G7];exact(he.mono hl.ext).put hv _
   exact hK m _ aG cur w' _ (h.next ht hm hk hj mY hb (by rw[fH];simp) BF lr (λid hx=>⟨(hX id hx).1,λhh=>by dsimp only at hh;omega⟩) (λ_ _ _ hc=>hc) (.inl hn) (λp hp n9=>J_ hn p hp n9 cur)) ant put_defers
  ·exact au4 λhle=>by
    have:=jr id hle;rw[show(⟨n',seen aH (pl.b_.getD j 0) (fR (D m).bs)⟩:St).at id=_ from this]at hs;cases hs
 |call hw fH gk i0 b rest DV σ fq hn hp=>
  rw[hw];obtain⟨wh,Ik,qu⟩:=h.order ht ho hj mY hb (.inr fH);have hB:=hbB DV qu;have mG:=ht.fG hm hk Ik (by omega:j<=ops.size);obtain⟨fc,jr⟩:=h.see hb (iZ wh) mG;rw[hB]at fc jr
  have hx:jA P (S j) (D j).n e o ⟨(D j).n,seen (D j).aH (pl.b_.getD j 0) b⟩=aa (v,σ):=by
   rw[<-fq];unfold jA;rw[p6 eh.1]
  have ai:∀id,((⟨(D j).n,seen (D j).aH (pl.b_.getD j 0) b⟩:St).at id).isSome=ab->id<(D j).n:=λid hs=>au4 λhle=>by
   have:=jr id hle;rw[show(⟨(D j).n,seen (D j).aH (pl.b_.getD j 0) b⟩:St).at id=_ from this]at hs;cases hs
  refine AN (N:=(D (j+1)).n) (hS j) (hC j) (hm j) hx (by omega) hF (h.wC.toGn.inv fc (λid h1 h2=>hFr id h1 h2) jr) he λu w' aG hv cW hl=>?_;have lr:=h.wC.step (σ:=⟨(D j).n,seen (D j).aH (pl.b_.getD j 0) b⟩) Ox fc (λid h1 h2=>⟨asq aaS h1,by omega⟩) (λid _ hs=>ai id hs) jr cW hl;have Ov:Made ops D ⟨j,(D j).n,σ.n,σ.t⟩:=⟨hj,rfl,hn.symm,hp⟩;refine hK m _ aG _ w' _ (h.next ht hm hk hj mY hb (by rw[fH];simp) BF lr (λid hx=>⟨(hX id hx).1,λhh=>(hX id hx).2 (by rw[hn];exact hh)⟩) (λid o hr hc=>?_) (.inr ⟨_,Ov,rfl⟩) (λp lE n9 id o h1 h2 h3=>?_)) ((he.mono hl.ext).put hv _) put_defers
  ·unfold zh;split
   ·rename_i kK;have hs:=kK.resolve_right (λhx=>hr (by rw[hn];exact hx));obtain⟨x,hx⟩:=auM.1 hs;rw[hl.wg id (ai id hs) (ai id hs),hx,<-fc id x hx];exact hc
   ·exact hc
  ·have DT:=OD lE Ov n9;subst DT;unfold zh;rw[if_pos (.inr ⟨h1,h2⟩)];exact h3
 |effect hw fH i0 b rest DV σ fq hn cI hp hr=>
  rw[hw];obtain⟨wh,Ik,qu⟩:=h.order ht ho hj mY hb (.inl fH);have hB:=hbB DV qu;have Il:fR (D (j+1)).bs=σ.t:=by rw[cI];rfl
  have mG:=ht.fG hm hk Ik (by omega:j<=ops.size);obtain⟨fc,jr⟩:=h.see hb (iZ wh) mG;rw[hB]at fc jr
  have hx:jA P (S j) ro e o ⟨(D j).n,seen (D j).aH (pl.b_.getD j 0) b⟩=aa (v,σ):=by
   rw[<-fq];unfold jA;rw[p6 eh.1]
  have hwj:S_ ops pl D j:=⟨fH,o,me,hw⟩
  have mw:∀p,Made ops D p->te ops pl D (λi=>A i\/i=j) p.j->∀id,p.lo<=id->id<p.hi->(seen (D j).aH (pl.b_.getD j 0) b).get id=ah:=by
   intro p lE hu id h1 h2;cases C5:(seen (D j).aH (pl.b_.getD j 0) b).get id with
   |none=>rfl
   |some x=>
    rcases G9 C5 with⟨q,hq,lu,g1,g2,g3⟩|C5
    ·obtain⟨CZ,_,_⟩:=iZ wh q hq
     have:q.j=p.j:=by
      rw[CZ.lo]at g1;rw[CZ.hi]at g2;rw[lE.lo]at h1;rw[lE.hi]at h2;exact ht.apart hm hk CZ.lt lE.lt ⟨g1,g2⟩ ⟨h1,h2⟩
     exact absurd (show jh pl j p.j by rw[<-this];exact lu) (hu j (.inr rfl) hwj)
    ·rw[<-hB,h.J9 p lE (hu.less λ_ x=>.inl x) id h1 h2]at C5;cases C5
  have aZ:∀p,Made ops D p->p.j≠j:=λp lE n9=>OC ht lE (by rw[n9];exact fH)
  have afO:∀p,Made ops D p->∀id,p.lo<=id->id<p.hi->¬((D j).n<=id/\id<σ.n):=λp lE id h1 h2 hx=>by
   rw[lE.lo]at h1;rw[lE.hi]at h2;exact aZ p lE (ht.apart hm hk lE.lt hj ⟨h1,h2⟩ (by rw[hn];exact hx))
  refine AN (N:=(D (j+1)).n) (hS j) (hC j) (hm j) hx (by omega) hF (h.wC.toGn.inv fc (λid h1 h2=>hFr id h1 h2) jr) he λu w' aG hv cW hl=>?_;have lr:=h.wC.step (σ:=⟨(D j).n,seen (D j).aH (pl.b_.getD j 0) b⟩) Ox fc (λid h1 h2=>⟨asq aaS h1,by omega⟩) (λid hr _=>hr) jr cW hl;refine hK (j+1) _ aG _ w' _ (h.acI hj hb fH wh BF lr (λid hx=>⟨(hX id hx).1,λhh=>(hX id hx).2 (by rw[hn];exact hh)⟩) (λp lE n9 hA hu id o h1 h2 hc=>?_) aZ ?_ ?_ ?_ ?_) ((he.mono hl.ext).put hv _) put_defers
  ·unfold zh;rw[if_neg]
   ·exact hc
   ·intro hx;rcases hx with hx|hx
    ·rw[show(⟨(D j).n,seen (D j).aH (pl.b_.getD j 0) b⟩:St).at id=_ from mw p lE hu id h1 h2]at hx;cases hx
    ·exact afO p lE id h1 h2 hx
  ·rw[Il];intro id o hg;unfold zh;split
   ·exact hg
   ·rename_i hx
    have j_:(⟨(D j).n,seen (D j).aH (pl.b_.getD j 0) b⟩:St).at id=ah:=by
     cases hs:(⟨(D j).n,seen (D j).aH (pl.b_.getD j 0) b⟩:St).at id with
     |none=>rfl
     |some y=>exact absurd (.inl (by rw[hs];rfl)) hx
    have are:¬((D j).n<=id/\id<σ.n):=λhh=>hx (.inr hh);have:=hl.dead id j_ (by dsimp only;omega);rw[show σ.at id=_ from hg]at this;cases this
  ·rw[Il];intro p lE hu id h1 h2;have:=afO p lE id h1 h2;exact hl.dead id (mw p lE hu id h1 h2) (by dsimp only;omega)
  ·rw[Il];intro id hid;exact hl.dead id (jr id (by omega)) (.inr (by omega))
  ·rw[Il];intro id Ip ai;rw[show σ.t.get id=σ.at id from rfl,hl.wg id Ip (by dsimp only;omega)];show(seen (D j).aH (pl.b_.getD j 0) b).get id=_;rw[aaP,<-hB]
   ·exact h.low id Ip ai
   ·intro p lE;obtain⟨c1,c2,_⟩:=ht.aH ho h0 j (by omega) p lE;rw[c1.lo];have:=ht.fG hm hk (asT p.j) (by have:=c1.lt;omega);omega
end step
end Go.Ev
namespace Go.Ev
variable{P:Program}{S:Nat->Self}{ro nn:Nat}{ops:Array Oper}{pl:dR}{D:Nat->DS}{N:Nat}{F:Fence}{rd:Option Nat}{Q:Exit->Act->World->Prop}[Sm]
def q5(listed:Array Bool)(i:Nat):Prop:=listed[i]?=aa ab
theorem aeh{listed:Array Bool}{j:Nat}(hj:j<listed.size):q5 (listed.setIfInBounds j ab)=λi=>q5 listed i\/i=j:=by
 funext i;refine propext ?_;unfold q5;rw[Array.getElem?_setIfInBounds];by_cases mX:j=i
 ·subst mX;simp[hj]
 ·simp[mX,Ne.symm mX]
theorem LG{listed:Array Bool}{j:Nat}(h:j∈auk .any ops listed):j<ops.size/\listed[j]?=aa af/\∃o,ops[j]?=aa o/\∀e∈o.after.toList,atT .any e=ab->q5 listed e.on:=by
 unfold auk at h;rw[atc,auO]at h;obtain⟨ai,h⟩:=h;rw[ar4]at h;refine⟨ai,?_,ops[j],asw ai,λe he hb=>?_⟩
 ·have h1:=h.1;rw[atk]at h1;cases hx:listed[j]? with
  |none=>rw[hx]at h1;cases h1
  |some b=>rw[hx]at h1;cases b with
   |false=>rfl
   |true=>cases h1
 ·have h2:=h.2;rw[asw ai]at h2;simp only[asy,asW]at h2;rw[awm]at h2;have:=h2 e (by simpa using he);rw[hb,au0,auj,atk]at this;unfold q5;cases hx:listed[e.on]? with
  |none=>rw[hx]at this;cases this
  |some b=>rw[hx]at this;cases b with
   |false=>cases this
   |true=>rfl
theorem XM(ho:pn ops pl){listed:Array Bool}(aT:listed.size=ops.size)(h:auk .any ops listed=[]):∀i,i<ops.size->q5 listed i:=by
 intro i;induction i using Nat.strongRecOn with
 |_ i ih=>
  intro hi;refine asO λhn=>?_
  have hf:listed[i]?=aa af:=by
   rw[asw (by omega)];cases hx:listed[i]'(by omega)with
   |false=>rfl
   |true=>exact absurd (by unfold q5;rw[asw (by omega),hx]) hn
  have hm:i∈auk .any ops listed:=by
   unfold auk;rw[atc,auO];refine⟨hi,?_⟩;rw[atk,hf,asw hi];simp only[asW,Bool.not_false,Bool.true_and,asy];rw[awm];intro e he;cases hb:atT .any e with
   |false=>rfl
   |true=>
    have ai:=ho.back i _ (asw hi) e (by simpa using he) hb;have:=ih e.on ai (by omega);unfold q5 at this;rw[atk,this];rfl
  rw[h]at hm;cases hm
section any
variable{gz:Io}{w0:World}{ef:St}{a0:Act}
theorem afP(hS:∀j,hZ P (S j) nn)(hC:∀j,eu P (S j))(hm:∀j,bX (S j))(hk:∀j,bF (S j))(ho:pn ops pl)(ht:Tr P S pl ro ops D)(h0:(D 0).aH=[])(kJ:(D 0).n=ef.n)(hnk:(D ops.size).n<=N)(C4:Inv N gz ef w0)
 (hF0:kr F rd gz)(rT:∀m e ι cur w a,q3 ops pl D N ro gz w0 ef (λi=>i<ops.size) m e ι cur w->c9 ι e a.tmps->a.defers=a0.defers->Q .normal a w):
 ∀(fuel:Nat) (listed:Array Bool) (m:Nat) (e:Env) (ι:Io) (cur:Nat->Option Ob) (w:World) (a:Act),listed.size=ops.size->listed.toList.count af<=fuel->q3 ops pl D N ro gz w0 ef (q5 listed) m e ι cur w->
  c9 ι e a.tmps->a.defers=a0.defers->wpAnyIn F 0 P .any ops Q fuel listed a w:=by
 have bz:∀(listed:Array Bool) (m:Nat) (e:Env) (ι:Io) (cur:Nat->Option Ob) (w:World) (a:Act),listed.size=ops.size->(∀i,i<ops.size->q5 listed i)->q3 ops pl D N ro gz w0 ef (q5 listed) m e ι cur w->
  c9 ι e a.tmps->a.defers=a0.defers->Q .normal a w:=by
  intro listed m e ι cur w a aT hl h he hd
  have:q5 listed=λi=>i<ops.size:=by
   funext i;refine propext ⟨λhx=>h.sub i hx,hl i⟩
  rw[this]at h;exact rT m e ι cur w a h he hd
 intro fuel;induction fuel with
 |zero=>
  intro listed m e ι cur w a aT hc h he hd
  have hl:∀i,i<ops.size->q5 listed i:=by
   intro i hi;have ai:i<listed.size:=by omega
   unfold q5;rw[asw ai];cases hx:listed[i]with
   |true=>rfl
   |false=>
    have eg:af∈listed.toList:=by
     rw[au7];exact⟨i,by rw[at0,asw ai,hx]⟩
    have:=List.count_pos_iff.2 eg;omega
  refine⟨?_,bz listed m e ι cur w a aT hl h he hd⟩;cases hr:auk .any ops listed with
  |nil=>rfl
  |cons x xs=>
   obtain⟨h1,h2,_⟩:=LG (show x∈auk .any ops listed by rw[hr];simp);have:=hl x h1;unfold q5 at this;rw[this]at h2;cases h2
 |succ fuel ih=>
  intro listed m e ι cur w a aT hc h he hd;refine⟨λhr=>bz listed m e ι cur w a aT (XM ho aT hr) h he hd,λj hj=>?_⟩;obtain⟨hjs,hlj,o,me,anu⟩:=LG hj;have mY:¬q5 listed j:=λhx=>by unfold q5 at hx;rw[hlj]at hx;cases hx
  have hb:∀i,jh pl j i->q5 listed i:=by
   intro i lu;obtain⟨e',gV,hbd,hh⟩:=ho.bits j o me i lu;have:=anu e' gV hbd;rcases hh with rfl|hh
   ·exact this
   ·exact h.closed _ this i hh
  refine h.step hS hC hm hk ho ht h0 kJ hnk C4 hjs mY hb hF0 he λm' e' aG rS w' a' hP gV vO=>?_;rw[<-aeh (by omega)]at hP;refine ih _ m' e' aG rS w' a' (by simp[aT]) ?_ hP gV (vO.trans hd);have vP:j<listed.toList.length:=by simp;omega
  have hjv:listed.toList[j]=af:=by
   have:listed.toList[j]?=aa af:=by rw[at0];exact hlj
   rw[List.getElem?_eq_getElem vP]at this;exact auU this
  rw[Array.toList_setIfInBounds,List.count_set vP,hjv];have e1:(if(af==af)=ab then 1 else 0)=1:=rfl;have e2:(if(ab==af)=ab then 1 else 0)=0:=rfl;rw[e1,e2];omega
end any
theorem Hb(eW:P.follows .mixedOrders=ab)(hS:∀j,hZ P (S j) nn)(hC:∀j,eu P (S j))(hm:∀j,bX (S j))(hk:∀j,bF (S j)):
 ∀N ro rd ops e df σ cr,p4 P S ro ops e df σ=aa cr->cr.σ.n<=N->∀F ι a w Q id,kr F rd ι->Inv N ι σ w->c9 ι e a.tmps->jX ι df a.defers->ny N ro ι w σ cr Q->(Code.region id ops ab).wpIn F 0 P Q a w:=by
 intro N ro rd ops e df σ cr h hN F ι a w Q id hF hi he hd hQ;unfold p4 at h;dsimp only at h;split at h
 ·rename_i bp;split at h
  ·rename_i e' n i b rest aH Ic;cases h;obtain⟨ht,cC⟩:=aaQ Ic;generalize hDd:nZ P S (dx ops) ro ops ⟨e,σ.n,[(0,σ.t)],[]⟩=D at ht cC;have OH:D 0=⟨e,σ.n,[(0,σ.t)],[]⟩:=by rw[<-hDd];rfl
   have ho:=afJ bp;have hn:(D ops.size).n=n:=by rw[<-cC]
   have cW:Inv N ι σ {w with drawn:=w.drawn+1}:=hi.same rfl;have hle:Le ro ι w σ ι {w with drawn:=w.drawn+1} σ:=Le.same rfl rfl rfl rfl
   have anv:σ.n<=N:=by
    have:=ht.fG hm hk (asT ops.size) (ar8 _);rw[hn,OH]at this;exact asq this hN
   have hQ':=hQ.from hi hle anv;refine wpIn_region_any eW ?_;have DW:fR (D 0).bs=σ.t:=by rw[OH];rfl
   have kJ:(D 0).n=σ.n:=by rw[OH]
   have anw:q3 ops (dx ops) D N ro ι {w with drawn:=w.drawn+1} σ (q5 (atp ops.size af)) 0 e ι σ.at {w with drawn:=w.drawn+1}:=by
    have bw:∀i,¬q5 (atp ops.size af) i:=by
     intro i hx;unfold q5 at hx;rw[Array.getElem?_replicate]at hx;split at hx<;>cases hx
    refine⟨λi hx=>absurd hx (bw i),λj hx=>absurd hx (bw j),⟨by rw[OH],λj hx=>absurd hx (bw j),λt _=>by rw[OH]⟩,asT _,λi _ _=>⟨λhx=>absurd hx (bw i),λhx=>absurd hx (Nat.not_lt_zero _)⟩,.inl rfl,
     (zi.start cW (by rw[hn];exact hN)).fr ?_,λp _ hx=>absurd hx (bw _),?_,?_,?_,?_⟩
    ·intro id hx;rcases hx with⟨j,hj,_,h1,h2⟩|⟨h1,h2⟩
     ·have g1:=ht.fG hm hk (asT j) (by omega);have g2:=ht.fG hm hk (show j+1<=ops.size from hj) (ar8 _);exact⟨by omega,by have:n<=N:=hN;omega⟩
     ·have g1:=ht.fG hm hk (asT ops.size) (ar8 _);exact⟨by omega,h2⟩
    ·rw[DW];exactλ_ _ h=>h
    ·rw[DW];intro p hp _ id h1 _;have g1:=ht.fG hm hk (asT p.j) (by have:=hp.lt;omega);exact hi.wf id (by rw[hp.lo]at h1;omega)
    ·rw[DW,kJ];exact hi.wf
    ·rw[DW];exactλ_ _ _=>rfl
   refine afP (a0:=a) hS hC hm hk ho ht (by rw[OH]) kJ (by rw[hn];exact hN) cW hF ?_ ops.size _ 0 e ι σ.at _ a (by simp) ?_ anw he rfl
   ·intro m e1 cm cur w1 a1 hp mh AM
    have gk:(D ops.size).bs=(D m).bs:=ht.OB hp.OE (ar8 _) λi h1 h2 q4=>by
     have:=(hp.LD i h2 q4).1 h2;omega
    have hB:fR (D m).bs=b:=by rw[<-gk,<-cC];rfl
    have jq:(D ops.size).aH=aH:=by rw[<-cC]
    have iZ:∀p∈aH,Made ops D p/\te ops (dx ops) D (λi=>i<ops.size) p.j/\p.hi<=n:=by
     intro p DU;obtain⟨c1,c2,c3⟩:=ht.aH ho (by rw[OH]) ops.size (ar8 _) p (by rw[jq];exact DU);exact⟨c1,λi hA Gw=>c3 i hA Gw,by rw[c1.hi,<-hn];exact ht.fG hm hk c2 (ar8 _)⟩
    have lr:=hp.wC;rw[hn]at lr;have mG:=ht.fG hm hk hp.OE (ar8 _);have h0n:=ht.fG hm hk (asT ops.size) (ar8 _)
    obtain⟨i1,l1⟩:=lr.fin (N:=N) (t:=aH.foldl dt b) (by omega) (λid h1 h2=>.inr ⟨h1,h2⟩) (λid o hg=>by
     rcases BE _ _ _ _ hg with⟨p,DU,g1,g2,g3⟩|hg
     ·obtain⟨c1,c2,_⟩:=iZ p DU;exact hp.piece p c1 c1.lt c2 id o g1 g2 g3
     ·exact hp.base id o (by rw[hB];exact hg))
     (λid hid=>by
      cases hg:(aH.foldl dt b).get id with
      |none=>rfl
      |some o=>
       rcases BE _ _ _ _ hg with⟨p,DU,g1,g2,g3⟩|hg
       ·obtain⟨_,_,c3⟩:=iZ p DU;omega
       ·rw[<-hB,hp.top id (by omega)]at hg;cases hg)
     (λid hr ai=>by
      rw[G8,<-hB]
      ·exact hp.low id hr ai
      ·intro p DU;obtain⟨c1,_,_⟩:=iZ p DU;rw[c1.lo];have:=ht.fG hm hk (asT p.j) (by have:=c1.lt;omega);omega)
    have BF:c9 cm e' a1.tmps:=by
     have AJ:=ht.env ho ops.size (ar8 _);have Lq:(D ops.size).e=e':=by rw[<-cC]
     refine⟨by rw[<-Lq,AJ.n,<-hp.env.n];exact mh.1,λt=>?_⟩;rw[<-Lq,<-G_ hp.env AJ (t:=t) λi _=>Iff.rfl];exact mh.2 t
    exact hQ' a1 w1 cm [] i1 l1 BF (by rw[AM];exact hd.mono l1.ext) trivial
   ·rw[Array.toList_replicate,List.count_replicate];simp
  ·cases h
 ·cases h
omit [Sm]in
theorem Ta{U:Self}(eW:P.follows .mixedOrders=ab)(hS:hZ P U nn)(hC:eu P U)(hm:bX U)(hk:bF U):Oq P U:=
 @Hb _ _ _ NV eW (λ_=>hS) (λ_=>hC) (λ_=>hm) (λ_=>hk)
end Go.Ev
namespace Go.Ev
open Go.RowKit
variable{P:Program}
end Go.Ev
namespace Go.Ev
variable{P:Program}{N ro m:Nat}{ι:Io}{w:World}{σ:St}{e:Env}{a:Act}{F:Fence}{rd:Option Nat}{Q:Exit->Act->World->Prop}{fn:FuncId}{df:List Df}{cr:CR}
def fC(P:Program)(ro:Nat)(rd:Option Nat)(fn:FuncId)(c:Code)(e:Env)(df:List Df)(σ:St)(cr:CR):Prop:=
 σ.n<=cr.σ.n/\∃m0,∀m,m0<=m->∀N,cr.σ.n<=N->∀F ι a w Q,kr F rd ι->Inv N ι σ w->c9 ι e a.tmps->jX ι df a.defers->ny N ro ι w σ cr Q->Vs F P m c Q a w
def gJ(P:Program)(ro:Nat)(f:FuncId)(args:List IV)(σ:St)(v:IV)(ao:St):Prop:=
 σ.n<=ao.n/\∀N,ao.n<=N->∀ι us w,Inv N ι σ w->aC ι args us->CallsIn asB 0 P f us.toArray w (wL N ro ι w σ v ao)
def rU(P:Program)(ro:Nat)(rd:Option Nat)(ops:Array Oper)(l:List Oper)(e:Env)(df:List Df)(σ:St)(cr:CR):Prop:=
 σ.n<=cr.σ.n/\∀N,cr.σ.n<=N->∀F ι a w Q k,ops.toList.drop k=l->kr F rd ι->Inv N ι σ w->c9 ι e a.tmps->jX ι df a.defers->ny N ro ι w σ cr Q->
  wpOpsIn F 0 P ops Q (aus k l.length) a w
theorem fC.mk{c:Code}(hn:σ.n<=cr.σ.n)(hl:∀b,c≠.loop b)(h:∀N,cr.σ.n<=N->∀F ι a w Q,kr F rd ι->Inv N ι σ w->c9 ι e a.tmps->jX ι df a.defers->ny N ro ι w σ cr Q->c.wpIn F 0 P Q a w):fC P ro rd fn c e df σ cr:=by
 refine⟨hn,0,λm _ N hN F ι a w Q hF hi he hd hQ=>?_⟩;have:=h N hN F ι a w Q hF hi he hd hQ;cases c<;>first|exact this|exact absurd rfl (hl _)
theorem fC.wp{c:Code}(h:fC P ro rd fn c e df σ cr)(hN:cr.σ.n<=N)(hF:kr F rd ι)(hi:Inv N ι σ w)(he:c9 ι e a.tmps)(hd:jX ι df a.defers)(hQ:ny N ro ι w σ cr Q):c.wpIn F 0 P Q a w:=by
 obtain⟨_,m0,h⟩:=h;exact(h m0 (ar8 _) N hN F ι a w Q hF hi he hd hQ).wp
theorem fC.seq{x y:Code}{e1:Env}{wB:List Df}{aq:St}(h:fC P ro rd fn x e df σ ⟨.normal,e1,wB,aq⟩)(k:fC P ro rd fn y e1 wB aq cr):fC P ro rd fn (.seq x y) e df σ cr:=by
 refine .mk (asq h.1 k.1) (by simp) λN hN F ι a w Q hF hi he hd hQ=>wpIn_seq ?_;have dJ:aq.n<=N:=asq k.1 hN;refine h.wp dJ hF hi he hd ?_;intro a1 w1 cm eS i1 l1 cY d1 p1;exact k.wp hN (hF.mono l1.ext) i1 cY d1 (hQ.from hi l1 dJ)
theorem fC.cond{c:Operand}{x y:Code}{t:Bool}(hc:ax e c=.raw (.bool t))(h:fC P ro rd fn (if t then x else y) e df σ cr):fC P ro rd fn (.cond c x y) e df σ cr:=
 .mk h.1 (by simp) λN hN F ι a w Q hF hi he hd hQ=>wpIn_cond (G6 hc (he.eval c)) (h.wp hN hF hi he hd hQ)
theorem fC.LH{id:Nat}{x:Code}(h:fC P ro rd fn x e df σ cr)(hx:cr.ex≠.exit id):fC P ro rd fn (.block id x) e df σ cr:=by
 refine .mk h.1 (by simp) λN hN F ι a w Q hF hi he hd hQ=>wpIn_block (h.wp hN hF hi he hd ?_);intro a1 w1 cm eS i1 l1 cY d1 p1;have:=hQ a1 w1 cm eS i1 l1 cY d1 p1;cases hc:cr.ex with
 |exit bA=>
  have aZ:bA≠id:=λh=>hx (by rw[hc,h]);rw[hc]at this;simp only[G5,Exit.inBlock,if_neg aZ];exact this
 |_=>rw[hc]at this;exact this
theorem fC.region{id:Nat}{ops:Array Oper}(h:rU P ro rd ops ops.toList e df σ cr):fC P ro rd fn (.region id ops af) e df σ cr:=by
 refine .mk h.1 (by simp) λN hN F ι a w Q hF hi he hd hQ=>wpIn_region ?_;have:=h.2 N hN F ι a w Q 0 (by simp) hF hi he hd hQ;rw[List.range_eq_range'];simpa using this
variable{ops:Array Oper}{o:Oper}{l:List Oper}
theorem rU.nil:rU P ro rd ops [] e df σ ⟨.normal,e,df,σ⟩:=
 ⟨ar8 _,λ_ _ _ ι a w _ _ _ _ hi he hd hQ=>hQ a w ι [] hi (Le.refl _ _ _ _) he hd trivial⟩
theorem rU.cons(hn:σ.n<=cr.σ.n)(hw:aO o ops e=ab)
 (h:∀N,cr.σ.n<=N->∀F ι a w Q k,ops.toList.drop (k+1)=l->kr F rd ι->Inv N ι σ w->c9 ι e a.tmps->jX ι df a.defers->ny N ro ι w σ cr Q->
  o.wpIn F 0 P a w (wpOpsIn F 0 P ops Q (aus (k+1) l.length)) Q):rU P ro rd ops (o::l) e df σ cr:=by
 refine⟨hn,λN hN F ι a w Q k hl hF hi he hd hQ=>?_⟩
 have gg:ops.toList.drop (k+1)=l:=by
  rw[<-List.drop_drop (i:=1) (j:=k),hl];rfl
 have bp:ops[k]?=aa o:=by
  have:(ops.toList.drop k)[0]?=aa o:=by rw[hl];rfl
  simpa using this
 simp only[asV,List.range'_succ];rw[wpOpsIn_cons];unfold wpOpIn;rw[bp];simp only;rw[sq he,if_pos hw];exact h N hN F ι a w Q k gg hF hi he hd hQ
theorem rU.val{v:IV}{aq:St}(hw:aO o ops e=ab)(hv:av P ro (ax e) o σ=aa (.val v aq))(h:rU P ro rd ops l (e.put o.dst v) df aq cr):rU P ro rd ops (o::l) e df σ cr:=by
 refine .cons (asq (lV hv) h.1) hw λN hN F ι a w Q k hl hF hi he hd hQ=>?_;have dJ:aq.n<=N:=asq h.1 hN;refine⟨λf _=>hF.fn f,?_⟩;rw[Oper.semAt_eq _ _ _ (h_ hv (by simp))];obtain⟨u,w',aG,hr,h2,h3,h4⟩:=oI hi he.eval hv dJ
 have key:wpOpsIn F 0 P ops Q (aus (k+1) l.length) (a.put o.dst u) w':=
  h.2 N hN F aG _ w' Q (k+1) hl (hF.mono h4.ext) h3 ((he.mono h4.ext).put h2 _) (hd.mono h4.ext|>λx=>by cases o.dst<;>exact x) (hQ.from hi h4 dJ)
 rcases hr with hr|⟨hr,rfl⟩
 ·rw[hr,Oper.uponIn_value];exact key
 ·rw[hr,Oper.uponIn_skip];exact key
theorem rU.defer{d:Df}(hw:aO o ops e=ab)(hv:av P ro (ax e) o σ=aa (.SP d))(h:rU P ro ah ops l (e.put o.dst .undef) (d::df) σ cr):rU P ro ah ops (o::l) e df σ cr:=by
 refine .cons h.1 hw λN hN F ι a w Q k hl hF hi he hd hQ=>?_
 have XD:F=asB:=by
  rcases hF with⟨_,h2⟩|⟨_,_,h2,_⟩
  ·exact h2
  ·cases h2
 refine⟨λf _=>hF.fn f,?_⟩;obtain⟨dd,hr,xZ,c,hc⟩:=oI hi he.eval hv;have aaL:(o.semAt F.round a.eval)=execOp a.eval o:=by rw[XD];rfl
 rw[aaL,hr,Oper.uponIn_defer];refine h.2 N hN F ι _ w Q (k+1) hl hF hi ?_ ?_ hQ
 ·cases fY:o.dst with
  |none=>exact he
  |some t=>exact he.set rQ t
 ·cases o.dst<;>exact⟨xZ,hd⟩
end Go.Ev
