/- Lemmas over the model, without conditions of their own: regions that draw (2), closed runs. -/
import Derived.Test.YtggffkaadeagbaaGreatEvE
import Derived.RowKit3
import Derived.Below
open List renaming mem_cons->aty,mem_filter->atW,length_cons->atG,nil_append->atO,cons_append->at4,mem_iff_getElem?->avP,mem_range->avv,range'->avb
open Nat renaming testBit->atb,lt_trichotomy->awb,le_refl->asR,le_trans->atd,lt_of_not_le->avM,zero_le->atE
open List.cons renaming inj->avn,injEq->atK
open Bool renaming and_eq_true->asN,false_or->au3,not_true->avI
open Classical renaming byContradiction->atA
open Option renaming isSome_iff_exists->avt,map_some->atl,getD_some->atH
open Go.Region renaming ready->au4,binds->auF
open Array renaming getElem?_eq_getElem->atj,getD_eq_getD_getElem?->at3,all_eq_true'->aw7,getElem?_toList->auM,replicate->aub
open Option.some renaming inj->avB
open Go.Fence renaming wide->ato
open Option renaming some->aa,none->ah
open Bool renaming true->ab,false->af
set_option linter.all false
namespace Go.Ev
variable{P:Program}{S:Nat->Self}{ro:Nat}{ops:Array Oper}{pl:dX}{D:Nat->DS}{N:Nat}[Sm]
structure Made(ops:Array Oper)(D:Nat->DS)(p:Piece):Prop where
 lt:p.j<ops.size
 lo:p.lo=(D p.j).n
 hi:p.hi=(D (p.j+1)).n
 aI:(D (p.j+1)).aI=p::(D p.j).aI
def Ty(ops:Array Oper)(pl:dX)(D:Nat->DS)(i:Nat):Prop:=bc pl i=.effect/\∃o,ops[i]?=aa o/\aQ o ops (D i).e=ab
def tJ(ops:Array Oper)(pl:dX)(D:Nat->DS)(A:Nat->Prop)(q:Nat):Prop:=∀i,A i->Ty ops pl D i->¬jy pl i q
def gb(l:List (Nat×T Ob)):T Ob:=match l with|(_,b)::_=>b|[]=>.lf
theorem Tr.aI(ht:Tr P S pl ro ops D)(ho:pT ops pl)(h0:(D 0).aI=[]):∀j,j<=ops.size->∀p∈(D j).aI,Made ops D p/\p.j<j/\∀i,i<j->Ty ops pl D i->¬jy pl i p.j:=by
 intro j;induction j with
 |zero=>intro _ p hp;rw[h0]at hp;cases hp
 |succ j ih=>
  intro hj p hp;have hjs:j<ops.size:=by omega
  obtain⟨o,v,h1,_,_,hs⟩:=ht.Pb hjs
  have cL:p∈(D j).aI->(Ty ops pl D j->¬jy pl j p.j)->Made ops D p/\p.j<j+1/\∀i,i<j+1->Ty ops pl D i->¬jy pl i p.j:=λhp hw=>by
   obtain⟨a,b,c⟩:=ih (by omega) p hp;refine⟨a,by omega,λi hi gx=>?_⟩;rcases Nat.lt_or_eq_of_le (Nat.le_of_lt_succ hi)with hi|rfl
   ·exact c i hi gx
   ·exact hw gx
  have new:∀σ:St,p=⟨j,(D j).n,σ.n,σ.t⟩->(D (j+1)).n=σ.n->(D (j+1)).aI=⟨j,(D j).n,σ.n,σ.t⟩::(D j).aI->Made ops D p/\p.j<j+1/\∀i,i<j+1->Ty ops pl D i->¬jy pl i p.j:=λσ Ed hn jE=>by
   subst Ed;refine⟨⟨hjs,rfl,hn.symm,jE⟩,Nat.lt_succ_self _,λi hi _ hb=>?_⟩;have:=ags ho i (by omega) _ hb;dsimp only at this;omega
  cases hs with
  |skip hw hv hn jE hk hb=>rw[jE]at hp;exact cL hp λh=>absurd h.1 hk
  |FL hw hv hn jE hk=>
   rw[jE]at hp;refine cL hp λh=>?_;obtain⟨_,o',h2,h3⟩:=h;rw[h1]at h2;cases h2;rw[hw]at h3;cases h3
  |pure hw hk hn jE=>rw[jE]at hp;exact cL hp λh=>(by have:=h.1;rw[hk]at this;cases this)
  |load hw hk hn jE=>rw[jE]at hp;exact cL hp λh=>(by have:=h.1;rw[hk]at this;cases this)
  |alloc hw hk hb σ he hn jE=>
   have rA:=hp;rw[jE]at rA;rcases aty.1 rA with rfl|rA
   ·exact new σ rfl hn jE
   ·exact cL rA λh=>(by have:=h.1;rw[hk]at this;cases this)
  |call hw hk hb i0 b rest gw σ he hn jE=>
   have rA:=hp;rw[jE]at rA;rcases aty.1 rA with rfl|rA
   ·exact new σ rfl hn jE
   ·exact cL rA λh=>(by have:=h.1;rw[hk]at this;cases this)
  |effect hw hk i0 b rest gw σ he hn hb jE=>
   rw[jE,atW]at hp;refine cL hp.1 λ_ hb=>?_;have h2:=hp.2;unfold jy at hb;rw[hb]at h2;cases h2
theorem Pd(ht:Tr P S pl ro ops D){p:Piece}(hp:Made ops D p):bc pl p.j≠.effect:=by
 intro hk;obtain⟨o,v,h1,_,_,hs⟩:=ht.Pb hp.lt;have jE:=hp.aI;have len:=congrArg List.length jE;simp only[atG]at len;cases hs with
 |skip _ _ _ h=>rw[h]at len;omega
 |FL _ _ _ h=>rw[h]at len;omega
 |pure _ h=>rw[hk]at h;cases h
 |load _ h=>rw[hk]at h;cases h
 |alloc _ h=>rw[hk]at h;cases h
 |call _ h=>rw[hk]at h;cases h
 |effect _ _ _ _ _ _ _ _ _ _ h=>
  rw[h]at len;have:=List.length_filter_le (λq=> !atb (pl.cd.getD p.j 0) q.j) (D p.j).aI;omega
theorem Pe{p q:Piece}(hp:Made ops D p)(hq:Made ops D q)(h:p.j=q.j):p=q:=by
 have h1:=hp.aI;have h2:=hq.aI;rw[h,h2]at h1;exact(avn h1).1.symm
structure rG(ops:Array Oper)(pl:dX)(D:Nat->DS)(N ro:Nat)(gH:Io)(w0:World)(eA:St)(A:Nat->Prop)(m:Nat)(e:Env)(ι:Io)(cur:Nat->Option Ob)(w:World):Prop where
 sub:∀i,A i->i<ops.size
 closed:∀j,A j->∀i,jy pl j i->A i
 env:tH ops D A e
 Pf:m<=ops.size
 Ml:∀i,i<ops.size->bc pl i=.effect->(A i↔i<m)
 last:m=0\/∃i,m=i+1/\A i/\bc pl i=.effect
 wV:zo ro (D ops.size).n gH w0 eA (λid=>(∃j,j<ops.size/\¬A j/\(D j).n<=id/\id<(D (j+1)).n)\/((D ops.size).n<=id/\id<N)) ι cur w
 piece:∀p,Made ops D p->A p.j->tJ ops pl D A p.j->∀id o,p.lo<=id->id<p.hi->p.t.get id=aa o->cur id=aa o
 base:∀id o,(gb (D m).bs).get id=aa o->cur id=aa o
 KF:∀p,Made ops D p->tJ ops pl D A p.j->∀id,p.lo<=id->id<p.hi->(gb (D m).bs).get id=ah
 top:∀id,(D m).n<=id->(gb (D m).bs).get id=ah
 low:∀id,id<ro->id<eA.n->(gb (D m).bs).get id=eA.at id
section phi
variable{gH ι aG:Io}{w0 w w':World}{eA:St}{A:Nat->Prop}{m:Nat}{e:Env}{cur so:Nat->Option Ob}
theorem rG.see(h:rG ops pl D N ro gH w0 eA A m e ι cur w){j n':Nat}{aI:List Piece}(hb:∀i,jy pl j i->A i)(hp:∀p∈aI,Made ops D p/\tJ ops pl D A p.j/\p.hi<=n')(hn:(D m).n<=n'):
 (∀id o,(seen aI (pl.cd.getD j 0) (gb (D m).bs)).get id=aa o->cur id=aa o)/\(∀id,n'<=id->(seen aI (pl.cd.getD j 0) (gb (D m).bs)).get id=ah):=by
 refine⟨λid o hs=>?_,λid hid=>?_⟩
 ·rcases Hy hs with⟨p,Ee,lQ,h1,h2,h3⟩|hs
  ·obtain⟨a,b,_⟩:=hp p Ee;exact h.piece p a (hb _ lQ) b id o h1 h2 h3
  ·exact h.base id o hs
 ·cases hs:(seen aI (pl.cd.getD j 0) (gb (D m).bs)).get id with
  |none=>rfl
  |some o=>
   rcases Hy hs with⟨p,Ee,lQ,h1,h2,h3⟩|hs
   ·obtain⟨_,_,c⟩:=hp p Ee;omega
   ·rw[h.top id (by omega)]at hs;cases hs
theorem tJ.less{A':Nat->Prop}{q:Nat}(h:tJ ops pl D A' q)(hA:∀i,A i->A' i):tJ ops pl D A q:=λi hi=>h i (hA i hi)
theorem rG.next(h:rG ops pl D N ro gH w0 eA A m e ι cur w)(ht:Tr P S pl ro ops D)(hc:∀j,bZ (S j))(hk:∀j,bF (S j)){j:Nat}{e':Env}(hj:j<ops.size)(nJ:¬A j)(hb:∀i,jy pl j i->A i)(fS:bc pl j≠.effect)
 (he:tH ops D (λi=>A i\/i=j) e'){Fr:Nat->Prop}(lP:zo ro (D ops.size).n gH w0 eA Fr aG so w')
 (uP:∀id,((∃i,i<ops.size/\¬(A i\/i=j)/\(D i).n<=id/\id<(D (i+1)).n)\/((D ops.size).n<=id/\id<N))->Fr id)
 (agt:∀id o,¬((D j).n<=id/\id<(D (j+1)).n)->cur id=aa o->so id=aa o)(hr:(D (j+1)).n=(D j).n\/∃p,Made ops D p/\p.j=j)
 (jE:∀p,Made ops D p->p.j=j->∀id o,p.lo<=id->id<p.hi->p.t.get id=aa o->so id=aa o):rG ops pl D N ro gH w0 eA (λi=>A i\/i=j) m e' aG so w' where
 sub:=λi hi=>hi.elim (h.sub i) (λx=>x▸hj)
 closed:=λi hi q hq=>hi.elim (λhi=>.inl (h.closed i hi q hq)) (λx=>.inl (hb q (x▸hq)))
 env:=he
 Pf:=h.Pf
 Ml:=λi hi rH=>by
  rw[<-h.Ml i hi rH];exact⟨λx=>x.elim id (λx=>absurd (x▸rH) fS),.inl⟩
 last:=h.last.imp id (λ⟨i,h1,h2,h3⟩=>⟨i,h1,.inl h2,h3⟩)
 wV:=lP.fr uP
 piece:=λp hp hA hu id o h1 h2 h3=>by
  by_cases oG:p.j=j
  ·exact jE p hp oG id o h1 h2 h3
  ·refine agt id o (λhx=>?_) (h.piece p hp (hA.resolve_right oG) (hu.less λ_ x=>.inl x) id o h1 h2 h3);rw[hp.lo]at h1;rw[hp.hi]at h2;exact oG (ht.apart hc hk hp.lt hj ⟨h1,h2⟩ hx)
 base:=λid o hg=>by
  refine agt id o (λhx=>?_) (h.base id o hg);rcases hr with hr|⟨p,hp,oG⟩
  ·omega
  ·have:=h.KF p hp (λi hi _ OI=>nJ (h.closed i hi j (oG▸OI))) id (by rw[hp.lo,oG];exact hx.1) (by rw[hp.hi,oG];exact hx.2);rw[this]at hg;cases hg
 KF:=λp hp hu=>h.KF p hp (hu.less λ_ x=>.inl x)
 top:=h.top
 low:=h.low
theorem rG.adq(h:rG ops pl D N ro gH w0 eA A m e ι cur w){j:Nat}{e':Env}(hj:j<ops.size)(hb:∀i,jy pl j i->A i)(fS:bc pl j=.effect)(wF:∀i,i<ops.size->bc pl i=.effect->(A i↔i<j))
 (he:tH ops D (λi=>A i\/i=j) e'){Fr:Nat->Prop}(lP:zo ro (D ops.size).n gH w0 eA Fr aG so w')
 (uP:∀id,((∃i,i<ops.size/\¬(A i\/i=j)/\(D i).n<=id/\id<(D (i+1)).n)\/((D ops.size).n<=id/\id<N))->Fr id)
 (jE:∀p,Made ops D p->p.j≠j->A p.j->tJ ops pl D (λi=>A i\/i=j) p.j->∀id o,p.lo<=id->id<p.hi->cur id=aa o->so id=aa o)(aW:∀p,Made ops D p->p.j≠j)
 (V3:∀id o,(gb (D (j+1)).bs).get id=aa o->so id=aa o)
 (ajW:∀p,Made ops D p->tJ ops pl D (λi=>A i\/i=j) p.j->∀id,p.lo<=id->id<p.hi->(gb (D (j+1)).bs).get id=ah)
 (HA:∀id,(D (j+1)).n<=id->(gb (D (j+1)).bs).get id=ah)(aon:∀id,id<ro->id<eA.n->(gb (D (j+1)).bs).get id=eA.at id):
 rG ops pl D N ro gH w0 eA (λi=>A i\/i=j) (j+1) e' aG so w' where
 sub:=λi hi=>hi.elim (h.sub i) (λx=>x▸hj)
 closed:=λi hi q hq=>hi.elim (λhi=>.inl (h.closed i hi q hq)) (λx=>.inl (hb q (x▸hq)))
 env:=he
 Pf:=hj
 Ml:=λi hi rH=>by
  constructor
  ·intro x;rcases x with x|rfl
   ·have:=(wF i hi rH).1 x;omega
   ·omega
  ·intro x;by_cases nI:i=j
   ·exact .inr nI
   ·exact .inl ((wF i hi rH).2 (by omega))
 last:=.inr ⟨j,rfl,.inr rfl,fS⟩
 wV:=lP.fr uP
 piece:=λp hp hA hu id o h1 h2 h3=>jE p hp (aW p hp) (hA.resolve_right (aW p hp)) hu id o h1 h2 (h.piece p hp (hA.resolve_right (aW p hp)) (hu.less λ_ x=>.inl x) id o h1 h2 h3)
 base:=V3
 KF:=ajW
 top:=HA
 low:=aon
end phi
end Go.Ev
namespace Go.Ev
variable{P:Program}{S:Nat->Self}{ro:Nat}{ops:Array Oper}{pl:dX}{D:Nat->DS}{N:Nat}[Sm]
theorem Mm{e:Env}{o:Oper}{n bits:Nat}{v:IV}{aI:List Piece}{b:T Ob}(h:loadAt P e o n v aI bits b=ab):
 ∃σ,av P n (ax e) o ⟨n,seen aI bits b⟩=aa (.val v σ)/\σ.n=n:=by
 unfold loadAt at h;split at h
 ·rename_i u σ he;simp only[asN]at h;rw[Sm.ok _ _ h.2]at he;exact⟨σ,he,Nat.eq_of_beq_eq_true h.1⟩
 ·cases h
theorem GU{e:Env}{o:Oper}{n bits:Nat}{v:IV}{aI:List Piece}{i:Nat}{b:T Ob}{rest:List (Nat×T Ob)}:∀{pre:List (Nat×T Ob)},mv P e o n v aI bits (pre++(i,b)::rest)=ab->
 (∀x∈pre,atb bits x.1≠ab)->loadAt P e o n v aI bits b=ab
 |[],h,_=>by
  simp only[atO,mv,asN]at h;exact h.1
 |x::pre,h,hp=>by
  obtain⟨i',b'⟩:=x;simp only[at4,mv,asN,Bool.or_eq_true]at h;exact GU (h.2.resolve_left (hp (i',b') (by simp))) λy hy=>hp y (by simp[hy])
theorem Yr{i:Nat}{t:Tmp}(h:jx ops i=aa t):i<ops.size:=by
 unfold jx at h;cases ho:ops[i]? with
 |none=>rw[ho]at h;cases h
 |some o=>exact(Array.getElem?_eq_some_iff.1 ho).1
section step
variable{gH ι:Io}{w0 w:World}{eA:St}{A:Nat->Prop}{m:Nat}{e:Env}{cur:Nat->Option Ob}{j:Nat}
theorem rG.reads(h:rG ops pl D N ro gH w0 eA A m e ι cur w)(ht:Tr P S pl ro ops D)(ho:pT ops pl)(hj:j<ops.size)(nJ:¬A j)(hb:∀i,jy pl j i->A i):∀t∈Ar ops j,e.at t=(D j).e.at t:=by
 intro t hm;refine Hz h.env (ht.env ho j (by omega)) λi hd=>?_;have hi:=Yr hd;rcases awb i j with ai|rfl|ai
 ·refine⟨λ_=>ai,λ_=>atA λhn=>?_⟩;exact(ho.free i j ai hj (λhx=>hn (hb i hx))).1 t hd hm
 ·exact⟨λx=>absurd x nJ,λx=>absurd x (by omega)⟩
 ·refine⟨λhA=>absurd hm ?_,λx=>by omega⟩;exact(ho.free j i ai hi (λhx=>nJ (h.closed i hA j hx))).2.1 t hd
theorem rG.order(h:rG ops pl D N ro gH w0 eA A m e ι cur w)(ht:Tr P S pl ro ops D)(ho:pT ops pl)(hj:j<ops.size)(nJ:¬A j)(hb:∀i,jy pl j i->A i)(fS:bc pl j=.effect\/bc pl j=.call):
 (∀i,i<ops.size->bc pl i=.effect->(A i↔i<j))/\m<=j/\(D j).bs=(D m).bs:=by
 have h1:∀i,i<ops.size->bc pl i=.effect->(A i↔i<j):=by
  intro i hi rH;rcases awb i j with ai|rfl|ai
  ·refine⟨λ_=>ai,λ_=>atA λhn=>?_⟩;have:=(ho.free i j ai hj (λhx=>hn (hb i hx))).2.2;rw[rH]at this;rcases fS with fS|fS<;>(rw[fS]at this;cases this)
  ·exact⟨λx=>absurd x nJ,λx=>absurd x (by omega)⟩
  ·refine⟨λhA=>?_,λx=>by omega⟩;have:=(ho.free j i ai hi (λhx=>nJ (h.closed i hA j hx))).2.2;rw[rH]at this;rcases fS with fS|fS<;>(rw[fS]at this;cases this)
 have h2:m<=j:=by
  rcases h.last with hm|⟨i,hm,hA,rH⟩
  ·omega
  ·have:=(h1 i (h.sub i hA) rH).1 hA;omega
 refine⟨h1,h2,ht.Pc h2 (by omega) λi Pj Ys rH=>?_⟩;have:=(h1 i (by omega) rH).2 Ys;have:=(h.Ml i (by omega) rH).1 this;omega
theorem Tr.ajX(ht:Tr P S pl ro ops D)(hj:j<ops.size):(D j).bs≠[]:=by
 obtain⟨_,_,_,_,h,_⟩:=ht.Pb hj;exact h
theorem rG.ajY(h:rG ops pl D N ro gH w0 eA A m e ι cur w)(ht:Tr P S pl ro ops D)(ho:pT ops pl)(hc:∀j,bZ (S j))(hk:∀j,bF (S j))(h0:(D 0).aI=[])(hj:j<ops.size)(nJ:¬A j)(hb:∀i,jy pl j i->A i)
 {o:Oper}{v:IV}(mN:ops[j]?=aa o)(hw:aQ o ops (D j).e=ab)(fS:bc pl j=.load)(hej:(D (j+1)).e=(D j).e.put o.dst v)
 {i0:Nat}{b:T Ob}{rest:List (Nat×T Ob)}(gw:(D j).bs=(i0,b)::rest){σ:St}(he:av P (D j).n (ax (D j).e) o ⟨(D j).n,seen (D j).aI (pl.cd.getD j 0) b⟩=aa (.val v σ))(lg:σ.n=(D j).n)
 (hl:(atb (pl.cd.getD j 0) i0||mv P (D j).e o (D j).n v (D j).aI (pl.cd.getD j 0) rest)=ab):
 ∃aI n' u ao,av P n' (ax e) o ⟨n',seen aI (pl.cd.getD j 0) (gb (D m).bs)⟩=aa (.val u ao)/\ao.n=n'/\(∀p∈aI,Made ops D p/\tJ ops pl D A p.j/\p.hi<=n')/\(D m).n<=n'/\e.put o.dst u=e.put o.dst v:=by
 have jR:=h.reads ht ho hj nJ hb;have pw:e.n=(D j).e.n:=by rw[h.env.n,(ht.env ho j (by omega)).n]
 by_cases IP:m<=j
 ·have jE:∀p∈(D j).aI,Made ops D p/\tJ ops pl D A p.j/\p.hi<=(D j).n:=by
   intro p hp;obtain⟨a,b,c⟩:=ht.aI ho h0 j (by omega) p hp;refine⟨a,λi hA GV=>c i ?_ GV,by rw[a.hi];exact ht.fR hc hk b (by omega)⟩;have:=(h.Ml i (h.sub i hA) GV.1).1 hA;omega
  have N_:=λ(n':Nat) (σ:St)=>qv (P:=P) (ro:=n') (σ:=σ) (tI mN jR pw).1;obtain⟨pre,Pk,yg⟩:=ht.Mk IP (by omega:j<=ops.size);cases pre with
  |nil=>
   have qS:gb (D m).bs=b:=by
    rw[atO]at Pk;rw[<-Pk,gw];rfl
   exact⟨(D j).aI,(D j).n,v,σ,by rw[N_,qS];exact he,lg,jE,ht.fR hc hk IP (by omega),rfl⟩
  |cons x pre=>
   obtain⟨i1,b1,Oa,GO⟩:∃i1 b1 Oa,(D m).bs=(i1,b1)::Oa:=by
    cases hx:(D m).bs with
    |nil=>exact absurd hx (ht.ajX (by omega))
    |cons y ys=>exact⟨y.1,y.2,ys,rfl⟩
   have nob:∀y∈x::pre,atb (pl.cd.getD j 0) y.1≠ab:=by
    intro y hy lQ;obtain⟨g1,g2,g3⟩:=yg y hy;have:=(h.Ml y.1 (by omega) g3).1 (hb y.1 lQ);omega
   rw[gw]at Pk;simp only[at4,atK]at Pk;obtain⟨hx,gr⟩:=Pk
   have Mi:atb (pl.cd.getD j 0) i0=af:=by
    have:=nob x (by simp);rw[<-hx]at this;simpa using this
   rw[Mi,au3,gr,GO]at hl;obtain⟨ao,h1,h2⟩:=Mm (GU hl λy hy=>nob y (by simp[hy]));refine⟨(D j).aI,(D j).n,v,ao,?_,h2,jE,ht.fR hc hk IP (by omega),rfl⟩;rw[N_,GO];exact h1
 ·obtain⟨i,hmi,hA,rH⟩:∃i,m=i+1/\A i/\bc pl i=.effect:=h.last.resolve_left (by omega);have hi:=h.sub i hA;have nI:i≠j:=λhx=>nJ (hx▸hA);have ai:j<i:=by omega
  have ajZ:¬jy pl i j:=λhx=>nJ (h.closed i hA j hx)
  have jE:∀p∈(D m).aI,Made ops D p/\tJ ops pl D A p.j/\p.hi<=(D m).n:=by
   intro p hp;obtain⟨a,b,c⟩:=ht.aI ho h0 m h.Pf p hp;refine⟨a,λi hA GV=>c i ?_ GV,by rw[a.hi];exact ht.fR hc hk b h.Pf⟩;exact(h.Ml i (h.sub i hA) GV.1).1 hA
  have V4:=ht.env ho i (by omega)
  have agu:∀t∈Ar ops j,e.at t=(D i).e.at t:=by
   intro t htm;refine Hz h.env V4 λq hd=>?_;have hq:=Yr hd;rcases awb q j with Yt|rfl|Yt
   ·have:A q:=atA λhn=>(ho.free q j Yt hj (λhx=>hn (hb q hx))).1 t hd htm;exact⟨λ_=>by omega,λ_=>this⟩
   ·exact absurd htm (ho.abA q hj fS t hd)
   ·exact absurd htm (ho.Yn j q Yt hq fS t hd)
  have agv:e.n=(D i).e.n:=by rw[h.env.n,V4.n]
  have N_:=λ(n':Nat) (σ:St)=>qv (P:=P) (ro:=n') (σ:=σ) (tI mN agu agv).1;have gx:aQ o ops (D i).e=ab:=by rw[<-(tI mN agu agv).2,(tI mN jR pw).2,hw]
  have BN:recheck P pl ops (pl.cd.getD i 0) (D i).e (D m).n (D m).aI (gb (D m).bs) (ops.toList.zipIdx.take i)=ab:=by
   obtain⟨o',v',_,_,_,hs⟩:=ht.Pb hi;rw[hmi];cases hs with
   |skip _ _ _ _ hx=>exact absurd rH hx
   |FL _ _ hn hp _ i1 b1 Oa _ cN hr=>rw[hn,hp,cN];exact hr
   |pure _ hx=>rw[rH]at hx;cases hx
   |alloc _ hx=>rw[rH]at hx;cases hx
   |load _ hx=>rw[rH]at hx;cases hx
   |call _ hx=>rw[rH]at hx;cases hx
   |effect _ _ i1 b1 Oa _ aq _ hn cN hp hr=>rw[cN];exact hr
  unfold recheck at BN;rw[List.all_eq_true]at BN
  have jk:(o,j)∈ops.toList.zipIdx.take i:=by
   rw[avP];refine⟨j,?_⟩;rw[List.getElem?_take,if_pos ai,List.getElem?_zipIdx];have:ops.toList[j]?=aa o:=by simpa using mN
   rw[this];simp
  have hx:=BN (o,j) jk;dsimp only at hx;have aoo:pl.kinds.getD j .effect=.load:=fS;rw[aoo]at hx
  have Mi:atb (pl.cd.getD i 0) j=af:=by
   cases hc:atb (pl.cd.getD i 0) j with
   |false=>rfl
   |true=>exact absurd hc ajZ
  rw[Mi,gx]at hx;simp only[avI,au3]at hx;split at hx
  ·rename_i d hd;obtain⟨ao,h1,h2⟩:=Mm hx;refine⟨(D m).aI,(D m).n,(D i).e.at d,ao,?_,h2,jE,asR _,?_⟩
   ·rw[N_];exact h1
   ·rw[hd];have hdj:jx ops j=aa d:=by unfold jx;rw[mN];exact hd
    have aE:(D i).e.at d=(D (j+1)).e.at d:=V4.put j ai d hdj;rw[aE,hej,hd,Env.c_];by_cases hdn:d<e.n
    ·rw[if_pos ⟨by rw[<-pw];exact hdn,rfl⟩]
    ·have bC:∀z:IV,e.put (aa d) z=e:=λz=>by
      have:Nat.blt d e.n=af:=by
       cases hc:Nat.blt d e.n with
       |false=>rfl
       |true=>exact absurd (by simpa using hc) hdn
      simp only[Env.put,this];rfl
     rw[bC,bC]
  ·cases hx
end step
end Go.Ev
namespace Go.Ev
variable{P:Program}{S:Nat->Self}{ro nn:Nat}{ops:Array Oper}{pl:dX}{D:Nat->DS}{N:Nat}{F:Fence}{rd:Option Nat}{Q:Exit->Act->World->Prop}[Sm]
theorem put_defers{a:Act}{dst:Option Tmp}{u:Value}:(a.put dst u).defers=a.defers:=by cases dst<;>rfl
theorem abD{cur:Nat->Option Ob}{σ ao:St}(h:∀id,σ.at id=ah)(hn:ao.n<=σ.n):zn cur σ ao=cur:=by
 funext id;unfold zn;rw[if_neg];rw[h id];intro hx;rcases hx with hx|hx
 ·cases hx
 ·omega
section step
variable{gH ι:Io}{w0 w:World}{eA:St}{A:Nat->Prop}{m:Nat}{e:Env}{cur:Nat->Option Ob}{j:Nat}{a:Act}{K:Act->World->Prop}
theorem rG.step(hS:∀j,ir P (S j) nn)(hC:∀j,eF P (S j))(hm:∀j,bZ (S j))(hk:∀j,bF (S j))(ho:pT ops pl)(ht:Tr P S pl ro ops D)(h0:(D 0).aI=[])(lg:(D 0).n=eA.n)(hnk:(D ops.size).n<=N)(Dq:Inv N gH eA w0)
 (h:rG ops pl D N ro gH w0 eA A m e ι cur w)(hj:j<ops.size)(nJ:¬A j)(hb:∀i,jy pl j i->A i)(hF0:kM F rd gH)(he:di ι e a.tmps)
 (hK:∀m' e' aG so w' a',rG ops pl D N ro gH w0 eA (λi=>A i\/i=j) m' e' aG so w'->di aG e' a'.tmps->a'.defers=a.defers->K a' w'):wpOpIn F 0 P ops Q j K a w:=by
 obtain⟨o,v,mN,hej,asv,hs⟩:=ht.Pb hj;have hF:kM F rd ι:=hF0.mono h.wV.ext;have V5:=ht.env ho j (by omega);have jR:=h.reads ht ho hj nJ hb;have pw:e.n=(D j).e.n:=by rw[h.env.n,V5.n]
 have eB:=tI mN jR pw;have hold:∀t,jx ops j=aa t->(D j).e.at t=(D 0).e.at t:=λt hd=>V5.cL t λi hi hc=>ho.single i j hi hj t hc hd;have BP:tH ops D (λi=>A i\/i=j) (e.put o.dst v):=h.env.step ho h.sub mN nJ hej hold V5.n;have O9:∀id,eA.n<=id->id<(D ops.size).n->∀e,gH id e=ah:=λid h1 h2=>Dq.fresh id h1 (by omega);have hnj:(D j).n<=(D (j+1)).n:=ht.Yp hm hk hj;have abE:eA.n<=(D j).n:=by rw[<-lg];exact ht.fR hm hk (by omega) (by omega)
 have asw:(D (j+1)).n<=(D ops.size).n:=ht.fR hm hk (by omega) (by omega)
 have hX:∀id,((∃i,i<ops.size/\¬(A i\/i=j)/\(D i).n<=id/\id<(D (i+1)).n)\/((D ops.size).n<=id/\id<N))->
  ((∃i,i<ops.size/\¬A i/\(D i).n<=id/\id<(D (i+1)).n)\/((D ops.size).n<=id/\id<N))/\¬((D j).n<=id/\id<(D (j+1)).n):=by
  intro id hx;rcases hx with⟨i,h1,h2,h3⟩|hx
  ·exact⟨.inl ⟨i,h1,λhA=>h2 (.inl hA),h3⟩,λhr=>h2 (.inr (ht.apart hm hk h1 hj h3 hr))⟩
  ·exact⟨.inr hx,λhr=>by omega⟩
 have hFr:∀id,(D j).n<=id->id<(D (j+1)).n->((∃i,i<ops.size/\¬A i/\(D i).n<=id/\id<(D (i+1)).n)\/((D ops.size).n<=id/\id<N)):=λid h1 h2=>.inl ⟨j,hj,nJ,h1,h2⟩
 have KH:(D (j+1)).n=(D j).n->∀p,Made ops D p->p.j=j->∀(so:Nat->Option Ob) id o,p.lo<=id->id<p.hi->p.t.get id=aa o->so id=aa o:=by
  intro hn p hp oG so id o h1 h2;rw[hp.lo,oG]at h1;rw[hp.hi,oG]at h2;omega
 have hbB:∀{i0:Nat} {b:T Ob} {rest:List (Nat×T Ob)},(D j).bs=(i0,b)::rest->(D j).bs=(D m).bs->gb (D m).bs=b:=λh1 h2=>by rw[<-h2,h1];rfl
 have jl:(∀i,i<ops.size->bc pl i=.effect->(A i↔i<j))->∀p∈(D j).aI,Made ops D p/\tJ ops pl D A p.j/\p.hi<=(D j).n:=by
  intro wF p hp;obtain⟨c1,c2,c3⟩:=ht.aI ho h0 j (by omega) p hp;exact⟨c1,λi hA GV=>c3 i ((wF i (h.sub i hA) GV.1).1 hA) GV,by rw[c1.hi];exact ht.fR hm hk c2 (by omega)⟩
 unfold wpOpIn;rw[mN];dsimp only;rw[sN he,eB.2];cases hs with
 |skip hw hv hn hp fS gw=>
  rw[hw];refine⟨λf _=>hF.fn f,?_⟩;subst hv;exact hK m _ ι cur w _ (h.next ht hm hk hj nJ hb fS BP h.wV (λid hx=>(hX id hx).1) (λ_ _ _ hc=>hc) (.inl hn) (λp hp oG=>KH hn p hp oG cur)) (he.put sj _) put_defers
 |FL hw hv hn hp fS i0 b rest gw cN hr=>
  rw[hw];refine⟨λf _=>hF.fn f,?_⟩;subst hv;obtain⟨wF,IP,qS⟩:=h.order ht ho hj nJ hb (.inl fS);have hB:=hbB gw qS;have IQ:gb (D (j+1)).bs=gb (D m).bs:=by rw[cN,hB];rfl
  have nb:=ht.fR hm hk IP (by omega:j<=ops.size);refine hK (j+1) _ ι cur w _ (h.adq hj hb fS wF BP h.wV (λid hx=>(hX id hx).1) (λ_ _ _ _ _ _ _ _ _ hc=>hc) (λp hp oG=>Pd ht hp (by rw[oG];exact fS)) ?_ ?_ ?_ ?_) (he.put sj _) put_defers
  ·rw[IQ];exact h.base
  ·rw[IQ];exactλp hp hu=>h.KF p hp (hu.less λ_ x=>.inl x)
  ·rw[IQ];exactλid hid=>h.top id (by omega)
  ·rw[IQ];exact h.low
 |pure hw fS hn hp gw σ fH IS=>
  rw[hw];have hx:jP P (S j) 0 e o ⟨0,.lf⟩=aa (v,σ):=by unfold jP;rw[qv eB.1,fH]
  refine AT (N:=0) (hS j) (hC j) (hm j) hx (by omega) hF (h.wV.toGn.inv (λid o hs=>by cases hs) (λid h1 h2=>by omega) (λ_ _=>rfl)) he λu w' aG hv da hl=>?_;have lP:=h.wV.step O9 (λid o hs=>by cases hs) (λid h1 h2=>by omega) (λid _ hs=>by cases hs) (λ_ _=>rfl) da hl;rw[abD (λ_=>rfl) (by omega)]at lP;exact hK m _ aG cur w' _ (h.next ht hm hk hj nJ hb (by rw[fS];simp) BP lP (λid hx=>⟨(hX id hx).1,λhh=>by omega⟩) (λ_ _ _ hc=>hc) (.inl hn) (λp hp oG=>KH hn p hp oG cur)) ((he.mono hl.ext).put hv _) put_defers
 |alloc hw fS gw σ fH hn hp=>
  rw[hw];have hx:jP P (S j) 0 e o ⟨(D j).n,.lf⟩=aa (v,σ):=by unfold jP;rw[qv eB.1,fH]
  refine AT (N:=(D (j+1)).n) (hS j) (hC j) (hm j) hx (by omega) hF (h.wV.toGn.inv (λid o hs=>by cases hs) (λid h1 h2=>hFr id h1 h2) (λ_ _=>rfl)) he λu w' aG hv da hl=>?_;have lP:=h.wV.step O9 (λid o hs=>by cases hs) (λid h1 h2=>⟨atd abE h1,by omega⟩) (λid _ hs=>by cases hs) (λ_ _=>rfl) da hl;have O6:Made ops D ⟨j,(D j).n,σ.n,σ.t⟩:=⟨hj,rfl,hn.symm,hp⟩;refine hK m _ aG _ w' _ (h.next ht hm hk hj nJ hb (by rw[fS];simp) BP lP (λid hx=>⟨(hX id hx).1,λhh=>(hX id hx).2 (by rw[hn];exact hh)⟩) (λid o hr hc=>?_) (.inr ⟨_,O6,rfl⟩) (λp l6 oG id o h1 h2 h3=>?_)) ((he.mono hl.ext).put hv _) put_defers
  ·unfold zn;rw[if_neg,hc];intro hx;rcases hx with hx|hx
   ·cases hx
   ·exact hr (by rw[hn];exact hx)
  ·have Ed:=Pe l6 O6 oG;subst Ed;unfold zn;rw[if_pos (.inr ⟨h1,h2⟩)];exact h3
 |load hw fS hn hp gw i0 b rest Ef σ fH IS wR=>
  rw[hw];obtain⟨aI,n',u',ao,aop,asx,GW,nb,Hw⟩:=h.ajY ht ho hm hk h0 hj nJ hb mN hw fS hej Ef fH IS wR;obtain⟨fz,jF⟩:=h.see hb GW nb;have hx:jP P (S j) n' e o ⟨n',seen aI (pl.cd.getD j 0) (gb (D m).bs)⟩=aa (u',ao):=by unfold jP;rw[aop]
  refine AT (N:=n') (hS j) (hC j) (hm j) hx (by omega) hF (h.wV.toGn.inv fz (λid h1 h2=>by dsimp only at h1;omega) jF) he λu w' aG hv da hl=>?_;have lP:=h.wV.step (σ:=⟨n',seen aI (pl.cd.getD j 0) (gb (D m).bs)⟩) O9 fz (λid h1 h2=>by dsimp only at h1;omega) (λid _ hs=>?_) jF da hl
  ·have zp:zn cur ⟨n',seen aI (pl.cd.getD j 0) (gb (D m).bs)⟩ ao=cur:=by
    funext id;unfold zn;split
    ·rename_i hc;have hs:((⟨n',seen aI (pl.cd.getD j 0) (gb (D m).bs)⟩:St).at id).isSome:=hc.resolve_right (by dsimp only;omega);obtain⟨x,hx⟩:=avt.1 hs;have ai:id<n':=avM λhle=>by have:=jF id hle;rw[show(⟨n',seen aI (pl.cd.getD j 0) (gb (D m).bs)⟩:St).at id=_ from this]at hx;cases hx
     rw[hl.wE id ai ai,hx];exact(fz id x hx).symm
    ·rfl
   rw[zp]at lP;have aoq:di aG (e.put o.dst v) (a.put o.dst u).tmps:=by rw[<-Hw];exact(he.mono hl.ext).put hv _
   exact hK m _ aG cur w' _ (h.next ht hm hk hj nJ hb (by rw[fS];simp) BP lP (λid hx=>⟨(hX id hx).1,λhh=>by dsimp only at hh;omega⟩) (λ_ _ _ hc=>hc) (.inl hn) (λp hp oG=>KH hn p hp oG cur)) aoq put_defers
  ·exact avM λhle=>by
    have:=jF id hle;rw[show(⟨n',seen aI (pl.cd.getD j 0) (gb (D m).bs)⟩:St).at id=_ from this]at hs;cases hs
 |call hw fS gw i0 b rest Ef σ fH hn hp=>
  rw[hw];obtain⟨wF,IP,qS⟩:=h.order ht ho hj nJ hb (.inr fS);have hB:=hbB Ef qS;have nb:=ht.fR hm hk IP (by omega:j<=ops.size);obtain⟨fz,jF⟩:=h.see hb (jl wF) nb;rw[hB]at fz jF
  have hx:jP P (S j) (D j).n e o ⟨(D j).n,seen (D j).aI (pl.cd.getD j 0) b⟩=aa (v,σ):=by
   rw[<-fH];unfold jP;rw[qv eB.1]
  have ai:∀id,((⟨(D j).n,seen (D j).aI (pl.cd.getD j 0) b⟩:St).at id).isSome=ab->id<(D j).n:=λid hs=>avM λhle=>by
   have:=jF id hle;rw[show(⟨(D j).n,seen (D j).aI (pl.cd.getD j 0) b⟩:St).at id=_ from this]at hs;cases hs
  refine AT (N:=(D (j+1)).n) (hS j) (hC j) (hm j) hx (by omega) hF (h.wV.toGn.inv fz (λid h1 h2=>hFr id h1 h2) jF) he λu w' aG hv da hl=>?_;have lP:=h.wV.step (σ:=⟨(D j).n,seen (D j).aI (pl.cd.getD j 0) b⟩) O9 fz (λid h1 h2=>⟨atd abE h1,by omega⟩) (λid _ hs=>ai id hs) jF da hl;have O6:Made ops D ⟨j,(D j).n,σ.n,σ.t⟩:=⟨hj,rfl,hn.symm,hp⟩;refine hK m _ aG _ w' _ (h.next ht hm hk hj nJ hb (by rw[fS];simp) BP lP (λid hx=>⟨(hX id hx).1,λhh=>(hX id hx).2 (by rw[hn];exact hh)⟩) (λid o hr hc=>?_) (.inr ⟨_,O6,rfl⟩) (λp l6 oG id o h1 h2 h3=>?_)) ((he.mono hl.ext).put hv _) put_defers
  ·unfold zn;split
   ·rename_i mO;have hs:=mO.resolve_right (λhx=>hr (by rw[hn];exact hx));obtain⟨x,hx⟩:=avt.1 hs;rw[hl.wE id (ai id hs) (ai id hs),hx,<-fz id x hx];exact hc
   ·exact hc
  ·have Ed:=Pe l6 O6 oG;subst Ed;unfold zn;rw[if_pos (.inr ⟨h1,h2⟩)];exact h3
 |effect hw fS i0 b rest Ef σ fH hn cN hp hr=>
  rw[hw];obtain⟨wF,IP,qS⟩:=h.order ht ho hj nJ hb (.inl fS);have hB:=hbB Ef qS;have IQ:gb (D (j+1)).bs=σ.t:=by rw[cN];rfl
  have nb:=ht.fR hm hk IP (by omega:j<=ops.size);obtain⟨fz,jF⟩:=h.see hb (jl wF) nb;rw[hB]at fz jF
  have hx:jP P (S j) ro e o ⟨(D j).n,seen (D j).aI (pl.cd.getD j 0) b⟩=aa (v,σ):=by
   rw[<-fH];unfold jP;rw[qv eB.1]
  have hwj:Ty ops pl D j:=⟨fS,o,mN,hw⟩
  have mT:∀p,Made ops D p->tJ ops pl D (λi=>A i\/i=j) p.j->∀id,p.lo<=id->id<p.hi->(seen (D j).aI (pl.cd.getD j 0) b).get id=ah:=by
   intro p l6 hu id h1 h2;cases Dr:(seen (D j).aI (pl.cd.getD j 0) b).get id with
   |none=>rfl
   |some x=>
    rcases Hy Dr with⟨q,hq,lQ,g1,g2,g3⟩|Dr
    ·obtain⟨Dk,_,_⟩:=jl wF q hq
     have:q.j=p.j:=by
      rw[Dk.lo]at g1;rw[Dk.hi]at g2;rw[l6.lo]at h1;rw[l6.hi]at h2;exact ht.apart hm hk Dk.lt l6.lt ⟨g1,g2⟩ ⟨h1,h2⟩
     exact absurd (show jy pl j p.j by rw[<-this];exact lQ) (hu j (.inr rfl) hwj)
    ·rw[<-hB,h.KF p l6 (hu.less λ_ x=>.inl x) id h1 h2]at Dr;cases Dr
  have aW:∀p,Made ops D p->p.j≠j:=λp l6 oG=>Pd ht l6 (by rw[oG];exact fS)
  have agw:∀p,Made ops D p->∀id,p.lo<=id->id<p.hi->¬((D j).n<=id/\id<σ.n):=λp l6 id h1 h2 hx=>by
   rw[l6.lo]at h1;rw[l6.hi]at h2;exact aW p l6 (ht.apart hm hk l6.lt hj ⟨h1,h2⟩ (by rw[hn];exact hx))
  refine AT (N:=(D (j+1)).n) (hS j) (hC j) (hm j) hx (by omega) hF (h.wV.toGn.inv fz (λid h1 h2=>hFr id h1 h2) jF) he λu w' aG hv da hl=>?_;have lP:=h.wV.step (σ:=⟨(D j).n,seen (D j).aI (pl.cd.getD j 0) b⟩) O9 fz (λid h1 h2=>⟨atd abE h1,by omega⟩) (λid hr _=>hr) jF da hl;refine hK (j+1) _ aG _ w' _ (h.adq hj hb fS wF BP lP (λid hx=>⟨(hX id hx).1,λhh=>(hX id hx).2 (by rw[hn];exact hh)⟩) (λp l6 oG hA hu id o h1 h2 hc=>?_) aW ?_ ?_ ?_ ?_) ((he.mono hl.ext).put hv _) put_defers
  ·unfold zn;rw[if_neg]
   ·exact hc
   ·intro hx;rcases hx with hx|hx
    ·rw[show(⟨(D j).n,seen (D j).aI (pl.cd.getD j 0) b⟩:St).at id=_ from mT p l6 hu id h1 h2]at hx;cases hx
    ·exact agw p l6 id h1 h2 hx
  ·rw[IQ];intro id o hg;unfold zn;split
   ·exact hg
   ·rename_i hx
    have kz:(⟨(D j).n,seen (D j).aI (pl.cd.getD j 0) b⟩:St).at id=ah:=by
     cases hs:(⟨(D j).n,seen (D j).aI (pl.cd.getD j 0) b⟩:St).at id with
     |none=>rfl
     |some y=>exact absurd (.inl (by rw[hs];rfl)) hx
    have arZ:¬((D j).n<=id/\id<σ.n):=λhh=>hx (.inr hh);have:=hl.dead id kz (by dsimp only;omega);rw[show σ.at id=_ from hg]at this;cases this
  ·rw[IQ];intro p l6 hu id h1 h2;have:=agw p l6 id h1 h2;exact hl.dead id (mT p l6 hu id h1 h2) (by dsimp only;omega)
  ·rw[IQ];intro id hid;exact hl.dead id (jF id (by omega)) (.inr (by omega))
  ·rw[IQ];intro id IT ai;rw[show σ.t.get id=σ.at id from rfl,hl.wE id IT (by dsimp only;omega)];show(seen (D j).aI (pl.cd.getD j 0) b).get id=_;rw[abB,<-hB]
   ·exact h.low id IT ai
   ·intro p l6;obtain⟨c1,c2,_⟩:=ht.aI ho h0 j (by omega) p l6;rw[c1.lo];have:=ht.fR hm hk (atE p.j) (by have:=c1.lt;omega);omega
end step
end Go.Ev
namespace Go.Ev
variable{P:Program}{S:Nat->Self}{ro nn:Nat}{ops:Array Oper}{pl:dX}{D:Nat->DS}{N:Nat}{F:Fence}{rd:Option Nat}{Q:Exit->Act->World->Prop}[Sm]
def rI(listed:Array Bool)(i:Nat):Prop:=listed[i]?=aa ab
theorem ae0{listed:Array Bool}{j:Nat}(hj:j<listed.size):rI (listed.setIfInBounds j ab)=λi=>rI listed i\/i=j:=by
 funext i;refine propext ?_;unfold rI;rw[Array.getElem?_setIfInBounds];by_cases nI:j=i
 ·subst nI;simp[hj]
 ·simp[nI,Ne.symm nI]
theorem Mn{listed:Array Bool}{j:Nat}(h:j∈au4 .any ops listed):j<ops.size/\listed[j]?=aa af/\∃o,ops[j]?=aa o/\∀e∈o.after.toList,auF .any e=ab->rI listed e.on:=by
 unfold au4 at h;rw[atW,avv]at h;obtain⟨ai,h⟩:=h;rw[asN]at h;refine⟨ai,?_,ops[j],atj ai,λe he hb=>?_⟩
 ·have h1:=h.1;rw[at3]at h1;cases hx:listed[j]? with
  |none=>rw[hx]at h1;cases h1
  |some b=>rw[hx]at h1;cases b with
   |false=>rfl
   |true=>cases h1
 ·have h2:=h.2;rw[atj ai]at h2;simp only[atl,atH]at h2;rw[aw7]at h2;have:=h2 e (by simpa using he);rw[hb,avI,au3,at3]at this;unfold rI;cases hx:listed[e.on]? with
  |none=>rw[hx]at this;cases this
  |some b=>rw[hx]at this;cases b with
   |false=>cases this
   |true=>rfl
theorem Yu(ho:pT ops pl){listed:Array Bool}(aU:listed.size=ops.size)(h:au4 .any ops listed=[]):∀i,i<ops.size->rI listed i:=by
 intro i;induction i using Nat.strongRecOn with
 |_ i ih=>
  intro hi;refine atA λhn=>?_
  have hf:listed[i]?=aa af:=by
   rw[atj (by omega)];cases hx:listed[i]'(by omega)with
   |false=>rfl
   |true=>exact absurd (by unfold rI;rw[atj (by omega),hx]) hn
  have hm:i∈au4 .any ops listed:=by
   unfold au4;rw[atW,avv];refine⟨hi,?_⟩;rw[at3,hf,atj hi];simp only[atH,Bool.not_false,Bool.true_and,atl];rw[aw7];intro e he;cases hb:auF .any e with
   |false=>rfl
   |true=>
    have ai:=ho.back i _ (atj hi) e (by simpa using he) hb;have:=ih e.on ai (by omega);unfold rI at this;rw[at3,this];rfl
  rw[h]at hm;cases hm
section any
variable{gH:Io}{w0:World}{eA:St}{a0:Act}
theorem agx(hS:∀j,ir P (S j) nn)(hC:∀j,eF P (S j))(hm:∀j,bZ (S j))(hk:∀j,bF (S j))(ho:pT ops pl)(ht:Tr P S pl ro ops D)(h0:(D 0).aI=[])(lg:(D 0).n=eA.n)(hnk:(D ops.size).n<=N)(Dq:Inv N gH eA w0)
 (hF0:kM F rd gH)(sq:∀m e ι cur w a,rG ops pl D N ro gH w0 eA (λi=>i<ops.size) m e ι cur w->di ι e a.tmps->a.defers=a0.defers->Q .normal a w):
 ∀(fuel:Nat) (listed:Array Bool) (m:Nat) (e:Env) (ι:Io) (cur:Nat->Option Ob) (w:World) (a:Act),listed.size=ops.size->listed.toList.count af<=fuel->rG ops pl D N ro gH w0 eA (rI listed) m e ι cur w->
  di ι e a.tmps->a.defers=a0.defers->wpAnyIn F 0 P .any ops Q fuel listed a w:=by
 have bg:∀(listed:Array Bool) (m:Nat) (e:Env) (ι:Io) (cur:Nat->Option Ob) (w:World) (a:Act),listed.size=ops.size->(∀i,i<ops.size->rI listed i)->rG ops pl D N ro gH w0 eA (rI listed) m e ι cur w->
  di ι e a.tmps->a.defers=a0.defers->Q .normal a w:=by
  intro listed m e ι cur w a aU hl h he hd
  have:rI listed=λi=>i<ops.size:=by
   funext i;refine propext ⟨λhx=>h.sub i hx,hl i⟩
  rw[this]at h;exact sq m e ι cur w a h he hd
 intro fuel;induction fuel with
 |zero=>
  intro listed m e ι cur w a aU hc h he hd
  have hl:∀i,i<ops.size->rI listed i:=by
   intro i hi;have ai:i<listed.size:=by omega
   unfold rI;rw[atj ai];cases hx:listed[i]with
   |true=>rfl
   |false=>
    have jk:af∈listed.toList:=by
     rw[avP];exact⟨i,by rw[auM,atj ai,hx]⟩
    have:=List.count_pos_iff.2 jk;omega
  refine⟨?_,bg listed m e ι cur w a aU hl h he hd⟩;cases hr:au4 .any ops listed with
  |nil=>rfl
  |cons x xs=>
   obtain⟨h1,h2,_⟩:=Mn (show x∈au4 .any ops listed by rw[hr];simp);have:=hl x h1;unfold rI at this;rw[this]at h2;cases h2
 |succ fuel ih=>
  intro listed m e ι cur w a aU hc h he hd;refine⟨λhr=>bg listed m e ι cur w a aU (Yu ho aU hr) h he hd,λj hj=>?_⟩;obtain⟨hjs,hlj,o,mN,aor⟩:=Mn hj;have nJ:¬rI listed j:=λhx=>by unfold rI at hx;rw[hlj]at hx;cases hx
  have hb:∀i,jy pl j i->rI listed i:=by
   intro i lQ;obtain⟨e',ic,Mo,hh⟩:=ho.bits j o mN i lQ;have:=aor e' ic Mo;rcases hh with rfl|hh
   ·exact this
   ·exact h.closed _ this i hh
  refine h.step hS hC hm hk ho ht h0 lg hnk Dq hjs nJ hb hF0 he λm' e' aG so w' a' hP ic wj=>?_;rw[<-ae0 (by omega)]at hP;refine ih _ m' e' aG so w' a' (by simp[aU]) ?_ hP ic (wj.trans hd);have Ds:j<listed.toList.length:=by simp;omega
  have hjv:listed.toList[j]=af:=by
   have:listed.toList[j]?=aa af:=by rw[auM];exact hlj
   rw[List.getElem?_eq_getElem Ds]at this;exact avB this
  rw[Array.toList_setIfInBounds,List.count_set Ds,hjv];have e1:(if(af==af)=ab then 1 else 0)=1:=rfl;have e2:(if(ab==af)=ab then 1 else 0)=0:=rfl;rw[e1,e2];omega
end any
theorem HB(fi:P.follows .mixedOrders=ab)(hS:∀j,ir P (S j) nn)(hC:∀j,eF P (S j))(hm:∀j,bZ (S j))(hk:∀j,bF (S j)):
 ∀N ro rd ops e df σ cr,qt P S ro ops e df σ=aa cr->cr.σ.n<=N->∀F ι a w Q id,kM F rd ι->Inv N ι σ w->di ι e a.tmps->ki ι df a.defers->nU N ro ι w σ cr Q->(Code.region id ops ab).wpIn F 0 P Q a w:=by
 intro N ro rd ops e df σ cr h hN F ι a w Q id hF hi he hd hQ;unfold qt at h;dsimp only at h;split at h
 ·rename_i bz;split at h
  ·rename_i e' n i b rest aI II;cases h;obtain⟨ht,cH⟩:=abC II;generalize hDd:oF P S (dG ops) ro ops ⟨e,σ.n,[(0,σ.t)],[]⟩=D at ht cH;have Pl:D 0=⟨e,σ.n,[(0,σ.t)],[]⟩:=by rw[<-hDd];rfl
   have ho:=agr bz;have hn:(D ops.size).n=n:=by rw[<-cH]
   have da:Inv N ι σ {w with drawn:=w.drawn+1}:=hi.same rfl;have hle:Le ro ι w σ ι {w with drawn:=w.drawn+1} σ:=Le.same rfl rfl rfl rfl
   have aos:σ.n<=N:=by
    have:=ht.fR hm hk (atE ops.size) (asR _);rw[hn,Pl]at this;exact atd this hN
   have hQ':=hQ.from hi hle aos;refine wpIn_region_any fi ?_;have Eg:gb (D 0).bs=σ.t:=by rw[Pl];rfl
   have lg:(D 0).n=σ.n:=by rw[Pl]
   have aot:rG ops (dG ops) D N ro ι {w with drawn:=w.drawn+1} σ (rI (aub ops.size af)) 0 e ι σ.at {w with drawn:=w.drawn+1}:=by
    have bC:∀i,¬rI (aub ops.size af) i:=by
     intro i hx;unfold rI at hx;rw[Array.getElem?_replicate]at hx;split at hx<;>cases hx
    refine⟨λi hx=>absurd hx (bC i),λj hx=>absurd hx (bC j),⟨by rw[Pl],λj hx=>absurd hx (bC j),λt _=>by rw[Pl]⟩,atE _,λi _ _=>⟨λhx=>absurd hx (bC i),λhx=>absurd hx (Nat.not_lt_zero _)⟩,.inl rfl,
     (zo.start da (by rw[hn];exact hN)).fr ?_,λp _ hx=>absurd hx (bC _),?_,?_,?_,?_⟩
    ·intro id hx;rcases hx with⟨j,hj,_,h1,h2⟩|⟨h1,h2⟩
     ·have g1:=ht.fR hm hk (atE j) (by omega);have g2:=ht.fR hm hk (show j+1<=ops.size from hj) (asR _);exact⟨by omega,by have:n<=N:=hN;omega⟩
     ·have g1:=ht.fR hm hk (atE ops.size) (asR _);exact⟨by omega,h2⟩
    ·rw[Eg];exactλ_ _ h=>h
    ·rw[Eg];intro p hp _ id h1 _;have g1:=ht.fR hm hk (atE p.j) (by have:=hp.lt;omega);exact hi.wf id (by rw[hp.lo]at h1;omega)
    ·rw[Eg,lg];exact hi.wf
    ·rw[Eg];exactλ_ _ _=>rfl
   refine agx (a0:=a) hS hC hm hk ho ht (by rw[Pl]) lg (by rw[hn];exact hN) da hF ?_ ops.size _ 0 e ι σ.at _ a (by simp) ?_ aot he rfl
   ·intro m e1 cq cur w1 a1 hp mP AS
    have gw:(D ops.size).bs=(D m).bs:=ht.Pc hp.Pf (asR _) λi h1 h2 rH=>by
     have:=(hp.Ml i h2 rH).1 h2;omega
    have hB:gb (D m).bs=b:=by rw[<-gw,<-cH];rfl
    have jE:(D ops.size).aI=aI:=by rw[<-cH]
    have jl:∀p∈aI,Made ops D p/\tJ ops (dG ops) D (λi=>i<ops.size) p.j/\p.hi<=n:=by
     intro p Ee;obtain⟨c1,c2,c3⟩:=ht.aI ho (by rw[Pl]) ops.size (asR _) p (by rw[jE];exact Ee);exact⟨c1,λi hA GV=>c3 i hA GV,by rw[c1.hi,<-hn];exact ht.fR hm hk c2 (asR _)⟩
    have lP:=hp.wV;rw[hn]at lP;have nb:=ht.fR hm hk hp.Pf (asR _);have h0n:=ht.fR hm hk (atE ops.size) (asR _)
    obtain⟨i1,l1⟩:=lP.fin (N:=N) (t:=aI.foldl dB b) (by omega) (λid h1 h2=>.inr ⟨h1,h2⟩) (λid o hg=>by
     rcases BO _ _ _ _ hg with⟨p,Ee,g1,g2,g3⟩|hg
     ·obtain⟨c1,c2,_⟩:=jl p Ee;exact hp.piece p c1 c1.lt c2 id o g1 g2 g3
     ·exact hp.base id o (by rw[hB];exact hg))
     (λid hid=>by
      cases hg:(aI.foldl dB b).get id with
      |none=>rfl
      |some o=>
       rcases BO _ _ _ _ hg with⟨p,Ee,g1,g2,g3⟩|hg
       ·obtain⟨_,_,c3⟩:=jl p Ee;omega
       ·rw[<-hB,hp.top id (by omega)]at hg;cases hg)
     (λid hr ai=>by
      rw[Hx,<-hB]
      ·exact hp.low id hr ai
      ·intro p Ee;obtain⟨c1,_,_⟩:=jl p Ee;rw[c1.lo];have:=ht.fR hm hk (atE p.j) (by have:=c1.lt;omega);omega)
    have BP:di cq e' a1.tmps:=by
     have AO:=ht.env ho ops.size (asR _);have L8:(D ops.size).e=e':=by rw[<-cH]
     refine⟨by rw[<-L8,AO.n,<-hp.env.n];exact mP.1,λt=>?_⟩;rw[<-L8,<-Hz hp.env AO (t:=t) λi _=>Iff.rfl];exact mP.2 t
    exact hQ' a1 w1 cq [] i1 l1 BP (by rw[AS];exact hd.mono l1.ext) trivial
   ·rw[Array.toList_replicate,List.count_replicate];simp
  ·cases h
 ·cases h
omit [Sm]in
theorem Tz{U:Self}(fi:P.follows .mixedOrders=ab)(hS:ir P U nn)(hC:eF P U)(hm:bZ U)(hk:bF U):O3 P U:=
 @HB _ _ _ OA fi (λ_=>hS) (λ_=>hC) (λ_=>hm) (λ_=>hk)
end Go.Ev
namespace Go.Ev
open Go.RowKit
variable{P:Program}
end Go.Ev
namespace Go.Ev
variable{P:Program}{N ro m:Nat}{ι:Io}{w:World}{σ:St}{e:Env}{a:Act}{F:Fence}{rd:Option Nat}{Q:Exit->Act->World->Prop}{fn:FuncId}{df:List Df}{cr:CR}
def fP(P:Program)(ro:Nat)(rd:Option Nat)(fn:FuncId)(c:Code)(e:Env)(df:List Df)(σ:St)(cr:CR):Prop:=
 σ.n<=cr.σ.n/\∃m0,∀m,m0<=m->∀N,cr.σ.n<=N->∀F ι a w Q,kM F rd ι->Inv N ι σ w->di ι e a.tmps->ki ι df a.defers->nU N ro ι w σ cr Q->VX F P m c Q a w
def gP(P:Program)(ro:Nat)(f:FuncId)(args:List IV)(σ:St)(v:IV)(ao:St):Prop:=
 σ.n<=ao.n/\∀N,ao.n<=N->∀ι us w,Inv N ι σ w->aB ι args us->CallsIn ato 0 P f us.toArray w (w9 N ro ι w σ v ao)
def su(P:Program)(ro:Nat)(rd:Option Nat)(ops:Array Oper)(l:List Oper)(e:Env)(df:List Df)(σ:St)(cr:CR):Prop:=
 σ.n<=cr.σ.n/\∀N,cr.σ.n<=N->∀F ι a w Q k,ops.toList.drop k=l->kM F rd ι->Inv N ι σ w->di ι e a.tmps->ki ι df a.defers->nU N ro ι w σ cr Q->
  wpOpsIn F 0 P ops Q (avb k l.length) a w
theorem fP.mk{c:Code}(hn:σ.n<=cr.σ.n)(hl:∀b,c≠.loop b)(h:∀N,cr.σ.n<=N->∀F ι a w Q,kM F rd ι->Inv N ι σ w->di ι e a.tmps->ki ι df a.defers->nU N ro ι w σ cr Q->c.wpIn F 0 P Q a w):fP P ro rd fn c e df σ cr:=by
 refine⟨hn,0,λm _ N hN F ι a w Q hF hi he hd hQ=>?_⟩;have:=h N hN F ι a w Q hF hi he hd hQ;cases c<;>first|exact this|exact absurd rfl (hl _)
theorem fP.wp{c:Code}(h:fP P ro rd fn c e df σ cr)(hN:cr.σ.n<=N)(hF:kM F rd ι)(hi:Inv N ι σ w)(he:di ι e a.tmps)(hd:ki ι df a.defers)(hQ:nU N ro ι w σ cr Q):c.wpIn F 0 P Q a w:=by
 obtain⟨_,m0,h⟩:=h;exact(h m0 (asR _) N hN F ι a w Q hF hi he hd hQ).wp
theorem fP.seq{x y:Code}{e1:Env}{wU:List Df}{aq:St}(h:fP P ro rd fn x e df σ ⟨.normal,e1,wU,aq⟩)(k:fP P ro rd fn y e1 wU aq cr):fP P ro rd fn (.seq x y) e df σ cr:=by
 refine .mk (atd h.1 k.1) (by simp) λN hN F ι a w Q hF hi he hd hQ=>wpIn_seq ?_;have dO:aq.n<=N:=atd k.1 hN;refine h.wp dO hF hi he hd ?_;intro a1 w1 cq fc i1 l1 dc d1 p1;exact k.wp hN (hF.mono l1.ext) i1 dc d1 (hQ.from hi l1 dO)
theorem fP.cond{c:Operand}{x y:Code}{t:Bool}(hc:ax e c=.raw (.bool t))(h:fP P ro rd fn (if t then x else y) e df σ cr):fP P ro rd fn (.cond c x y) e df σ cr:=
 .mk h.1 (by simp) λN hN F ι a w Q hF hi he hd hQ=>wpIn_cond (Hv hc (he.eval c)) (h.wp hN hF hi he hd hQ)
theorem fP.Mp{id:Nat}{x:Code}(h:fP P ro rd fn x e df σ cr)(hx:cr.ex≠.exit id):fP P ro rd fn (.block id x) e df σ cr:=by
 refine .mk h.1 (by simp) λN hN F ι a w Q hF hi he hd hQ=>wpIn_block (h.wp hN hF hi he hd ?_);intro a1 w1 cq fc i1 l1 dc d1 p1;have:=hQ a1 w1 cq fc i1 l1 dc d1 p1;cases hc:cr.ex with
 |exit bB=>
  have aW:bB≠id:=λh=>hx (by rw[hc,h]);rw[hc]at this;simp only[Hu,Exit.inBlock,if_neg aW];exact this
 |_=>rw[hc]at this;exact this
theorem fP.region{id:Nat}{ops:Array Oper}(h:su P ro rd ops ops.toList e df σ cr):fP P ro rd fn (.region id ops af) e df σ cr:=by
 refine .mk h.1 (by simp) λN hN F ι a w Q hF hi he hd hQ=>wpIn_region ?_;have:=h.2 N hN F ι a w Q 0 (by simp) hF hi he hd hQ;rw[List.range_eq_range'];simpa using this
variable{ops:Array Oper}{o:Oper}{l:List Oper}
theorem su.nil:su P ro rd ops [] e df σ ⟨.normal,e,df,σ⟩:=
 ⟨asR _,λ_ _ _ ι a w _ _ _ _ hi he hd hQ=>hQ a w ι [] hi (Le.refl _ _ _ _) he hd trivial⟩
theorem su.cons(hn:σ.n<=cr.σ.n)(hw:aQ o ops e=ab)
 (h:∀N,cr.σ.n<=N->∀F ι a w Q k,ops.toList.drop (k+1)=l->kM F rd ι->Inv N ι σ w->di ι e a.tmps->ki ι df a.defers->nU N ro ι w σ cr Q->
  o.wpIn F 0 P a w (wpOpsIn F 0 P ops Q (avb (k+1) l.length)) Q):su P ro rd ops (o::l) e df σ cr:=by
 refine⟨hn,λN hN F ι a w Q k hl hF hi he hd hQ=>?_⟩
 have gr:ops.toList.drop (k+1)=l:=by
  rw[<-List.drop_drop (i:=1) (j:=k),hl];rfl
 have bz:ops[k]?=aa o:=by
  have:(ops.toList.drop k)[0]?=aa o:=by rw[hl];rfl
  simpa using this
 simp only[atG,List.range'_succ];rw[wpOpsIn_cons];unfold wpOpIn;rw[bz];simp only;rw[sN he,if_pos hw];exact h N hN F ι a w Q k gr hF hi he hd hQ
theorem su.val{v:IV}{aq:St}(hw:aQ o ops e=ab)(hv:av P ro (ax e) o σ=aa (.val v aq))(h:su P ro rd ops l (e.put o.dst v) df aq cr):su P ro rd ops (o::l) e df σ cr:=by
 refine .cons (atd (my hv) h.1) hw λN hN F ι a w Q k hl hF hi he hd hQ=>?_;have dO:aq.n<=N:=atd h.1 hN;refine⟨λf _=>hF.fn f,?_⟩;rw[Oper.semAt_eq _ _ _ (iu hv (by simp))];obtain⟨u,w',aG,hr,h2,h3,h4⟩:=pq hi he.eval hv dO
 have key:wpOpsIn F 0 P ops Q (avb (k+1) l.length) (a.put o.dst u) w':=
  h.2 N hN F aG _ w' Q (k+1) hl (hF.mono h4.ext) h3 ((he.mono h4.ext).put h2 _) (hd.mono h4.ext|>λx=>by cases o.dst<;>exact x) (hQ.from hi h4 dO)
 rcases hr with hr|⟨hr,rfl⟩
 ·rw[hr,Oper.uponIn_value];exact key
 ·rw[hr,Oper.uponIn_skip];exact key
theorem su.defer{d:Df}(hw:aQ o ops e=ab)(hv:av P ro (ax e) o σ=aa (.Te d))(h:su P ro ah ops l (e.put o.dst .undef) (d::df) σ cr):su P ro ah ops (o::l) e df σ cr:=by
 refine .cons h.1 hw λN hN F ι a w Q k hl hF hi he hd hQ=>?_
 have Yl:F=ato:=by
  rcases hF with⟨_,h2⟩|⟨_,_,h2,_⟩
  ·exact h2
  ·cases h2
 refine⟨λf _=>hF.fn f,?_⟩;obtain⟨dd,hr,yn,c,hc⟩:=pq hi he.eval hv;have abx:(o.semAt F.round a.eval)=execOp a.eval o:=by rw[Yl];rfl
 rw[abx,hr,Oper.uponIn_defer];refine h.2 N hN F ι _ w Q (k+1) hl hF hi ?_ ?_ hQ
 ·cases gl:o.dst with
  |none=>exact he
  |some t=>exact he.set sj t
 ·cases o.dst<;>exact⟨yn,hd⟩
end Go.Ev
