/- Lemmas over the model, without conditions of their own: regions that draw (2), closed runs. -/
import Derived.Test.YtggffkaadeagbaaGreatEvE
import Derived.RowKit3
import Derived.Below
open List renaming mem_cons->arv,mem_filter->arN,length_cons->ary,nil_append->arI,cons_append->arV,mem_iff_getElem?->atH,mem_range->atn,range'->as0
open Nat renaming testBit->aq0,lt_trichotomy->at4,le_refl->aqK,le_trans->aq2,lt_of_not_le->atE,zero_le->arw
open List.cons renaming inj->atf,injEq->arF
open Bool renaming and_eq_true->aqG,false_or->asR,not_true->atA
open Classical renaming byContradiction->arq
open Option renaming isSome_iff_exists->atl,map_some->aq9,getD_some->arz
open Go.Region renaming ready->asS,binds->ast
open Array renaming getElem?_eq_getElem->aq7,getD_eq_getD_getElem?->arU,all_eq_true'->au1,getElem?_toList->asA,replicate->arZ
open Option.some renaming inj->atu
open Go.Fence renaming wide->arb
set_option linter.all false
namespace Go.Ev
variable{P:Program}{S:Nat→Self}{ro:Nat}{ops:Array Oper}{pl:dM}{D:Nat→DS}{N:Nat}[Sm]
structure Made(ops:Array Oper)(D:Nat→DS)(p:Piece):Prop where
 lt:p.j<ops.size
 lo:p.lo=(D p.j).n
 hi:p.hi=(D (p.j+1)).n
 aD:(D (p.j+1)).aD=p::(D p.j).aD
def Sj(ops:Array Oper)(pl:dM)(D:Nat→DS)(i:Nat):Prop:=aV pl i=.effect∧∃o,ops[i]?=some o∧aJ o ops (D i).e=true
def sD(ops:Array Oper)(pl:dM)(D:Nat→DS)(A:Nat→Prop)(q:Nat):Prop:=∀i,A i→Sj ops pl D i→¬iX pl i q
def fM(l:List (Nat×T Ob)):T Ob:=match l with|(_,b)::_=>b|[]=>.lf
theorem Tr.aD(ht:Tr P S pl ro ops D)(ho:oP ops pl)(h0:(D 0).aD=[]):∀j,j≤ops.size→∀p∈(D j).aD,Made ops D p∧p.j<j∧∀i,i<j→Sj ops pl D i→¬iX pl i p.j:=by
 intro j;induction j with
 |zero=>intro _ p hp;rw[h0]at hp;cases hp
 |succ j ih=>
  intro hj p hp;have hjs:j<ops.size:=by omega
  obtain⟨o,v,h1,_,_,hs⟩:=ht.NY hjs
  have cC:p∈(D j).aD→(Sj ops pl D j→¬iX pl j p.j)→Made ops D p∧p.j<j+1∧∀i,i<j+1→Sj ops pl D i→¬iX pl i p.j:=fun hp hw=>by
   obtain⟨a,b,c⟩:=ih (by omega) p hp;refine⟨a,by omega,fun i hi gd=>?_⟩;rcases Nat.lt_or_eq_of_le (Nat.le_of_lt_succ hi)with hi|rfl
   ·exact c i hi gd
   ·exact hw gd
  have new:∀σ:St,p=⟨j,(D j).n,σ.n,σ.t⟩→(D (j+1)).n=σ.n→(D (j+1)).aD=⟨j,(D j).n,σ.n,σ.t⟩::(D j).aD→Made ops D p∧p.j<j+1∧∀i,i<j+1→Sj ops pl D i→¬iX pl i p.j:=fun σ C7 hn jc=>by
   subst C7;refine⟨⟨hjs,rfl,hn.symm,jc⟩,Nat.lt_succ_self _,fun i hi _ hb=>?_⟩;have:=aeL ho i (by omega) _ hb;dsimp only at this;omega
  cases hs with
  |skip hw hv hn jc hk hb=>rw[jc]at hp;exact cC hp fun h=>absurd h.1 hk
  |EF hw hv hn jc hk=>
   rw[jc]at hp;refine cC hp fun h=>?_;obtain⟨_,o',h2,h3⟩:=h;rw[h1]at h2;cases h2;rw[hw]at h3;cases h3
  |pure hw hk hn jc=>rw[jc]at hp;exact cC hp fun h=>(by have:=h.1;rw[hk]at this;cases this)
  |load hw hk hn jc=>rw[jc]at hp;exact cC hp fun h=>(by have:=h.1;rw[hk]at this;cases this)
  |alloc hw hk hb σ he hn jc=>
   have qw:=hp;rw[jc]at qw;rcases arv.1 qw with rfl|qw
   ·exact new σ rfl hn jc
   ·exact cC qw fun h=>(by have:=h.1;rw[hk]at this;cases this)
  |call hw hk hb i0 b rest gb σ he hn jc=>
   have qw:=hp;rw[jc]at qw;rcases arv.1 qw with rfl|qw
   ·exact new σ rfl hn jc
   ·exact cC qw fun h=>(by have:=h.1;rw[hk]at this;cases this)
  |effect hw hk i0 b rest gb σ he hn hb jc=>
   rw[jc,arN]at hp;refine cC hp.1 fun _ hb=>?_;have h2:=hp.2;unfold iX at hb;rw[hb]at h2;cases h2
theorem N0(ht:Tr P S pl ro ops D){p:Piece}(hp:Made ops D p):aV pl p.j≠.effect:=by
 intro hk;obtain⟨o,v,h1,_,_,hs⟩:=ht.NY hp.lt;have jc:=hp.aD;have len:=congrArg List.length jc;simp only[ary]at len;cases hs with
 |skip _ _ _ h=>rw[h]at len;omega
 |EF _ _ _ h=>rw[h]at len;omega
 |pure _ h=>rw[hk]at h;cases h
 |load _ h=>rw[hk]at h;cases h
 |alloc _ h=>rw[hk]at h;cases h
 |call _ h=>rw[hk]at h;cases h
 |effect _ _ _ _ _ _ _ _ _ _ h=>
  rw[h]at len;have:=List.length_filter_le (fun q=> !aq0 (pl.bW.getD p.j 0) q.j) (D p.j).aD;omega
theorem N1{p q:Piece}(hp:Made ops D p)(hq:Made ops D q)(h:p.j=q.j):p=q:=by
 have h1:=hp.aD;have h2:=hq.aD;rw[h,h2]at h1;exact(atf h1).1.symm
structure qC(ops:Array Oper)(pl:dM)(D:Nat→DS)(N ro:Nat)(gn:Io)(w0:World)(eb:St)(A:Nat→Prop)(m:Nat)(e:Env)(ι:Io)(cur:Nat→Option Ob)(w:World):Prop where
 sub:∀i,A i→i<ops.size
 closed:∀j,A j→∀i,iX pl j i→A i
 env:sB ops D A e
 N2:m≤ops.size
 K4:∀i,i<ops.size→aV pl i=.effect→(A i↔i<m)
 last:m=0∨∃i,m=i+1∧A i∧aV pl i=.effect
 vJ:yj ro (D ops.size).n gn w0 eb (fun id=>(∃j,j<ops.size∧¬A j∧(D j).n≤id∧id<(D (j+1)).n)∨((D ops.size).n≤id∧id<N)) ι cur w
 piece:∀p,Made ops D p→A p.j→sD ops pl D A p.j→∀id o,p.lo≤id→id<p.hi→p.t.get id=some o→cur id=some o
 base:∀id o,(fM (D m).bs).get id=some o→cur id=some o
 JA:∀p,Made ops D p→sD ops pl D A p.j→∀id,p.lo≤id→id<p.hi→(fM (D m).bs).get id=none
 top:∀id,(D m).n≤id→(fM (D m).bs).get id=none
 low:∀id,id<ro→id<eb.n→(fM (D m).bs).get id=eb.at id
section phi
variable{gn ι aC:Io}{w0 w w':World}{eb:St}{A:Nat→Prop}{m:Nat}{e:Env}{cur re:Nat→Option Ob}
theorem qC.see(h:qC ops pl D N ro gn w0 eb A m e ι cur w){j n':Nat}{aD:List Piece}(hb:∀i,iX pl j i→A i)(hp:∀p∈aD,Made ops D p∧sD ops pl D A p.j∧p.hi≤n')(hn:(D m).n≤n'):
 (∀id o,(seen aD (pl.bW.getD j 0) (fM (D m).bs)).get id=some o→cur id=some o)∧(∀id,n'≤id→(seen aD (pl.bW.getD j 0) (fM (D m).bs)).get id=none):=by
 refine⟨fun id o hs=>?_,fun id hid=>?_⟩
 ·rcases Gu hs with⟨p,C8,kX,h1,h2,h3⟩|hs
  ·obtain⟨a,b,_⟩:=hp p C8;exact h.piece p a (hb _ kX) b id o h1 h2 h3
  ·exact h.base id o hs
 ·cases hs:(seen aD (pl.bW.getD j 0) (fM (D m).bs)).get id with
  |none=>rfl
  |some o=>
   rcases Gu hs with⟨p,C8,kX,h1,h2,h3⟩|hs
   ·obtain⟨_,_,c⟩:=hp p C8;omega
   ·rw[h.top id (by omega)]at hs;cases hs
theorem sD.less{A':Nat→Prop}{q:Nat}(h:sD ops pl D A' q)(hA:∀i,A i→A' i):sD ops pl D A q:=fun i hi=>h i (hA i hi)
theorem qC.next(h:qC ops pl D N ro gn w0 eb A m e ι cur w)(ht:Tr P S pl ro ops D)(hc:∀j,bS (S j))(hk:∀j,bB (S j)){j:Nat}{e':Env}(hj:j<ops.size)(mJ:¬A j)(hb:∀i,iX pl j i→A i)(fD:aV pl j≠.effect)
 (he:sB ops D (fun i=>A i∨i=j) e'){Fr:Nat→Prop}(kW:yj ro (D ops.size).n gn w0 eb Fr aC re w')
 (tI:∀id,((∃i,i<ops.size∧¬(A i∨i=j)∧(D i).n≤id∧id<(D (i+1)).n)∨((D ops.size).n≤id∧id<N))→Fr id)
 (aeM:∀id o,¬((D j).n≤id∧id<(D (j+1)).n)→cur id=some o→re id=some o)(hr:(D (j+1)).n=(D j).n∨∃p,Made ops D p∧p.j=j)
 (jc:∀p,Made ops D p→p.j=j→∀id o,p.lo≤id→id<p.hi→p.t.get id=some o→re id=some o):qC ops pl D N ro gn w0 eb (fun i=>A i∨i=j) m e' aC re w' where
 sub:=fun i hi=>hi.elim (h.sub i) (fun x=>x▸hj)
 closed:=fun i hi q hq=>hi.elim (fun hi=>.inl (h.closed i hi q hq)) (fun x=>.inl (hb q (x▸hq)))
 env:=he
 N2:=h.N2
 K4:=fun i hi qD=>by
  rw[←h.K4 i hi qD];exact⟨fun x=>x.elim id (fun x=>absurd (x▸qD) fD),.inl⟩
 last:=h.last.imp id (fun⟨i,h1,h2,h3⟩=>⟨i,h1,.inl h2,h3⟩)
 vJ:=kW.fr tI
 piece:=fun p hp hA hu id o h1 h2 h3=>by
  by_cases nH:p.j=j
  ·exact jc p hp nH id o h1 h2 h3
  ·refine aeM id o (fun hx=>?_) (h.piece p hp (hA.resolve_right nH) (hu.less fun _ x=>.inl x) id o h1 h2 h3);rw[hp.lo]at h1;rw[hp.hi]at h2;exact nH (ht.apart hc hk hp.lt hj ⟨h1,h2⟩ hx)
 base:=fun id o hg=>by
  refine aeM id o (fun hx=>?_) (h.base id o hg);rcases hr with hr|⟨p,hp,nH⟩
  ·omega
  ·have:=h.JA p hp (fun i hi _ Ns=>mJ (h.closed i hi j (nH▸Ns))) id (by rw[hp.lo,nH];exact hx.1) (by rw[hp.hi,nH];exact hx.2);rw[this]at hg;cases hg
 JA:=fun p hp hu=>h.JA p hp (hu.less fun _ x=>.inl x)
 top:=h.top
 low:=h.low
theorem qC.abL(h:qC ops pl D N ro gn w0 eb A m e ι cur w){j:Nat}{e':Env}(hj:j<ops.size)(hb:∀i,iX pl j i→A i)(fD:aV pl j=.effect)(vq:∀i,i<ops.size→aV pl i=.effect→(A i↔i<j))
 (he:sB ops D (fun i=>A i∨i=j) e'){Fr:Nat→Prop}(kW:yj ro (D ops.size).n gn w0 eb Fr aC re w')
 (tI:∀id,((∃i,i<ops.size∧¬(A i∨i=j)∧(D i).n≤id∧id<(D (i+1)).n)∨((D ops.size).n≤id∧id<N))→Fr id)
 (jc:∀p,Made ops D p→p.j≠j→A p.j→sD ops pl D (fun i=>A i∨i=j) p.j→∀id o,p.lo≤id→id<p.hi→cur id=some o→re id=some o)(aT:∀p,Made ops D p→p.j≠j)
 (UB:∀id o,(fM (D (j+1)).bs).get id=some o→re id=some o)
 (aid:∀p,Made ops D p→sD ops pl D (fun i=>A i∨i=j) p.j→∀id,p.lo≤id→id<p.hi→(fM (D (j+1)).bs).get id=none)
 (Gw:∀id,(D (j+1)).n≤id→(fM (D (j+1)).bs).get id=none)(amo:∀id,id<ro→id<eb.n→(fM (D (j+1)).bs).get id=eb.at id):
 qC ops pl D N ro gn w0 eb (fun i=>A i∨i=j) (j+1) e' aC re w' where
 sub:=fun i hi=>hi.elim (h.sub i) (fun x=>x▸hj)
 closed:=fun i hi q hq=>hi.elim (fun hi=>.inl (h.closed i hi q hq)) (fun x=>.inl (hb q (x▸hq)))
 env:=he
 N2:=hj
 K4:=fun i hi qD=>by
  constructor
  ·intro x;rcases x with x|rfl
   ·have:=(vq i hi qD).1 x;omega
   ·omega
  ·intro x;by_cases mI:i=j
   ·exact .inr mI
   ·exact .inl ((vq i hi qD).2 (by omega))
 last:=.inr ⟨j,rfl,.inr rfl,fD⟩
 vJ:=kW.fr tI
 piece:=fun p hp hA hu id o h1 h2 h3=>jc p hp (aT p hp) (hA.resolve_right (aT p hp)) hu id o h1 h2 (h.piece p hp (hA.resolve_right (aT p hp)) (hu.less fun _ x=>.inl x) id o h1 h2 h3)
 base:=UB
 JA:=aid
 top:=Gw
 low:=amo
end phi
end Go.Ev
namespace Go.Ev
variable{P:Program}{S:Nat→Self}{ro:Nat}{ops:Array Oper}{pl:dM}{D:Nat→DS}{N:Nat}[Sm]
theorem K5{e:Env}{o:Oper}{n bits:Nat}{v:IV}{aD:List Piece}{b:T Ob}(h:loadAt P e o n v aD bits b=true):
 ∃σ,ak P n (aq e) o ⟨n,seen aD bits b⟩=some (.val v σ)∧σ.n=n:=by
 unfold loadAt at h;split at h
 ·rename_i u σ he;simp only[aqG]at h;rw[Sm.ok _ _ h.2]at he;exact⟨σ,he,Nat.eq_of_beq_eq_true h.1⟩
 ·cases h
theorem FN{e:Env}{o:Oper}{n bits:Nat}{v:IV}{aD:List Piece}{i:Nat}{b:T Ob}{rest:List (Nat×T Ob)}:∀{pre:List (Nat×T Ob)},lH P e o n v aD bits (pre++(i,b)::rest)=true→
 (∀x∈pre,aq0 bits x.1≠true)→loadAt P e o n v aD bits b=true
 |[],h,_=>by
  simp only[arI,lH,aqG]at h;exact h.1
 |x::pre,h,hp=>by
  obtain⟨i',b'⟩:=x;simp only[arV,lH,aqG,Bool.or_eq_true]at h;exact FN (h.2.resolve_left (hp (i',b') (by simp))) fun y hy=>hp y (by simp[hy])
theorem WO{i:Nat}{t:Tmp}(h:iW ops i=some t):i<ops.size:=by
 unfold iW at h;cases ho:ops[i]? with
 |none=>rw[ho]at h;cases h
 |some o=>exact(Array.getElem?_eq_some_iff.1 ho).1
section step
variable{gn ι:Io}{w0 w:World}{eb:St}{A:Nat→Prop}{m:Nat}{e:Env}{cur:Nat→Option Ob}{j:Nat}
theorem qC.reads(h:qC ops pl D N ro gn w0 eb A m e ι cur w)(ht:Tr P S pl ro ops D)(ho:oP ops pl)(hj:j<ops.size)(mJ:¬A j)(hb:∀i,iX pl j i→A i):∀t∈zi ops j,e.at t=(D j).e.at t:=by
 intro t hm;refine Gv h.env (ht.env ho j (by omega)) fun i hd=>?_;have hi:=WO hd;rcases at4 i j with aa|rfl|aa
 ·refine⟨fun _=>aa,fun _=>arq fun hn=>?_⟩;exact(ho.free i j aa hj (fun hx=>hn (hb i hx))).1 t hd hm
 ·exact⟨fun x=>absurd x mJ,fun x=>absurd x (by omega)⟩
 ·refine⟨fun hA=>absurd hm ?_,fun x=>by omega⟩;exact(ho.free j i aa hi (fun hx=>mJ (h.closed i hA j hx))).2.1 t hd
theorem qC.order(h:qC ops pl D N ro gn w0 eb A m e ι cur w)(ht:Tr P S pl ro ops D)(ho:oP ops pl)(hj:j<ops.size)(mJ:¬A j)(hb:∀i,iX pl j i→A i)(fD:aV pl j=.effect∨aV pl j=.call):
 (∀i,i<ops.size→aV pl i=.effect→(A i↔i<j))∧m≤j∧(D j).bs=(D m).bs:=by
 have h1:∀i,i<ops.size→aV pl i=.effect→(A i↔i<j):=by
  intro i hi qD;rcases at4 i j with aa|rfl|aa
  ·refine⟨fun _=>aa,fun _=>arq fun hn=>?_⟩;have:=(ho.free i j aa hj (fun hx=>hn (hb i hx))).2.2;rw[qD]at this;rcases fD with fD|fD<;>(rw[fD]at this;cases this)
  ·exact⟨fun x=>absurd x mJ,fun x=>absurd x (by omega)⟩
  ·refine⟨fun hA=>?_,fun x=>by omega⟩;have:=(ho.free j i aa hi (fun hx=>mJ (h.closed i hA j hx))).2.2;rw[qD]at this;rcases fD with fD|fD<;>(rw[fD]at this;cases this)
 have h2:m≤j:=by
  rcases h.last with hm|⟨i,hm,hA,qD⟩
  ·omega
  ·have:=(h1 i (h.sub i hA) qD).1 hA;omega
 refine⟨h1,h2,ht.NZ h2 (by omega) fun i N3 WQ qD=>?_⟩;have:=(h1 i (by omega) qD).2 WQ;have:=(h.K4 i (by omega) qD).1 this;omega
theorem Tr.aie(ht:Tr P S pl ro ops D)(hj:j<ops.size):(D j).bs≠[]:=by
 obtain⟨_,_,_,_,h,_⟩:=ht.NY hj;exact h
theorem qC.aif(h:qC ops pl D N ro gn w0 eb A m e ι cur w)(ht:Tr P S pl ro ops D)(ho:oP ops pl)(hc:∀j,bS (S j))(hk:∀j,bB (S j))(h0:(D 0).aD=[])(hj:j<ops.size)(mJ:¬A j)(hb:∀i,iX pl j i→A i)
 {o:Oper}{v:IV}(lY:ops[j]?=some o)(hw:aJ o ops (D j).e=true)(fD:aV pl j=.load)(hej:(D (j+1)).e=(D j).e.put o.dst v)
 {i0:Nat}{b:T Ob}{rest:List (Nat×T Ob)}(gb:(D j).bs=(i0,b)::rest){σ:St}(he:ak P (D j).n (aq (D j).e) o ⟨(D j).n,seen (D j).aD (pl.bW.getD j 0) b⟩=some (.val v σ))(ko:σ.n=(D j).n)
 (hl:(aq0 (pl.bW.getD j 0) i0||lH P (D j).e o (D j).n v (D j).aD (pl.bW.getD j 0) rest)=true):
 ∃aD n' u ah,ak P n' (aq e) o ⟨n',seen aD (pl.bW.getD j 0) (fM (D m).bs)⟩=some (.val u ah)∧ah.n=n'∧(∀p∈aD,Made ops D p∧sD ops pl D A p.j∧p.hi≤n')∧(D m).n≤n'∧e.put o.dst u=e.put o.dst v:=by
 have jq:=h.reads ht ho hj mJ hb;have om:e.n=(D j).e.n:=by rw[h.env.n,(ht.env ho j (by omega)).n]
 by_cases HH:m≤j
 ·have jc:∀p∈(D j).aD,Made ops D p∧sD ops pl D A p.j∧p.hi≤(D j).n:=by
   intro p hp;obtain⟨a,b,c⟩:=ht.aD ho h0 j (by omega) p hp;refine⟨a,fun i hA FO=>c i ?_ FO,by rw[a.hi];exact ht.fC hc hk b (by omega)⟩;have:=(h.K4 i (h.sub i hA) FO.1).1 hA;omega
  have MT:=fun(n':Nat) (σ:St)=>pH (P:=P) (ro:=n') (σ:=σ) (sC lY jq om).1;obtain⟨pre,N4,w7⟩:=ht.K3 HH (by omega:j≤ops.size);cases pre with
  |nil=>
   have p4:fM (D m).bs=b:=by
    rw[arI]at N4;rw[←N4,gb];rfl
   exact⟨(D j).aD,(D j).n,v,σ,by rw[MT,p4];exact he,ko,jc,ht.fC hc hk HH (by omega),rfl⟩
  |cons x pre=>
   obtain⟨i1,b1,MU,FI⟩:∃i1 b1 MU,(D m).bs=(i1,b1)::MU:=by
    cases hx:(D m).bs with
    |nil=>exact absurd hx (ht.aie (by omega))
    |cons y ys=>exact⟨y.1,y.2,ys,rfl⟩
   have nob:∀y∈x::pre,aq0 (pl.bW.getD j 0) y.1≠true:=by
    intro y hy kX;obtain⟨g1,g2,g3⟩:=w7 y hy;have:=(h.K4 y.1 (by omega) g3).1 (hb y.1 kX);omega
   rw[gb]at N4;simp only[arV,arF]at N4;obtain⟨hx,fY⟩:=N4
   have KY:aq0 (pl.bW.getD j 0) i0=false:=by
    have:=nob x (by simp);rw[←hx]at this;simpa using this
   rw[KY,asR,fY,FI]at hl;obtain⟨ah,h1,h2⟩:=K5 (FN hl fun y hy=>nob y (by simp[hy]));refine⟨(D j).aD,(D j).n,v,ah,?_,h2,jc,ht.fC hc hk HH (by omega),rfl⟩;rw[MT,FI];exact h1
 ·obtain⟨i,hmi,hA,qD⟩:∃i,m=i+1∧A i∧aV pl i=.effect:=h.last.resolve_left (by omega);have hi:=h.sub i hA;have mI:i≠j:=fun hx=>mJ (hx▸hA);have aa:j<i:=by omega
  have aih:¬iX pl i j:=fun hx=>mJ (h.closed i hA j hx)
  have jc:∀p∈(D m).aD,Made ops D p∧sD ops pl D A p.j∧p.hi≤(D m).n:=by
   intro p hp;obtain⟨a,b,c⟩:=ht.aD ho h0 m h.N2 p hp;refine⟨a,fun i hA FO=>c i ?_ FO,by rw[a.hi];exact ht.fC hc hk b h.N2⟩;exact(h.K4 i (h.sub i hA) FO.1).1 hA
  have UC:=ht.env ho i (by omega)
  have aeN:∀t∈zi ops j,e.at t=(D i).e.at t:=by
   intro t htm;refine Gv h.env UC fun q hd=>?_;have hq:=WO hd;rcases at4 q j with WR|rfl|WR
   ·have:A q:=arq fun hn=>(ho.free q j WR hj (fun hx=>hn (hb q hx))).1 t hd htm;exact⟨fun _=>by omega,fun _=>this⟩
   ·exact absurd htm (ho.ZY q hj fD t hd)
   ·exact absurd htm (ho.WK j q WR hq fD t hd)
  have aeO:e.n=(D i).e.n:=by rw[h.env.n,UC.n]
  have MT:=fun(n':Nat) (σ:St)=>pH (P:=P) (ro:=n') (σ:=σ) (sC lY aeN aeO).1;have gd:aJ o ops (D i).e=true:=by rw[←(sC lY aeN aeO).2,(sC lY jq om).2,hw]
  have AH:recheck P pl ops (pl.bW.getD i 0) (D i).e (D m).n (D m).aD (fM (D m).bs) (ops.toList.zipIdx.take i)=true:=by
   obtain⟨o',v',_,_,_,hs⟩:=ht.NY hi;rw[hmi];cases hs with
   |skip _ _ _ _ hx=>exact absurd qD hx
   |EF _ _ hn hp _ i1 b1 MU _ cD hr=>rw[hn,hp,cD];exact hr
   |pure _ hx=>rw[qD]at hx;cases hx
   |alloc _ hx=>rw[qD]at hx;cases hx
   |load _ hx=>rw[qD]at hx;cases hx
   |call _ hx=>rw[qD]at hx;cases hx
   |effect _ _ i1 b1 MU _ ai _ hn cD hp hr=>rw[cD];exact hr
  unfold recheck at AH;rw[List.all_eq_true]at AH
  have iJ:(o,j)∈ops.toList.zipIdx.take i:=by
   rw[atH];refine⟨j,?_⟩;rw[List.getElem?_take,if_pos aa,List.getElem?_zipIdx];have:ops.toList[j]?=some o:=by simpa using lY
   rw[this];simp
  have hx:=AH (o,j) iJ;dsimp only at hx;have amp:pl.kinds.getD j .effect=.load:=fD;rw[amp]at hx
  have KY:aq0 (pl.bW.getD i 0) j=false:=by
   cases hc:aq0 (pl.bW.getD i 0) j with
   |false=>rfl
   |true=>exact absurd hc aih
  rw[KY,gd]at hx;simp only[atA,asR]at hx;split at hx
  ·rename_i d hd;obtain⟨ah,h1,h2⟩:=K5 hx;refine⟨(D m).aD,(D m).n,(D i).e.at d,ah,?_,h2,jc,aqK _,?_⟩
   ·rw[MT];exact h1
   ·rw[hd];have hdj:iW ops j=some d:=by unfold iW;rw[lY];exact hd
    have aA:(D i).e.at d=(D (j+1)).e.at d:=UC.put j aa d hdj;rw[aA,hej,hd,Env.cS];by_cases hdn:d<e.n
    ·rw[if_pos ⟨by rw[←om];exact hdn,rfl⟩]
    ·have bx:∀z:IV,e.put (some d) z=e:=fun z=>by
      have:Nat.blt d e.n=false:=by
       cases hc:Nat.blt d e.n with
       |false=>rfl
       |true=>exact absurd (by simpa using hc) hdn
      simp only[Env.put,this];rfl
     rw[bx,bx]
  ·cases hx
end step
end Go.Ev
namespace Go.Ev
variable{P:Program}{S:Nat→Self}{ro nn:Nat}{ops:Array Oper}{pl:dM}{D:Nat→DS}{N:Nat}{F:Fence}{rd:Option Nat}{Q:Exit→Act→World→Prop}[Sm]
theorem put_defers{a:Act}{dst:Option Tmp}{u:Value}:(a.put dst u).defers=a.defers:=by cases dst<;>rfl
theorem Z1{cur:Nat→Option Ob}{σ ah:St}(h:∀id,σ.at id=none)(hn:ah.n≤σ.n):yh cur σ ah=cur:=by
 funext id;unfold yh;rw[if_neg];rw[h id];intro hx;rcases hx with hx|hx
 ·cases hx
 ·omega
section step
variable{gn ι:Io}{w0 w:World}{eb:St}{A:Nat→Prop}{m:Nat}{e:Env}{cur:Nat→Option Ob}{j:Nat}{a:Act}{K:Act→World→Prop}
theorem qC.step(hS:∀j,gU P (S j) nn)(hC:∀j,ek P (S j))(hm:∀j,bS (S j))(hk:∀j,bB (S j))(ho:oP ops pl)(ht:Tr P S pl ro ops D)(h0:(D 0).aD=[])(ko:(D 0).n=eb.n)(hnk:(D ops.size).n≤N)(Cg:Inv N gn eb w0)
 (h:qC ops pl D N ro gn w0 eb A m e ι cur w)(hj:j<ops.size)(mJ:¬A j)(hb:∀i,iX pl j i→A i)(hF0:jX F rd gn)(he:cZ ι e a.tmps)
 (hK:∀m' e' aC re w' a',qC ops pl D N ro gn w0 eb (fun i=>A i∨i=j) m' e' aC re w'→cZ aC e' a'.tmps→a'.defers=a.defers→K a' w'):wpOpIn F 0 P ops Q j K a w:=by
 obtain⟨o,v,lY,hej,aqo,hs⟩:=ht.NY hj;have hF:jX F rd ι:=hF0.mono h.vJ.ext;have UD:=ht.env ho j (by omega);have jq:=h.reads ht ho hj mJ hb;have om:e.n=(D j).e.n:=by rw[h.env.n,UD.n]
 have ef:=sC lY jq om;have hold:∀t,iW ops j=some t→(D j).e.at t=(D 0).e.at t:=fun t hd=>UD.cC t fun i hi hc=>ho.single i j hi hj t hc hd;have AK:sB ops D (fun i=>A i∨i=j) (e.put o.dst v):=h.env.step ho h.sub lY mJ hej hold UD.n;have NV:∀id,eb.n≤id→id<(D ops.size).n→∀e,gn id e=none:=fun id h1 h2=>Cg.fresh id h1 (by omega);have hnj:(D j).n≤(D (j+1)).n:=ht.WM hm hk hj;have Z2:eb.n≤(D j).n:=by rw[←ko];exact ht.fC hm hk (by omega) (by omega)
 have aqp:(D (j+1)).n≤(D ops.size).n:=ht.fC hm hk (by omega) (by omega)
 have hX:∀id,((∃i,i<ops.size∧¬(A i∨i=j)∧(D i).n≤id∧id<(D (i+1)).n)∨((D ops.size).n≤id∧id<N))→
  ((∃i,i<ops.size∧¬A i∧(D i).n≤id∧id<(D (i+1)).n)∨((D ops.size).n≤id∧id<N))∧¬((D j).n≤id∧id<(D (j+1)).n):=by
  intro id hx;rcases hx with⟨i,h1,h2,h3⟩|hx
  ·exact⟨.inl ⟨i,h1,fun hA=>h2 (.inl hA),h3⟩,fun hr=>h2 (.inr (ht.apart hm hk h1 hj h3 hr))⟩
  ·exact⟨.inr hx,fun hr=>by omega⟩
 have hFr:∀id,(D j).n≤id→id<(D (j+1)).n→((∃i,i<ops.size∧¬A i∧(D i).n≤id∧id<(D (i+1)).n)∨((D ops.size).n≤id∧id<N)):=fun id h1 h2=>.inl ⟨j,hj,mJ,h1,h2⟩
 have JB:(D (j+1)).n=(D j).n→∀p,Made ops D p→p.j=j→∀(re:Nat→Option Ob) id o,p.lo≤id→id<p.hi→p.t.get id=some o→re id=some o:=by
  intro hn p hp nH re id o h1 h2;rw[hp.lo,nH]at h1;rw[hp.hi,nH]at h2;omega
 have hbB:∀{i0:Nat} {b:T Ob} {rest:List (Nat×T Ob)},(D j).bs=(i0,b)::rest→(D j).bs=(D m).bs→fM (D m).bs=b:=fun h1 h2=>by rw[←h2,h1];rfl
 have iK:(∀i,i<ops.size→aV pl i=.effect→(A i↔i<j))→∀p∈(D j).aD,Made ops D p∧sD ops pl D A p.j∧p.hi≤(D j).n:=by
  intro vq p hp;obtain⟨c1,c2,c3⟩:=ht.aD ho h0 j (by omega) p hp;exact⟨c1,fun i hA FO=>c3 i ((vq i (h.sub i hA) FO.1).1 hA) FO,by rw[c1.hi];exact ht.fC hm hk c2 (by omega)⟩
 unfold wpOpIn;rw[lY];dsimp only;rw[rJ he,ef.2];cases hs with
 |skip hw hv hn hp fD gb=>
  rw[hw];refine⟨fun f _=>hF.fn f,?_⟩;subst hv;exact hK m _ ι cur w _ (h.next ht hm hk hj mJ hb fD AK h.vJ (fun id hx=>(hX id hx).1) (fun _ _ _ hc=>hc) (.inl hn) (fun p hp nH=>JB hn p hp nH cur)) (he.put q_ _) put_defers
 |EF hw hv hn hp fD i0 b rest gb cD hr=>
  rw[hw];refine⟨fun f _=>hF.fn f,?_⟩;subst hv;obtain⟨vq,HH,p4⟩:=h.order ht ho hj mJ hb (.inl fD);have hB:=hbB gb p4;have HI:fM (D (j+1)).bs=fM (D m).bs:=by rw[cD,hB];rfl
  have mc:=ht.fC hm hk HH (by omega:j≤ops.size);refine hK (j+1) _ ι cur w _ (h.abL hj hb fD vq AK h.vJ (fun id hx=>(hX id hx).1) (fun _ _ _ _ _ _ _ _ _ hc=>hc) (fun p hp nH=>N0 ht hp (by rw[nH];exact fD)) ?_ ?_ ?_ ?_) (he.put q_ _) put_defers
  ·rw[HI];exact h.base
  ·rw[HI];exact fun p hp hu=>h.JA p hp (hu.less fun _ x=>.inl x)
  ·rw[HI];exact fun id hid=>h.top id (by omega)
  ·rw[HI];exact h.low
 |pure hw fD hn hp gb σ fi HJ=>
  rw[hw];have hx:jn P (S j) 0 e o ⟨0,.lf⟩=some (v,σ):=by unfold jn;rw[pH ef.1,fi]
  refine zL (N:=0) (hS j) (hC j) (hm j) hx (by omega) hF (h.vJ.toGn.inv (fun id o hs=>by cases hs) (fun id h1 h2=>by omega) (fun _ _=>rfl)) he fun u w' aC hv cT hl=>?_;have kW:=h.vJ.step NV (fun id o hs=>by cases hs) (fun id h1 h2=>by omega) (fun id _ hs=>by cases hs) (fun _ _=>rfl) cT hl;rw[Z1 (fun _=>rfl) (by omega)]at kW;exact hK m _ aC cur w' _ (h.next ht hm hk hj mJ hb (by rw[fD];simp) AK kW (fun id hx=>⟨(hX id hx).1,fun hh=>by omega⟩) (fun _ _ _ hc=>hc) (.inl hn) (fun p hp nH=>JB hn p hp nH cur)) ((he.mono hl.ext).put hv _) put_defers
 |alloc hw fD gb σ fi hn hp=>
  rw[hw];have hx:jn P (S j) 0 e o ⟨(D j).n,.lf⟩=some (v,σ):=by unfold jn;rw[pH ef.1,fi]
  refine zL (N:=(D (j+1)).n) (hS j) (hC j) (hm j) hx (by omega) hF (h.vJ.toGn.inv (fun id o hs=>by cases hs) (fun id h1 h2=>hFr id h1 h2) (fun _ _=>rfl)) he fun u w' aC hv cT hl=>?_;have kW:=h.vJ.step NV (fun id o hs=>by cases hs) (fun id h1 h2=>⟨aq2 Z2 h1,by omega⟩) (fun id _ hs=>by cases hs) (fun _ _=>rfl) cT hl;have NS:Made ops D ⟨j,(D j).n,σ.n,σ.t⟩:=⟨hj,rfl,hn.symm,hp⟩;refine hK m _ aC _ w' _ (h.next ht hm hk hj mJ hb (by rw[fD];simp) AK kW (fun id hx=>⟨(hX id hx).1,fun hh=>(hX id hx).2 (by rw[hn];exact hh)⟩) (fun id o hr hc=>?_) (.inr ⟨_,NS,rfl⟩) (fun p lp nH id o h1 h2 h3=>?_)) ((he.mono hl.ext).put hv _) put_defers
  ·unfold yh;rw[if_neg,hc];intro hx;rcases hx with hx|hx
   ·cases hx
   ·exact hr (by rw[hn];exact hx)
  ·have C7:=N1 lp NS nH;subst C7;unfold yh;rw[if_pos (.inr ⟨h1,h2⟩)];exact h3
 |load hw fD hn hp gb i0 b rest C9 σ fi HJ zE=>
  rw[hw];obtain⟨aD,n',u',ah,amq,aqq,FP,mc,Gs⟩:=h.aif ht ho hm hk h0 hj mJ hb lY hw fD hej C9 fi HJ zE;obtain⟨eY,jd⟩:=h.see hb FP mc;have hx:jn P (S j) n' e o ⟨n',seen aD (pl.bW.getD j 0) (fM (D m).bs)⟩=some (u',ah):=by unfold jn;rw[amq]
  refine zL (N:=n') (hS j) (hC j) (hm j) hx (by omega) hF (h.vJ.toGn.inv eY (fun id h1 h2=>by dsimp only at h1;omega) jd) he fun u w' aC hv cT hl=>?_;have kW:=h.vJ.step (σ:=⟨n',seen aD (pl.bW.getD j 0) (fM (D m).bs)⟩) NV eY (fun id h1 h2=>by dsimp only at h1;omega) (fun id _ hs=>?_) jd cT hl
  ·have yk:yh cur ⟨n',seen aD (pl.bW.getD j 0) (fM (D m).bs)⟩ ah=cur:=by
    funext id;unfold yh;split
    ·rename_i hc;have hs:((⟨n',seen aD (pl.bW.getD j 0) (fM (D m).bs)⟩:St).at id).isSome:=hc.resolve_right (by dsimp only;omega);obtain⟨x,hx⟩:=atl.1 hs;have aa:id<n':=atE fun hle=>by have:=jd id hle;rw[show(⟨n',seen aD (pl.bW.getD j 0) (fM (D m).bs)⟩:St).at id=_ from this]at hx;cases hx
     rw[hl.vp id aa aa,hx];exact(eY id x hx).symm
    ·rfl
   rw[yk]at kW;have amr:cZ aC (e.put o.dst v) (a.put o.dst u).tmps:=by rw[←Gs];exact(he.mono hl.ext).put hv _
   exact hK m _ aC cur w' _ (h.next ht hm hk hj mJ hb (by rw[fD];simp) AK kW (fun id hx=>⟨(hX id hx).1,fun hh=>by dsimp only at hh;omega⟩) (fun _ _ _ hc=>hc) (.inl hn) (fun p hp nH=>JB hn p hp nH cur)) amr put_defers
  ·exact atE fun hle=>by
    have:=jd id hle;rw[show(⟨n',seen aD (pl.bW.getD j 0) (fM (D m).bs)⟩:St).at id=_ from this]at hs;cases hs
 |call hw fD gb i0 b rest C9 σ fi hn hp=>
  rw[hw];obtain⟨vq,HH,p4⟩:=h.order ht ho hj mJ hb (.inr fD);have hB:=hbB C9 p4;have mc:=ht.fC hm hk HH (by omega:j≤ops.size);obtain⟨eY,jd⟩:=h.see hb (iK vq) mc;rw[hB]at eY jd
  have hx:jn P (S j) (D j).n e o ⟨(D j).n,seen (D j).aD (pl.bW.getD j 0) b⟩=some (v,σ):=by
   rw[←fi];unfold jn;rw[pH ef.1]
  have aa:∀id,((⟨(D j).n,seen (D j).aD (pl.bW.getD j 0) b⟩:St).at id).isSome=true→id<(D j).n:=fun id hs=>atE fun hle=>by
   have:=jd id hle;rw[show(⟨(D j).n,seen (D j).aD (pl.bW.getD j 0) b⟩:St).at id=_ from this]at hs;cases hs
  refine zL (N:=(D (j+1)).n) (hS j) (hC j) (hm j) hx (by omega) hF (h.vJ.toGn.inv eY (fun id h1 h2=>hFr id h1 h2) jd) he fun u w' aC hv cT hl=>?_;have kW:=h.vJ.step (σ:=⟨(D j).n,seen (D j).aD (pl.bW.getD j 0) b⟩) NV eY (fun id h1 h2=>⟨aq2 Z2 h1,by omega⟩) (fun id _ hs=>aa id hs) jd cT hl;have NS:Made ops D ⟨j,(D j).n,σ.n,σ.t⟩:=⟨hj,rfl,hn.symm,hp⟩;refine hK m _ aC _ w' _ (h.next ht hm hk hj mJ hb (by rw[fD];simp) AK kW (fun id hx=>⟨(hX id hx).1,fun hh=>(hX id hx).2 (by rw[hn];exact hh)⟩) (fun id o hr hc=>?_) (.inr ⟨_,NS,rfl⟩) (fun p lp nH id o h1 h2 h3=>?_)) ((he.mono hl.ext).put hv _) put_defers
  ·unfold yh;split
   ·rename_i lZ;have hs:=lZ.resolve_right (fun hx=>hr (by rw[hn];exact hx));obtain⟨x,hx⟩:=atl.1 hs;rw[hl.vp id (aa id hs) (aa id hs),hx,←eY id x hx];exact hc
   ·exact hc
  ·have C7:=N1 lp NS nH;subst C7;unfold yh;rw[if_pos (.inr ⟨h1,h2⟩)];exact h3
 |effect hw fD i0 b rest C9 σ fi hn cD hp hr=>
  rw[hw];obtain⟨vq,HH,p4⟩:=h.order ht ho hj mJ hb (.inl fD);have hB:=hbB C9 p4;have HI:fM (D (j+1)).bs=σ.t:=by rw[cD];rfl
  have mc:=ht.fC hm hk HH (by omega:j≤ops.size);obtain⟨eY,jd⟩:=h.see hb (iK vq) mc;rw[hB]at eY jd
  have hx:jn P (S j) ro e o ⟨(D j).n,seen (D j).aD (pl.bW.getD j 0) b⟩=some (v,σ):=by
   rw[←fi];unfold jn;rw[pH ef.1]
  have hwj:Sj ops pl D j:=⟨fD,o,lY,hw⟩
  have l8:∀p,Made ops D p→sD ops pl D (fun i=>A i∨i=j) p.j→∀id,p.lo≤id→id<p.hi→(seen (D j).aD (pl.bW.getD j 0) b).get id=none:=by
   intro p lp hu id h1 h2;cases Ch:(seen (D j).aD (pl.bW.getD j 0) b).get id with
   |none=>rfl
   |some x=>
    rcases Gu Ch with⟨q,hq,kX,g1,g2,g3⟩|Ch
    ·obtain⟨Ca,_,_⟩:=iK vq q hq
     have:q.j=p.j:=by
      rw[Ca.lo]at g1;rw[Ca.hi]at g2;rw[lp.lo]at h1;rw[lp.hi]at h2;exact ht.apart hm hk Ca.lt lp.lt ⟨g1,g2⟩ ⟨h1,h2⟩
     exact absurd (show iX pl j p.j by rw[←this];exact kX) (hu j (.inr rfl) hwj)
    ·rw[←hB,h.JA p lp (hu.less fun _ x=>.inl x) id h1 h2]at Ch;cases Ch
  have aT:∀p,Made ops D p→p.j≠j:=fun p lp nH=>N0 ht lp (by rw[nH];exact fD)
  have aeP:∀p,Made ops D p→∀id,p.lo≤id→id<p.hi→¬((D j).n≤id∧id<σ.n):=fun p lp id h1 h2 hx=>by
   rw[lp.lo]at h1;rw[lp.hi]at h2;exact aT p lp (ht.apart hm hk lp.lt hj ⟨h1,h2⟩ (by rw[hn];exact hx))
  refine zL (N:=(D (j+1)).n) (hS j) (hC j) (hm j) hx (by omega) hF (h.vJ.toGn.inv eY (fun id h1 h2=>hFr id h1 h2) jd) he fun u w' aC hv cT hl=>?_;have kW:=h.vJ.step (σ:=⟨(D j).n,seen (D j).aD (pl.bW.getD j 0) b⟩) NV eY (fun id h1 h2=>⟨aq2 Z2 h1,by omega⟩) (fun id hr _=>hr) jd cT hl;refine hK (j+1) _ aC _ w' _ (h.abL hj hb fD vq AK kW (fun id hx=>⟨(hX id hx).1,fun hh=>(hX id hx).2 (by rw[hn];exact hh)⟩) (fun p lp nH hA hu id o h1 h2 hc=>?_) aT ?_ ?_ ?_ ?_) ((he.mono hl.ext).put hv _) put_defers
  ·unfold yh;rw[if_neg]
   ·exact hc
   ·intro hx;rcases hx with hx|hx
    ·rw[show(⟨(D j).n,seen (D j).aD (pl.bW.getD j 0) b⟩:St).at id=_ from l8 p lp hu id h1 h2]at hx;cases hx
    ·exact aeP p lp id h1 h2 hx
  ·rw[HI];intro id o hg;unfold yh;split
   ·exact hg
   ·rename_i hx
    have jP:(⟨(D j).n,seen (D j).aD (pl.bW.getD j 0) b⟩:St).at id=none:=by
     cases hs:(⟨(D j).n,seen (D j).aD (pl.bW.getD j 0) b⟩:St).at id with
     |none=>rfl
     |some y=>exact absurd (.inl (by rw[hs];rfl)) hx
    have apR:¬((D j).n≤id∧id<σ.n):=fun hh=>hx (.inr hh);have:=hl.dead id jP (by dsimp only;omega);rw[show σ.at id=_ from hg]at this;cases this
  ·rw[HI];intro p lp hu id h1 h2;have:=aeP p lp id h1 h2;exact hl.dead id (l8 p lp hu id h1 h2) (by dsimp only;omega)
  ·rw[HI];intro id hid;exact hl.dead id (jd id (by omega)) (.inr (by omega))
  ·rw[HI];intro id HK aa;rw[show σ.t.get id=σ.at id from rfl,hl.vp id HK (by dsimp only;omega)];show(seen (D j).aD (pl.bW.getD j 0) b).get id=_;rw[ZZ,←hB]
   ·exact h.low id HK aa
   ·intro p lp;obtain⟨c1,c2,_⟩:=ht.aD ho h0 j (by omega) p lp;rw[c1.lo];have:=ht.fC hm hk (arw p.j) (by have:=c1.lt;omega);omega
end step
end Go.Ev
namespace Go.Ev
variable{P:Program}{S:Nat→Self}{ro nn:Nat}{ops:Array Oper}{pl:dM}{D:Nat→DS}{N:Nat}{F:Fence}{rd:Option Nat}{Q:Exit→Act→World→Prop}[Sm]
def qE(listed:Array Bool)(i:Nat):Prop:=listed[i]?=some true
theorem adm{listed:Array Bool}{j:Nat}(hj:j<listed.size):qE (listed.setIfInBounds j true)=fun i=>qE listed i∨i=j:=by
 funext i;refine propext ?_;unfold qE;rw[Array.getElem?_setIfInBounds];by_cases mI:j=i
 ·subst mI;simp[hj]
 ·simp[mI,Ne.symm mI]
theorem K6{listed:Array Bool}{j:Nat}(h:j∈asS .any ops listed):j<ops.size∧listed[j]?=some false∧∃o,ops[j]?=some o∧∀e∈o.after.toList,ast .any e=true→qE listed e.on:=by
 unfold asS at h;rw[arN,atn]at h;obtain⟨aa,h⟩:=h;rw[aqG]at h;refine⟨aa,?_,ops[j],aq7 aa,fun e he hb=>?_⟩
 ·have h1:=h.1;rw[arU]at h1;cases hx:listed[j]? with
  |none=>rw[hx]at h1;cases h1
  |some b=>rw[hx]at h1;cases b with
   |false=>rfl
   |true=>cases h1
 ·have h2:=h.2;rw[aq7 aa]at h2;simp only[aq9,arz]at h2;rw[au1]at h2;have:=h2 e (by simpa using he);rw[hb,atA,asR,arU]at this;unfold qE;cases hx:listed[e.on]? with
  |none=>rw[hx]at this;cases this
  |some b=>rw[hx]at this;cases b with
   |false=>cases this
   |true=>rfl
theorem WS(ho:oP ops pl){listed:Array Bool}(aL:listed.size=ops.size)(h:asS .any ops listed=[]):∀i,i<ops.size→qE listed i:=by
 intro i;induction i using Nat.strongRecOn with
 |_ i ih=>
  intro hi;refine arq fun hn=>?_
  have hf:listed[i]?=some false:=by
   rw[aq7 (by omega)];cases hx:listed[i]'(by omega)with
   |false=>rfl
   |true=>exact absurd (by unfold qE;rw[aq7 (by omega),hx]) hn
  have hm:i∈asS .any ops listed:=by
   unfold asS;rw[arN,atn];refine⟨hi,?_⟩;rw[arU,hf,aq7 hi];simp only[arz,Bool.not_false,Bool.true_and,aq9];rw[au1];intro e he;cases hb:ast .any e with
   |false=>rfl
   |true=>
    have aa:=ho.back i _ (aq7 hi) e (by simpa using he) hb;have:=ih e.on aa (by omega);unfold qE at this;rw[arU,this];rfl
  rw[h]at hm;cases hm
section any
variable{gn:Io}{w0:World}{eb:St}{a0:Act}
theorem aeQ(hS:∀j,gU P (S j) nn)(hC:∀j,ek P (S j))(hm:∀j,bS (S j))(hk:∀j,bB (S j))(ho:oP ops pl)(ht:Tr P S pl ro ops D)(h0:(D 0).aD=[])(ko:(D 0).n=eb.n)(hnk:(D ops.size).n≤N)(Cg:Inv N gn eb w0)
 (hF0:jX F rd gn)(rf:∀m e ι cur w a,qC ops pl D N ro gn w0 eb (fun i=>i<ops.size) m e ι cur w→cZ ι e a.tmps→a.defers=a0.defers→Q .normal a w):
 ∀(fuel:Nat) (listed:Array Bool) (m:Nat) (e:Env) (ι:Io) (cur:Nat→Option Ob) (w:World) (a:Act),listed.size=ops.size→listed.toList.count false≤fuel→qC ops pl D N ro gn w0 eb (qE listed) m e ι cur w→
  cZ ι e a.tmps→a.defers=a0.defers→wpAnyIn F 0 P .any ops Q fuel listed a w:=by
 have bp:∀(listed:Array Bool) (m:Nat) (e:Env) (ι:Io) (cur:Nat→Option Ob) (w:World) (a:Act),listed.size=ops.size→(∀i,i<ops.size→qE listed i)→qC ops pl D N ro gn w0 eb (qE listed) m e ι cur w→
  cZ ι e a.tmps→a.defers=a0.defers→Q .normal a w:=by
  intro listed m e ι cur w a aL hl h he hd
  have:qE listed=fun i=>i<ops.size:=by
   funext i;refine propext ⟨fun hx=>h.sub i hx,hl i⟩
  rw[this]at h;exact rf m e ι cur w a h he hd
 intro fuel;induction fuel with
 |zero=>
  intro listed m e ι cur w a aL hc h he hd
  have hl:∀i,i<ops.size→qE listed i:=by
   intro i hi;have aa:i<listed.size:=by omega
   unfold qE;rw[aq7 aa];cases hx:listed[i]with
   |true=>rfl
   |false=>
    have iJ:false∈listed.toList:=by
     rw[atH];exact⟨i,by rw[asA,aq7 aa,hx]⟩
    have:=List.count_pos_iff.2 iJ;omega
  refine⟨?_,bp listed m e ι cur w a aL hl h he hd⟩;cases hr:asS .any ops listed with
  |nil=>rfl
  |cons x xs=>
   obtain⟨h1,h2,_⟩:=K6 (show x∈asS .any ops listed by rw[hr];simp);have:=hl x h1;unfold qE at this;rw[this]at h2;cases h2
 |succ fuel ih=>
  intro listed m e ι cur w a aL hc h he hd;refine⟨fun hr=>bp listed m e ι cur w a aL (WS ho aL hr) h he hd,fun j hj=>?_⟩;obtain⟨hjs,hlj,o,lY,ams⟩:=K6 hj;have mJ:¬qE listed j:=fun hx=>by unfold qE at hx;rw[hlj]at hx;cases hx
  have hb:∀i,iX pl j i→qE listed i:=by
   intro i kX;obtain⟨e',gO,hbd,hh⟩:=ho.bits j o lY i kX;have:=ams e' gO hbd;rcases hh with rfl|hh
   ·exact this
   ·exact h.closed _ this i hh
  refine h.step hS hC hm hk ho ht h0 ko hnk Cg hjs mJ hb hF0 he fun m' e' aC re w' a' hP gO u9=>?_;rw[←adm (by omega)]at hP;refine ih _ m' e' aC re w' a' (by simp[aL]) ?_ hP gO (u9.trans hd);have Ci:j<listed.toList.length:=by simp;omega
  have hjv:listed.toList[j]=false:=by
   have:listed.toList[j]?=some false:=by rw[asA];exact hlj
   rw[List.getElem?_eq_getElem Ci]at this;exact atu this
  rw[Array.toList_setIfInBounds,List.count_set Ci,hjv];have e1:(if(false==false)=true then 1 else 0)=1:=rfl;have e2:(if(true==false)=true then 1 else 0)=0:=rfl;rw[e1,e2];omega
end any
theorem Gx(eS:P.follows .mixedOrders=true)(hS:∀j,gU P (S j) nn)(hC:∀j,ek P (S j))(hm:∀j,bS (S j))(hk:∀j,bB (S j)):
 ∀N ro rd ops e df σ cr,pF P S ro ops e df σ=some cr→cr.σ.n≤N→∀F ι a w Q id,jX F rd ι→Inv N ι σ w→cZ ι e a.tmps→jJ ι df a.defers→mW N ro ι w σ cr Q→(Code.region id ops true).wpIn F 0 P Q a w:=by
 intro N ro rd ops e df σ cr h hN F ι a w Q id hF hi he hd hQ;unfold pF at h;dsimp only at h;split at h
 ·rename_i bo;split at h
  ·rename_i e' n i b rest aD HB;cases h;obtain⟨ht,cy⟩:=Z0 HB;generalize hDd:nG P S (dq ops) ro ops ⟨e,σ.n,[(0,σ.t)],[]⟩=D at ht cy;have N5:D 0=⟨e,σ.n,[(0,σ.t)],[]⟩:=by rw[←hDd];rfl
   have ho:=aeK bo;have hn:(D ops.size).n=n:=by rw[←cy]
   have cT:Inv N ι σ {w with drawn:=w.drawn+1}:=hi.same rfl;have hle:Le ro ι w σ ι {w with drawn:=w.drawn+1} σ:=Le.same rfl rfl rfl rfl
   have amt:σ.n≤N:=by
    have:=ht.fC hm hk (arw ops.size) (aqK _);rw[hn,N5]at this;exact aq2 this hN
   have hQ':=hQ.from hi hle amt;refine wpIn_region_any eS ?_;have C_:fM (D 0).bs=σ.t:=by rw[N5];rfl
   have ko:(D 0).n=σ.n:=by rw[N5]
   have amu:qC ops (dq ops) D N ro ι {w with drawn:=w.drawn+1} σ (qE (arZ ops.size false)) 0 e ι σ.at {w with drawn:=w.drawn+1}:=by
    have bx:∀i,¬qE (arZ ops.size false) i:=by
     intro i hx;unfold qE at hx;rw[Array.getElem?_replicate]at hx;split at hx<;>cases hx
    refine⟨fun i hx=>absurd hx (bx i),fun j hx=>absurd hx (bx j),⟨by rw[N5],fun j hx=>absurd hx (bx j),fun t _=>by rw[N5]⟩,arw _,fun i _ _=>⟨fun hx=>absurd hx (bx i),fun hx=>absurd hx (Nat.not_lt_zero _)⟩,.inl rfl,
     (yj.start cT (by rw[hn];exact hN)).fr ?_,fun p _ hx=>absurd hx (bx _),?_,?_,?_,?_⟩
    ·intro id hx;rcases hx with⟨j,hj,_,h1,h2⟩|⟨h1,h2⟩
     ·have g1:=ht.fC hm hk (arw j) (by omega);have g2:=ht.fC hm hk (show j+1≤ops.size from hj) (aqK _);exact⟨by omega,by have:n≤N:=hN;omega⟩
     ·have g1:=ht.fC hm hk (arw ops.size) (aqK _);exact⟨by omega,h2⟩
    ·rw[C_];exact fun _ _ h=>h
    ·rw[C_];intro p hp _ id h1 _;have g1:=ht.fC hm hk (arw p.j) (by have:=hp.lt;omega);exact hi.wf id (by rw[hp.lo]at h1;omega)
    ·rw[C_,ko];exact hi.wf
    ·rw[C_];exact fun _ _ _=>rfl
   refine aeQ (a0:=a) hS hC hm hk ho ht (by rw[N5]) ko (by rw[hn];exact hN) cT hF ?_ ops.size _ 0 e ι σ.at _ a (by simp) ?_ amu he rfl
   ·intro m e1 b_ cur w1 a1 hp l5 zK
    have gb:(D ops.size).bs=(D m).bs:=ht.NZ hp.N2 (aqK _) fun i h1 h2 qD=>by
     have:=(hp.K4 i h2 qD).1 h2;omega
    have hB:fM (D m).bs=b:=by rw[←gb,←cy];rfl
    have jc:(D ops.size).aD=aD:=by rw[←cy]
    have iK:∀p∈aD,Made ops D p∧sD ops (dq ops) D (fun i=>i<ops.size) p.j∧p.hi≤n:=by
     intro p C8;obtain⟨c1,c2,c3⟩:=ht.aD ho (by rw[N5]) ops.size (aqK _) p (by rw[jc];exact C8);exact⟨c1,fun i hA FO=>c3 i hA FO,by rw[c1.hi,←hn];exact ht.fC hm hk c2 (aqK _)⟩
    have kW:=hp.vJ;rw[hn]at kW;have mc:=ht.fC hm hk hp.N2 (aqK _);have h0n:=ht.fC hm hk (arw ops.size) (aqK _)
    obtain⟨i1,l1⟩:=kW.fin (N:=N) (t:=aD.foldl di b) (by omega) (fun id h1 h2=>.inr ⟨h1,h2⟩) (fun id o hg=>by
     rcases AJ _ _ _ _ hg with⟨p,C8,g1,g2,g3⟩|hg
     ·obtain⟨c1,c2,_⟩:=iK p C8;exact hp.piece p c1 c1.lt c2 id o g1 g2 g3
     ·exact hp.base id o (by rw[hB];exact hg))
     (fun id hid=>by
      cases hg:(aD.foldl di b).get id with
      |none=>rfl
      |some o=>
       rcases AJ _ _ _ _ hg with⟨p,C8,g1,g2,g3⟩|hg
       ·obtain⟨_,_,c3⟩:=iK p C8;omega
       ·rw[←hB,hp.top id (by omega)]at hg;cases hg)
     (fun id hr aa=>by
      rw[Gt,←hB]
      ·exact hp.low id hr aa
      ·intro p C8;obtain⟨c1,_,_⟩:=iK p C8;rw[c1.lo];have:=ht.fC hm hk (arw p.j) (by have:=c1.lt;omega);omega)
    have AK:cZ b_ e' a1.tmps:=by
     have zH:=ht.env ho ops.size (aqK _);have KL:(D ops.size).e=e':=by rw[←cy]
     refine⟨by rw[←KL,zH.n,←hp.env.n];exact l5.1,fun t=>?_⟩;rw[←KL,←Gv hp.env zH (t:=t) fun i _=>Iff.rfl];exact l5.2 t
    exact hQ' a1 w1 b_ [] i1 l1 AK (by rw[zK];exact hd.mono l1.ext) trivial
   ·rw[Array.toList_replicate,List.count_replicate];simp
  ·cases h
 ·cases h
omit [Sm]in
theorem Sk{U:Self}(eS:P.follows .mixedOrders=true)(hS:gU P U nn)(hC:ek P U)(hm:bS U)(hk:bB U):NP P U:=
 @Gx _ _ _ Nj eS (fun _=>hS) (fun _=>hC) (fun _=>hm) (fun _=>hk)
end Go.Ev
namespace Go.Ev
open Go.RowKit
variable{P:Program}
end Go.Ev
namespace Go.Ev
variable{P:Program}{N ro m:Nat}{ι:Io}{w:World}{σ:St}{e:Env}{a:Act}{F:Fence}{rd:Option Nat}{Q:Exit→Act→World→Prop}{fn:FuncId}{df:List Df}{cr:CR}
def fx(P:Program)(ro:Nat)(rd:Option Nat)(fn:FuncId)(c:Code)(e:Env)(df:List Df)(σ:St)(cr:CR):Prop:=
 σ.n≤cr.σ.n∧∃m0,∀m,m0≤m→∀N,cr.σ.n≤N→∀F ι a w Q,jX F rd ι→Inv N ι σ w→cZ ι e a.tmps→jJ ι df a.defers→mW N ro ι w σ cr Q→Uy F P m c Q a w
def gy(P:Program)(ro:Nat)(f:FuncId)(args:List IV)(σ:St)(v:IV)(ah:St):Prop:=
 σ.n≤ah.n∧∀N,ah.n≤N→∀ι us w,Inv N ι σ w→ax ι args us→CallsIn arb 0 P f us.toArray w (vR N ro ι w σ v ah)
def rh(P:Program)(ro:Nat)(rd:Option Nat)(ops:Array Oper)(l:List Oper)(e:Env)(df:List Df)(σ:St)(cr:CR):Prop:=
 σ.n≤cr.σ.n∧∀N,cr.σ.n≤N→∀F ι a w Q k,ops.toList.drop k=l→jX F rd ι→Inv N ι σ w→cZ ι e a.tmps→jJ ι df a.defers→mW N ro ι w σ cr Q→
  wpOpsIn F 0 P ops Q (as0 k l.length) a w
theorem fx.mk{c:Code}(hn:σ.n≤cr.σ.n)(hl:∀b,c≠.loop b)(h:∀N,cr.σ.n≤N→∀F ι a w Q,jX F rd ι→Inv N ι σ w→cZ ι e a.tmps→jJ ι df a.defers→mW N ro ι w σ cr Q→c.wpIn F 0 P Q a w):fx P ro rd fn c e df σ cr:=by
 refine⟨hn,0,fun m _ N hN F ι a w Q hF hi he hd hQ=>?_⟩;have:=h N hN F ι a w Q hF hi he hd hQ;cases c<;>first|exact this|exact absurd rfl (hl _)
theorem fx.wp{c:Code}(h:fx P ro rd fn c e df σ cr)(hN:cr.σ.n≤N)(hF:jX F rd ι)(hi:Inv N ι σ w)(he:cZ ι e a.tmps)(hd:jJ ι df a.defers)(hQ:mW N ro ι w σ cr Q):c.wpIn F 0 P Q a w:=by
 obtain⟨_,m0,h⟩:=h;exact(h m0 (aqK _) N hN F ι a w Q hF hi he hd hQ).wp
theorem fx.seq{x y:Code}{e1:Env}{vI:List Df}{ai:St}(h:fx P ro rd fn x e df σ ⟨.normal,e1,vI,ai⟩)(k:fx P ro rd fn y e1 vI ai cr):fx P ro rd fn (.seq x y) e df σ cr:=by
 refine .mk (aq2 h.1 k.1) (by simp) fun N hN F ι a w Q hF hi he hd hQ=>wpIn_seq ?_;have dD:ai.n≤N:=aq2 k.1 hN;refine h.wp dD hF hi he hd ?_;intro a1 w1 b_ eO i1 l1 cV d1 p1;exact k.wp hN (hF.mono l1.ext) i1 cV d1 (hQ.from hi l1 dD)
theorem fx.cond{c:Operand}{x y:Code}{t:Bool}(hc:aq e c=.raw (.bool t))(h:fx P ro rd fn (if t then x else y) e df σ cr):fx P ro rd fn (.cond c x y) e df σ cr:=
 .mk h.1 (by simp) fun N hN F ι a w Q hF hi he hd hQ=>wpIn_cond (Gr hc (he.eval c)) (h.wp hN hF hi he hd hQ)
theorem fx.K7{id:Nat}{x:Code}(h:fx P ro rd fn x e df σ cr)(hx:cr.ex≠.exit id):fx P ro rd fn (.block id x) e df σ cr:=by
 refine .mk h.1 (by simp) fun N hN F ι a w Q hF hi he hd hQ=>wpIn_block (h.wp hN hF hi he hd ?_);intro a1 w1 b_ eO i1 l1 cV d1 p1;have:=hQ a1 w1 b_ eO i1 l1 cV d1 p1;cases hc:cr.ex with
 |exit br=>
  have aT:br≠id:=fun h=>hx (by rw[hc,h]);rw[hc]at this;simp only[Gq,Exit.inBlock,if_neg aT];exact this
 |_=>rw[hc]at this;exact this
theorem fx.region{id:Nat}{ops:Array Oper}(h:rh P ro rd ops ops.toList e df σ cr):fx P ro rd fn (.region id ops false) e df σ cr:=by
 refine .mk h.1 (by simp) fun N hN F ι a w Q hF hi he hd hQ=>wpIn_region ?_;have:=h.2 N hN F ι a w Q 0 (by simp) hF hi he hd hQ;rw[List.range_eq_range'];simpa using this
variable{ops:Array Oper}{o:Oper}{l:List Oper}
theorem rh.nil:rh P ro rd ops [] e df σ ⟨.normal,e,df,σ⟩:=
 ⟨aqK _,fun _ _ _ ι a w _ _ _ _ hi he hd hQ=>hQ a w ι [] hi (Le.refl _ _ _ _) he hd trivial⟩
theorem rh.cons(hn:σ.n≤cr.σ.n)(hw:aJ o ops e=true)
 (h:∀N,cr.σ.n≤N→∀F ι a w Q k,ops.toList.drop (k+1)=l→jX F rd ι→Inv N ι σ w→cZ ι e a.tmps→jJ ι df a.defers→mW N ro ι w σ cr Q→
  o.wpIn F 0 P a w (wpOpsIn F 0 P ops Q (as0 (k+1) l.length)) Q):rh P ro rd ops (o::l) e df σ cr:=by
 refine⟨hn,fun N hN F ι a w Q k hl hF hi he hd hQ=>?_⟩
 have fY:ops.toList.drop (k+1)=l:=by
  rw[←List.drop_drop (i:=1) (j:=k),hl];rfl
 have bo:ops[k]?=some o:=by
  have:(ops.toList.drop k)[0]?=some o:=by rw[hl];rfl
  simpa using this
 simp only[ary,List.range'_succ];rw[wpOpsIn_cons];unfold wpOpIn;rw[bo];simp only;rw[rJ he,if_pos hw];exact h N hN F ι a w Q k fY hF hi he hd hQ
theorem rh.val{v:IV}{ai:St}(hw:aJ o ops e=true)(hv:ak P ro (aq e) o σ=some (.val v ai))(h:rh P ro rd ops l (e.put o.dst v) df ai cr):rh P ro rd ops (o::l) e df σ cr:=by
 refine .cons (aq2 (lJ hv) h.1) hw fun N hN F ι a w Q k hl hF hi he hd hQ=>?_;have dD:ai.n≤N:=aq2 h.1 hN;refine⟨fun f _=>hF.fn f,?_⟩;rw[Oper.semAt_eq _ _ _ (gV hv (by simp))];obtain⟨u,w',aC,hr,h2,h3,h4⟩:=oj hi he.eval hv dD
 have key:wpOpsIn F 0 P ops Q (as0 (k+1) l.length) (a.put o.dst u) w':=
  h.2 N hN F aC _ w' Q (k+1) hl (hF.mono h4.ext) h3 ((he.mono h4.ext).put h2 _) (hd.mono h4.ext|>fun x=>by cases o.dst<;>exact x) (hQ.from hi h4 dD)
 rcases hr with hr|⟨hr,rfl⟩
 ·rw[hr,Oper.uponIn_value];exact key
 ·rw[hr,Oper.uponIn_skip];exact key
theorem rh.defer{d:Df}(hw:aJ o ops e=true)(hv:ak P ro (aq e) o σ=some (.RT d))(h:rh P ro none ops l (e.put o.dst .undef) (d::df) σ cr):rh P ro none ops (o::l) e df σ cr:=by
 refine .cons h.1 hw fun N hN F ι a w Q k hl hF hi he hd hQ=>?_
 have WI:F=arb:=by
  rcases hF with⟨_,h2⟩|⟨_,_,h2,_⟩
  ·exact h2
  ·cases h2
 refine⟨fun f _=>hF.fn f,?_⟩;obtain⟨dd,hr,xg,c,hc⟩:=oj hi he.eval hv;have ZV:(o.semAt F.round a.eval)=execOp a.eval o:=by rw[WI];rfl
 rw[ZV,hr,Oper.uponIn_defer];refine h.2 N hN F ι _ w Q (k+1) hl hF hi ?_ ?_ hQ
 ·cases fS:o.dst with
  |none=>exact he
  |some t=>exact he.set q_ t
 ·cases o.dst<;>exact⟨xg,hd⟩
end Go.Ev
