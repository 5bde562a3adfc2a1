/- Lemmas over the model, without conditions of their own: regions that draw (2), closed runs. -/
import Derived.Test.YtggffkaadeagbaaGreatEvE
import Derived.RowKit3
import Derived.Below
open List renaming mem_cons->asZ,mem_filter->asK,length_cons->asS,nil_append->as7,cons_append->atm,mem_iff_getElem?->ava,mem_range->auP,range'->auv,drop_drop->ate,range'_succ->au6
open Nat renaming testBit->ast,lt_trichotomy->avv,le_refl->ar9,le_trans->asr,lt_of_not_le->au7,zero_le->asT
open List.cons renaming inj->au_,injEq->as5
open Bool renaming and_eq_true->ar6,false_or->aun,not_true->au2
open Classical renaming byContradiction->asM
open Option renaming isSome_iff_exists->auO,map_some->asC,getD_some->asU
open Go.Region renaming ready->auo,binds->atV
open Array renaming getElem?_eq_getElem->asy,getD_eq_getD_getElem?->atl,all_eq_true'->awl,getElem?_toList->at1,replicate->atr
open Option.some renaming inj->aus
open Go.Fence renaming wide->asz
open Go.Exit renaming inBlock->axl
open Go.Oper renaming semAt_eq->atq,uponIn_enter->auZ
set_option linter.all false
namespace Go.Ev
variable{P:Program}{S:Nat→Self}{ro:Nat}{ops:Array Oper}{pl:dx}{D:Nat→DS}{N:Nat}[Sm]
structure Made(ops:Array Oper)(D:Nat→DS)(p:Piece):Prop where
 lt:p.j<ops.size
 lo:p.lo=(D p.j).n
 hi:p.hi=(D (p.j+1)).n
 aC:(D (p.j+1)).aC=p::(D p.j).aC
def RI(ops:Array Oper)(pl:dx)(D:Nat→DS)(i:Nat):Prop:=aU pl i=.effect∧∃o,ops[i]?=some o∧aF o ops (D i).e=true
def sD(ops:Array Oper)(pl:dx)(D:Nat→DS)(A:Nat→Prop)(q:Nat):Prop:=∀i,A i→RI ops pl D i→¬iP pl i q
def fP(l:List (Nat×T Ob)):T Ob:=match l with|(_,b)::_=>b|[]=>.lf
theorem Tr.aC(ht:Tr P S pl ro ops D)(ho:oZ ops pl)(h0:(D 0).aC=[]):∀j,j≤ops.size→∀p∈(D j).aC,Made ops D p∧p.j<j∧∀i,i<j→RI ops pl D i→¬iP pl i p.j:=by
 intro j;induction j with
 |zero=>intro _ p hp;rw[h0]at hp;cases hp
 |succ j ih=>
  intro hj p hp;have KC:j<ops.size:=by omega
  obtain⟨o,v,h1,_,_,hs⟩:=ht.Nu KC
  have cu:p∈(D j).aC→(RI ops pl D j→¬iP pl j p.j)→Made ops D p∧p.j<j+1∧∀i,i<j+1→RI ops pl D i→¬iP pl i p.j:=fun hp hw=>by
   obtain⟨a,b,c⟩:=ih (by omega) p hp;refine⟨a,by omega,fun i hi eO=>?_⟩;rcases Nat.lt_or_eq_of_le (Nat.le_of_lt_succ hi)with hi|rfl
   ·exact c i hi eO
   ·exact hw eO
  have new:∀σ:St,p=⟨j,(D j).n,σ.n,σ.t⟩→(D (j+1)).n=σ.n→(D (j+1)).aC=⟨j,(D j).n,σ.n,σ.t⟩::(D j).aC→Made ops D p∧p.j<j+1∧∀i,i<j+1→RI ops pl D i→¬iP pl i p.j:=fun σ Dk hn iX=>by
   subst Dk;refine⟨⟨KC,rfl,hn.symm,iX⟩,Nat.lt_succ_self _,fun i hi _ hb=>?_⟩;have:=aeZ ho i (by omega) _ hb;dsimp only at this;omega
  cases hs with
  |skip hw hv hn iX hk hb=>rw[iX]at hp;exact cu hp fun h=>absurd h.1 hk
  |Ez hw hv hn iX hk=>
   rw[iX]at hp;refine cu hp fun h=>?_;obtain⟨_,o',h2,h3⟩:=h;rw[h1]at h2;cases h2;rw[hw]at h3;cases h3
  |pure hw hk hn iX=>rw[iX]at hp;exact cu hp fun h=>(by have:=h.1;rw[hk]at this;cases this)
  |load hw hk hn iX=>rw[iX]at hp;exact cu hp fun h=>(by have:=h.1;rw[hk]at this;cases this)
  |alloc hw hk hb σ he hn iX=>
   have qA:=hp;rw[iX]at qA;rcases asZ.1 qA with rfl|qA
   ·exact new σ rfl hn iX
   ·exact cu qA fun h=>(by have:=h.1;rw[hk]at this;cases this)
  |call hw hk hb i0 b rest fZ σ he hn iX=>
   have qA:=hp;rw[iX]at qA;rcases asZ.1 qA with rfl|qA
   ·exact new σ rfl hn iX
   ·exact cu qA fun h=>(by have:=h.1;rw[hk]at this;cases this)
  |effect hw hk i0 b rest fZ σ he hn hb iX=>
   rw[iX,asK]at hp;refine cu hp.1 fun _ hb=>?_;have h2:=hp.2;unfold iP at hb;rw[hb]at h2;cases h2
theorem Nw(ht:Tr P S pl ro ops D){p:Piece}(hp:Made ops D p):aU pl p.j≠.effect:=by
 intro hk;obtain⟨o,v,h1,_,_,hs⟩:=ht.Nu hp.lt;have iX:=hp.aC;have len:=congrArg List.length iX;simp only[asS]at len;cases hs with
 |skip _ _ _ h=>rw[h]at len;omega
 |Ez _ _ _ h=>rw[h]at len;omega
 |pure _ h=>rw[hk]at h;cases h
 |load _ h=>rw[hk]at h;cases h
 |alloc _ h=>rw[hk]at h;cases h
 |call _ h=>rw[hk]at h;cases h
 |effect _ _ _ _ _ _ _ _ _ _ h=>
  rw[h]at len;have:=List.length_filter_le (fun q=> !ast (pl.bT.getD p.j 0) q.j) (D p.j).aC;omega
theorem Nx{p q:Piece}(hp:Made ops D p)(hq:Made ops D q)(h:p.j=q.j):p=q:=by
 have h1:=hp.aC;have h2:=hq.aC;rw[h,h2]at h1;exact(au_ h1).1.symm
structure qG(ops:Array Oper)(pl:dx)(D:Nat→DS)(N ro:Nat)(gj:Io)(w0:World)(dY:St)(A:Nat→Prop)(m:Nat)(e:Env)(ι:Io)(cur:Nat→Option Ob)(w:World):Prop where
 sub:∀i,A i→i<ops.size
 closed:∀j,A j→∀i,iP pl j i→A i
 env:sB ops D A e
 Ny:m≤ops.size
 KD:∀i,i<ops.size→aU pl i=.effect→(A i↔i<m)
 last:m=0∨∃i,m=i+1∧A i∧aU pl i=.effect
 wh:yL ro (D ops.size).n gj w0 dY (fun id=>(∃j,j<ops.size∧¬A j∧(D j).n≤id∧id<(D (j+1)).n)∨((D ops.size).n≤id∧id<N)) ι cur w
 piece:∀p,Made ops D p→A p.j→sD ops pl D A p.j→∀id o,p.lo≤id→id<p.hi→p.t.get id=some o→cur id=some o
 base:∀id o,(fP (D m).bs).get id=some o→cur id=some o
 Jj:∀p,Made ops D p→sD ops pl D A p.j→∀id,p.lo≤id→id<p.hi→(fP (D m).bs).get id=none
 top:∀id,(D m).n≤id→(fP (D m).bs).get id=none
 low:∀id,id<ro→id<dY.n→(fP (D m).bs).get id=dY.at id
section phi
variable{gj ι ay:Io}{w0 w w':World}{dY:St}{A:Nat→Prop}{m:Nat}{e:Env}{cur rz:Nat→Option Ob}
theorem qG.see(h:qG ops pl D N ro gj w0 dY A m e ι cur w){j n':Nat}{aC:List Piece}(hb:∀i,iP pl j i→A i)(hp:∀p∈aC,Made ops D p∧sD ops pl D A p.j∧p.hi≤n')(hn:(D m).n≤n'):
 (∀id o,(seen aC (pl.bT.getD j 0) (fP (D m).bs)).get id=some o→cur id=some o)∧(∀id,n'≤id→(seen aC (pl.bT.getD j 0) (fP (D m).bs)).get id=none):=by
 refine⟨fun id o hs=>?_,fun id hid=>?_⟩
 ·rcases Gi hs with⟨p,Dl,kR,h1,h2,h3⟩|hs
  ·obtain⟨a,b,_⟩:=hp p Dl;exact h.piece p a (hb _ kR) b id o h1 h2 h3
  ·exact h.base id o hs
 ·cases hs:(seen aC (pl.bT.getD j 0) (fP (D m).bs)).get id with
  |none=>rfl
  |some o=>
   rcases Gi hs with⟨p,Dl,kR,h1,h2,h3⟩|hs
   ·obtain⟨_,_,c⟩:=hp p Dl;omega
   ·rw[h.top id (by omega)]at hs;cases hs
theorem sD.less{A':Nat→Prop}{q:Nat}(h:sD ops pl D A' q)(hA:∀i,A i→A' i):sD ops pl D A q:=fun i hi=>h i (hA i hi)
theorem qG.next(h:qG ops pl D N ro gj w0 dY A m e ι cur w)(ht:Tr P S pl ro ops D)(hc:∀j,bQ (S j))(hk:∀j,br (S j)){j:Nat}{e':Env}(hj:j<ops.size)(mO:¬A j)(hb:∀i,iP pl j i→A i)(fD:aU pl j≠.effect)
 (he:sB ops D (fun i=>A i∨i=j) e'){Fr:Nat→Prop}(kQ:yL ro (D ops.size).n gj w0 dY Fr ay rz w')
 (tK:∀id,((∃i,i<ops.size∧¬(A i∨i=j)∧(D i).n≤id∧id<(D (i+1)).n)∨((D ops.size).n≤id∧id<N))→Fr id)
 (ae0:∀id o,¬((D j).n≤id∧id<(D (j+1)).n)→cur id=some o→rz id=some o)(hr:(D (j+1)).n=(D j).n∨∃p,Made ops D p∧p.j=j)
 (iX:∀p,Made ops D p→p.j=j→∀id o,p.lo≤id→id<p.hi→p.t.get id=some o→rz id=some o):qG ops pl D N ro gj w0 dY (fun i=>A i∨i=j) m e' ay rz w' where
 sub:=fun i hi=>hi.elim (h.sub i) (fun x=>x▸hj)
 closed:=fun i hi q hq=>hi.elim (fun hi=>.inl (h.closed i hi q hq)) (fun x=>.inl (hb q (x▸hq)))
 env:=he
 Ny:=h.Ny
 KD:=fun i hi qH=>by
  rw[←h.KD i hi qH];exact⟨fun x=>x.elim id (fun x=>absurd (x▸qH) fD),.inl⟩
 last:=h.last.imp id (fun⟨i,h1,h2,h3⟩=>⟨i,h1,.inl h2,h3⟩)
 wh:=kQ.fr tK
 piece:=fun p hp hA hu id o h1 h2 h3=>by
  by_cases nL:p.j=j
  ·exact iX p hp nL id o h1 h2 h3
  ·refine ae0 id o (fun hx=>?_) (h.piece p hp (hA.resolve_right nL) (hu.less fun _ x=>.inl x) id o h1 h2 h3);rw[hp.lo]at h1;rw[hp.hi]at h2;exact nL (ht.apart hc hk hp.lt hj ⟨h1,h2⟩ hx)
 base:=fun id o hg=>by
  refine ae0 id o (fun hx=>?_) (h.base id o hg);rcases hr with hr|⟨p,hp,nL⟩
  ·omega
  ·have:=h.Jj p hp (fun i hi _ MY=>mO (h.closed i hi j (nL▸MY))) id (by rw[hp.lo,nL];exact hx.1) (by rw[hp.hi,nL];exact hx.2);rw[this]at hg;cases hg
 Jj:=fun p hp hu=>h.Jj p hp (hu.less fun _ x=>.inl x)
 top:=h.top
 low:=h.low
theorem qG.abO(h:qG ops pl D N ro gj w0 dY A m e ι cur w){j:Nat}{e':Env}(hj:j<ops.size)(hb:∀i,iP pl j i→A i)(fD:aU pl j=.effect)(vL:∀i,i<ops.size→aU pl i=.effect→(A i↔i<j))
 (he:sB ops D (fun i=>A i∨i=j) e'){Fr:Nat→Prop}(kQ:yL ro (D ops.size).n gj w0 dY Fr ay rz w')
 (tK:∀id,((∃i,i<ops.size∧¬(A i∨i=j)∧(D i).n≤id∧id<(D (i+1)).n)∨((D ops.size).n≤id∧id<N))→Fr id)
 (iX:∀p,Made ops D p→p.j≠j→A p.j→sD ops pl D (fun i=>A i∨i=j) p.j→∀id o,p.lo≤id→id<p.hi→cur id=some o→rz id=some o)(bc:∀p,Made ops D p→p.j≠j)
 (Uf:∀id o,(fP (D (j+1)).bs).get id=some o→rz id=some o)
 (aiT:∀p,Made ops D p→sD ops pl D (fun i=>A i∨i=j) p.j→∀id,p.lo≤id→id<p.hi→(fP (D (j+1)).bs).get id=none)
 (Gk:∀id,(D (j+1)).n≤id→(fP (D (j+1)).bs).get id=none)(ant:∀id,id<ro→id<dY.n→(fP (D (j+1)).bs).get id=dY.at id):
 qG ops pl D N ro gj w0 dY (fun i=>A i∨i=j) (j+1) e' ay rz w' where
 sub:=fun i hi=>hi.elim (h.sub i) (fun x=>x▸hj)
 closed:=fun i hi q hq=>hi.elim (fun hi=>.inl (h.closed i hi q hq)) (fun x=>.inl (hb q (x▸hq)))
 env:=he
 Ny:=hj
 KD:=fun i hi qH=>by
  constructor
  ·intro x;rcases x with x|rfl
   ·have:=(vL i hi qH).1 x;omega
   ·omega
  ·intro x;by_cases qD:i=j
   ·exact .inr qD
   ·exact .inl ((vL i hi qH).2 (by omega))
 last:=.inr ⟨j,rfl,.inr rfl,fD⟩
 wh:=kQ.fr tK
 piece:=fun p hp hA hu id o h1 h2 h3=>iX p hp (bc p hp) (hA.resolve_right (bc p hp)) hu id o h1 h2 (h.piece p hp (hA.resolve_right (bc p hp)) (hu.less fun _ x=>.inl x) id o h1 h2 h3)
 base:=Uf
 Jj:=aiT
 top:=Gk
 low:=ant
end phi
end Go.Ev
namespace Go.Ev
variable{P:Program}{S:Nat→Self}{ro:Nat}{ops:Array Oper}{pl:dx}{D:Nat→DS}{N:Nat}[Sm]
theorem KE{e:Env}{o:Oper}{n bits:Nat}{v:IV}{aC:List Piece}{b:T Ob}(h:loadAt P e o n v aC bits b=true):
 ∃σ,ak P n (aq e) o ⟨n,seen aC bits b⟩=some (.val v σ)∧σ.n=n:=by
 unfold loadAt at h;split at h
 ·rename_i u σ he;simp only[ar6]at h;rw[Sm.ok _ _ h.2]at he;exact⟨σ,he,Nat.eq_of_beq_eq_true h.1⟩
 ·cases h
theorem FG{e:Env}{o:Oper}{n bits:Nat}{v:IV}{aC:List Piece}{i:Nat}{b:T Ob}{rest:List (Nat×T Ob)}:∀{pre:List (Nat×T Ob)},lJ P e o n v aC bits (pre++(i,b)::rest)=true→
 (∀x∈pre,ast bits x.1≠true)→loadAt P e o n v aC bits b=true
 |[],h,_=>by
  simp only[as7,lJ,ar6]at h;exact h.1
 |x::pre,h,hp=>by
  obtain⟨i',b'⟩:=x;simp only[atm,lJ,ar6,Bool.or_eq_true]at h;exact FG (h.2.resolve_left (hp (i',b') (by simp))) fun y hy=>hp y (by simp[hy])
theorem WH{i:Nat}{t:Tmp}(h:iO ops i=some t):i<ops.size:=by
 unfold iO at h;cases ho:ops[i]? with
 |none=>rw[ho]at h;cases h
 |some o=>exact(Array.getElem?_eq_some_iff.1 ho).1
section step
variable{gj ι:Io}{w0 w:World}{dY:St}{A:Nat→Prop}{m:Nat}{e:Env}{cur:Nat→Option Ob}{j:Nat}
theorem qG.reads(h:qG ops pl D N ro gj w0 dY A m e ι cur w)(ht:Tr P S pl ro ops D)(ho:oZ ops pl)(hj:j<ops.size)(mO:¬A j)(hb:∀i,iP pl j i→A i):∀t∈zN ops j,e.at t=(D j).e.at t:=by
 intro t hm;refine Gj h.env (ht.env ho j (by omega)) fun i hd=>?_;have hi:=WH hd;rcases avv i j with aa|rfl|aa
 ·refine⟨fun _=>aa,fun _=>asM fun hn=>?_⟩;exact(ho.free i j aa hj (fun hx=>hn (hb i hx))).1 t hd hm
 ·exact⟨fun x=>absurd x mO,fun x=>absurd x (by omega)⟩
 ·refine⟨fun hA=>absurd hm ?_,fun x=>by omega⟩;exact(ho.free j i aa hi (fun hx=>mO (h.closed i hA j hx))).2.1 t hd
theorem qG.order(h:qG ops pl D N ro gj w0 dY A m e ι cur w)(ht:Tr P S pl ro ops D)(ho:oZ ops pl)(hj:j<ops.size)(mO:¬A j)(hb:∀i,iP pl j i→A i)(fD:aU pl j=.effect∨aU pl j=.call):
 (∀i,i<ops.size→aU pl i=.effect→(A i↔i<j))∧m≤j∧(D j).bs=(D m).bs:=by
 have h1:∀i,i<ops.size→aU pl i=.effect→(A i↔i<j):=by
  intro i hi qH;rcases avv i j with aa|rfl|aa
  ·refine⟨fun _=>aa,fun _=>asM fun hn=>?_⟩;have:=(ho.free i j aa hj (fun hx=>hn (hb i hx))).2.2;rw[qH]at this;rcases fD with fD|fD<;>(rw[fD]at this;cases this)
  ·exact⟨fun x=>absurd x mO,fun x=>absurd x (by omega)⟩
  ·refine⟨fun hA=>?_,fun x=>by omega⟩;have:=(ho.free j i aa hi (fun hx=>mO (h.closed i hA j hx))).2.2;rw[qH]at this;rcases fD with fD|fD<;>(rw[fD]at this;cases this)
 have h2:m≤j:=by
  rcases h.last with hm|⟨i,hm,hA,qH⟩
  ·omega
  ·have:=(h1 i (h.sub i hA) qH).1 hA;omega
 refine⟨h1,h2,ht.Nv h2 (by omega) fun i Nz WI qH=>?_⟩;have:=(h1 i (by omega) qH).2 WI;have:=(h.KD i (by omega) qH).1 this;omega
theorem Tr.aiU(ht:Tr P S pl ro ops D)(hj:j<ops.size):(D j).bs≠[]:=by
 obtain⟨_,_,_,_,h,_⟩:=ht.Nu hj;exact h
theorem qG.aiV(h:qG ops pl D N ro gj w0 dY A m e ι cur w)(ht:Tr P S pl ro ops D)(ho:oZ ops pl)(hc:∀j,bQ (S j))(hk:∀j,br (S j))(h0:(D 0).aC=[])(hj:j<ops.size)(mO:¬A j)(hb:∀i,iP pl j i→A i)
 {o:Oper}{v:IV}(lY:ops[j]?=some o)(hw:aF o ops (D j).e=true)(fD:aU pl j=.load)(hej:(D (j+1)).e=(D j).e.put o.dst v)
 {i0:Nat}{b:T Ob}{rest:List (Nat×T Ob)}(fZ:(D j).bs=(i0,b)::rest){σ:St}(he:ak P (D j).n (aq (D j).e) o ⟨(D j).n,seen (D j).aC (pl.bT.getD j 0) b⟩=some (.val v σ))(kf:σ.n=(D j).n)
 (hl:(ast (pl.bT.getD j 0) i0||lJ P (D j).e o (D j).n v (D j).aC (pl.bT.getD j 0) rest)=true):
 ∃aC n' u ah,ak P n' (aq e) o ⟨n',seen aC (pl.bT.getD j 0) (fP (D m).bs)⟩=some (.val u ah)∧ah.n=n'∧(∀p∈aC,Made ops D p∧sD ops pl D A p.j∧p.hi≤n')∧(D m).n≤n'∧e.put o.dst u=e.put o.dst v:=by
 have jk:=h.reads ht ho hj mO hb;have oF:e.n=(D j).e.n:=by rw[h.env.n,(ht.env ho j (by omega)).n]
 by_cases HB:m≤j
 ·have iX:∀p∈(D j).aC,Made ops D p∧sD ops pl D A p.j∧p.hi≤(D j).n:=by
   intro p hp;obtain⟨a,b,c⟩:=ht.aC ho h0 j (by omega) p hp;refine⟨a,fun i hA FH=>c i ?_ FH,by rw[a.hi];exact ht.fC hc hk b (by omega)⟩;have:=(h.KD i (h.sub i hA) FH.1).1 hA;omega
  have Mm:=fun(n':Nat) (σ:St)=>pL (P:=P) (ro:=n') (σ:=σ) (sC lY jk oF).1;obtain⟨pre,NA,xD⟩:=ht.KB HB (by omega:j≤ops.size);cases pre with
  |nil=>
   have p7:fP (D m).bs=b:=by
    rw[as7]at NA;rw[←NA,fZ];rfl
   exact⟨(D j).aC,(D j).n,v,σ,by rw[Mm,p7];exact he,kf,iX,ht.fC hc hk HB (by omega),rfl⟩
  |cons x pre=>
   obtain⟨i1,b1,Mn,FA⟩:∃i1 b1 Mn,(D m).bs=(i1,b1)::Mn:=by
    cases hx:(D m).bs with
    |nil=>exact absurd hx (ht.aiU (by omega))
    |cons y ys=>exact⟨y.1,y.2,ys,rfl⟩
   have nob:∀y∈x::pre,ast (pl.bT.getD j 0) y.1≠true:=by
    intro y hy kR;obtain⟨g1,g2,g3⟩:=xD y hy;have:=(h.KD y.1 (by omega) g3).1 (hb y.1 kR);omega
   rw[fZ]at NA;simp only[atm,as5]at NA;obtain⟨hx,fw⟩:=NA
   have Ky:ast (pl.bT.getD j 0) i0=false:=by
    have:=nob x (by simp);rw[←hx]at this;simpa using this
   rw[Ky,aun,fw,FA]at hl;obtain⟨ah,h1,h2⟩:=KE (FG hl fun y hy=>nob y (by simp[hy]));refine⟨(D j).aC,(D j).n,v,ah,?_,h2,iX,ht.fC hc hk HB (by omega),rfl⟩;rw[Mm,FA];exact h1
 ·obtain⟨i,hmi,hA,qH⟩:∃i,m=i+1∧A i∧aU pl i=.effect:=h.last.resolve_left (by omega);have hi:=h.sub i hA;have qD:i≠j:=fun hx=>mO (hx▸hA);have aa:j<i:=by omega
  have aiW:¬iP pl i j:=fun hx=>mO (h.closed i hA j hx)
  have iX:∀p∈(D m).aC,Made ops D p∧sD ops pl D A p.j∧p.hi≤(D m).n:=by
   intro p hp;obtain⟨a,b,c⟩:=ht.aC ho h0 m h.Ny p hp;refine⟨a,fun i hA FH=>c i ?_ FH,by rw[a.hi];exact ht.fC hc hk b h.Ny⟩;exact(h.KD i (h.sub i hA) FH.1).1 hA
  have Ug:=ht.env ho i (by omega)
  have ae1:∀t∈zN ops j,e.at t=(D i).e.at t:=by
   intro t htm;refine Gj h.env Ug fun q hd=>?_;have hq:=WH hd;rcases avv q j with WJ|rfl|WJ
   ·have:A q:=asM fun hn=>(ho.free q j WJ hj (fun hx=>hn (hb q hx))).1 t hd htm;exact⟨fun _=>by omega,fun _=>this⟩
   ·exact absurd htm (ho.Z2 q hj fD t hd)
   ·exact absurd htm (ho.WC j q WJ hq fD t hd)
  have ae2:e.n=(D i).e.n:=by rw[h.env.n,Ug.n]
  have Mm:=fun(n':Nat) (σ:St)=>pL (P:=P) (ro:=n') (σ:=σ) (sC lY ae1 ae2).1;have eO:aF o ops (D i).e=true:=by rw[←(sC lY ae1 ae2).2,(sC lY jk oF).2,hw]
  have Bf:recheck P pl ops (pl.bT.getD i 0) (D i).e (D m).n (D m).aC (fP (D m).bs) (ops.toList.zipIdx.take i)=true:=by
   obtain⟨o',v',_,_,_,hs⟩:=ht.Nu hi;rw[hmi];cases hs with
   |skip _ _ _ _ hx=>exact absurd qH hx
   |Ez _ _ hn hp _ i1 b1 Mn _ cK hr=>rw[hn,hp,cK];exact hr
   |pure _ hx=>rw[qH]at hx;cases hx
   |alloc _ hx=>rw[qH]at hx;cases hx
   |load _ hx=>rw[qH]at hx;cases hx
   |call _ hx=>rw[qH]at hx;cases hx
   |effect _ _ i1 b1 Mn _ ai _ hn cK hp hr=>rw[cK];exact hr
  unfold recheck at Bf;rw[List.all_eq_true]at Bf
  have iY:(o,j)∈ops.toList.zipIdx.take i:=by
   rw[ava];refine⟨j,?_⟩;rw[List.getElem?_take,if_pos aa,List.getElem?_zipIdx];have:ops.toList[j]?=some o:=by simpa using lY
   rw[this];simp
  have hx:=Bf (o,j) iY;dsimp only at hx;have anu:pl.kinds.getD j .effect=.load:=fD;rw[anu]at hx
  have Ky:ast (pl.bT.getD i 0) j=false:=by
   cases hc:ast (pl.bT.getD i 0) j with
   |false=>rfl
   |true=>exact absurd hc aiW
  rw[Ky,eO]at hx;simp only[au2,aun]at hx;split at hx
  ·rename_i d hd;obtain⟨ah,h1,h2⟩:=KE hx;refine⟨(D m).aC,(D m).n,(D i).e.at d,ah,?_,h2,iX,ar9 _,?_⟩
   ·rw[Mm];exact h1
   ·rw[hd];have hdj:iO ops j=some d:=by unfold iO;rw[lY];exact hd
    have az:(D i).e.at d=(D (j+1)).e.at d:=Ug.put j aa d hdj;rw[az,hej,hd,Env.cJ];by_cases hdn:d<e.n
    ·rw[if_pos ⟨by rw[←oF];exact hdn,rfl⟩]
    ·have gE:∀z:IV,e.put (some d) z=e:=fun z=>by
      have:Nat.blt d e.n=false:=by
       cases hc:Nat.blt d e.n with
       |false=>rfl
       |true=>exact absurd (by simpa using hc) hdn
      simp only[Env.put,this];rfl
     rw[gE,gE]
  ·cases hx
end step
end Go.Ev
namespace Go.Ev
variable{P:Program}{S:Nat→Self}{ro nn:Nat}{ops:Array Oper}{pl:dx}{D:Nat→DS}{N:Nat}{F:Fence}{rd:Option Nat}{Q:Exit→Act→World→Prop}[Sm]
theorem put_defers{a:Act}{dst:Option Tmp}{u:Value}:(a.put dst u).defers=a.defers:=by cases dst<;>rfl
theorem Z5{cur:Nat→Option Ob}{σ ah:St}(h:∀id,σ.at id=none)(hn:ah.n≤σ.n):yK cur σ ah=cur:=by
 funext id;unfold yK;rw[if_neg];rw[h id];intro hx;rcases hx with hx|hx
 ·cases hx
 ·omega
section step
variable{gj ι:Io}{w0 w:World}{dY:St}{A:Nat→Prop}{m:Nat}{e:Env}{cur:Nat→Option Ob}{j:Nat}{a:Act}{K:Act→World→Prop}
theorem qG.step(hS:∀j,gM P (S j) nn)(hC:∀j,dL P (S j))(hm:∀j,bQ (S j))(hk:∀j,br (S j))(ho:oZ ops pl)(ht:Tr P S pl ro ops D)(h0:(D 0).aC=[])(kf:(D 0).n=dY.n)(hnk:(D ops.size).n≤N)(tS:Inv N gj dY w0)
 (h:qG ops pl D N ro gj w0 dY A m e ι cur w)(hj:j<ops.size)(mO:¬A j)(hb:∀i,iP pl j i→A i)(hF0:jS F rd gj)(he:cM ι e a.tmps)
 (hK:∀m' e' ay rz w' a',qG ops pl D N ro gj w0 dY (fun i=>A i∨i=j) m' e' ay rz w'→cM ay e' a'.tmps→a'.defers=a.defers→K a' w'):wpOpIn F 0 P ops Q j K a w:=by
 obtain⟨o,v,lY,hej,arP,hs⟩:=ht.Nu hj;have hF:jS F rd ι:=hF0.mono h.wh.ext;have Uh:=ht.env ho j (by omega);have jk:=h.reads ht ho hj mO hb;have oF:e.n=(D j).e.n:=by rw[h.env.n,Uh.n]
 have dZ:=sC lY jk oF;have hold:∀t,iO ops j=some t→(D j).e.at t=(D 0).e.at t:=fun t hd=>Uh.cu t fun i hi hc=>ho.single i j hi hj t hc hd;have Bh:sB ops D (fun i=>A i∨i=j) (e.put o.dst v):=h.env.step ho h.sub lY mO hej hold Uh.n;have Nr:∀id,dY.n≤id→id<(D ops.size).n→∀e,gj id e=none:=fun id h1 h2=>tS.fresh id h1 (by omega);have hnj:(D j).n≤(D (j+1)).n:=ht.WE hm hk hj;have Z6:dY.n≤(D j).n:=by rw[←kf];exact ht.fC hm hk (by omega) (by omega)
 have arQ:(D (j+1)).n≤(D ops.size).n:=ht.fC hm hk (by omega) (by omega)
 have hX:∀id,((∃i,i<ops.size∧¬(A i∨i=j)∧(D i).n≤id∧id<(D (i+1)).n)∨((D ops.size).n≤id∧id<N))→
  ((∃i,i<ops.size∧¬A i∧(D i).n≤id∧id<(D (i+1)).n)∨((D ops.size).n≤id∧id<N))∧¬((D j).n≤id∧id<(D (j+1)).n):=by
  intro id hx;rcases hx with⟨i,h1,h2,h3⟩|hx
  ·exact⟨.inl ⟨i,h1,fun hA=>h2 (.inl hA),h3⟩,fun hr=>h2 (.inr (ht.apart hm hk h1 hj h3 hr))⟩
  ·exact⟨.inr hx,fun hr=>by omega⟩
 have hFr:∀id,(D j).n≤id→id<(D (j+1)).n→((∃i,i<ops.size∧¬A i∧(D i).n≤id∧id<(D (i+1)).n)∨((D ops.size).n≤id∧id<N)):=fun id h1 h2=>.inl ⟨j,hj,mO,h1,h2⟩
 have Jk:(D (j+1)).n=(D j).n→∀p,Made ops D p→p.j=j→∀(rz:Nat→Option Ob) id o,p.lo≤id→id<p.hi→p.t.get id=some o→rz id=some o:=by
  intro hn p hp nL rz id o h1 h2;rw[hp.lo,nL]at h1;rw[hp.hi,nL]at h2;omega
 have hbB:∀{i0:Nat} {b:T Ob} {rest:List (Nat×T Ob)},(D j).bs=(i0,b)::rest→(D j).bs=(D m).bs→fP (D m).bs=b:=fun h1 h2=>by rw[←h2,h1];rfl
 have iw:(∀i,i<ops.size→aU pl i=.effect→(A i↔i<j))→∀p∈(D j).aC,Made ops D p∧sD ops pl D A p.j∧p.hi≤(D j).n:=by
  intro vL p hp;obtain⟨c1,c2,c3⟩:=ht.aC ho h0 j (by omega) p hp;exact⟨c1,fun i hA FH=>c3 i ((vL i (h.sub i hA) FH.1).1 hA) FH,by rw[c1.hi];exact ht.fC hm hk c2 (by omega)⟩
 unfold wpOpIn;rw[lY];dsimp only;rw[oX he,dZ.2];cases hs with
 |skip hw hv hn hp fD fZ=>
  rw[hw];refine⟨fun f _=>hF.fn f,?_⟩;subst hv;exact hK m _ ι cur w _ (h.next ht hm hk hj mO hb fD Bh h.wh (fun id hx=>(hX id hx).1) (fun _ _ _ hc=>hc) (.inl hn) (fun p hp nL=>Jk hn p hp nL cur)) (he.put oW _) put_defers
 |Ez hw hv hn hp fD i0 b rest fZ cK hr=>
  rw[hw];refine⟨fun f _=>hF.fn f,?_⟩;subst hv;obtain⟨vL,HB,p7⟩:=h.order ht ho hj mO hb (.inl fD);have hB:=hbB fZ p7;have HC:fP (D (j+1)).bs=fP (D m).bs:=by rw[cK,hB];rfl
  have mN:=ht.fC hm hk HB (by omega:j≤ops.size);refine hK (j+1) _ ι cur w _ (h.abO hj hb fD vL Bh h.wh (fun id hx=>(hX id hx).1) (fun _ _ _ _ _ _ _ _ _ hc=>hc) (fun p hp nL=>Nw ht hp (by rw[nL];exact fD)) ?_ ?_ ?_ ?_) (he.put oW _) put_defers
  ·rw[HC];exact h.base
  ·rw[HC];exact fun p hp hu=>h.Jj p hp (hu.less fun _ x=>.inl x)
  ·rw[HC];exact fun id hid=>h.top id (by omega)
  ·rw[HC];exact h.low
 |pure hw fD hn hp fZ σ fT HD=>
  rw[hw];have hx:jh P (S j) 0 e o ⟨0,.lf⟩=some (v,σ):=by unfold jh;rw[pL dZ.1,fT]
  refine Ak (N:=0) (hS j) (hC j) (hm j) hx (by omega) hF (h.wh.toGn.inv (fun id o hs=>by cases hs) (fun id h1 h2=>by omega) (fun _ _=>rfl)) he fun u w' ay hv cU hl=>?_;have kQ:=h.wh.step Nr (fun id o hs=>by cases hs) (fun id h1 h2=>by omega) (fun id _ hs=>by cases hs) (fun _ _=>rfl) cU hl;rw[Z5 (fun _=>rfl) (by omega)]at kQ;exact hK m _ ay cur w' _ (h.next ht hm hk hj mO hb (by rw[fD];simp) Bh kQ (fun id hx=>⟨(hX id hx).1,fun hh=>by omega⟩) (fun _ _ _ hc=>hc) (.inl hn) (fun p hp nL=>Jk hn p hp nL cur)) ((he.mono hl.ext).put hv _) put_defers
 |alloc hw fD fZ σ fT hn hp=>
  rw[hw];have hx:jh P (S j) 0 e o ⟨(D j).n,.lf⟩=some (v,σ):=by unfold jh;rw[pL dZ.1,fT]
  refine Ak (N:=(D (j+1)).n) (hS j) (hC j) (hm j) hx (by omega) hF (h.wh.toGn.inv (fun id o hs=>by cases hs) (fun id h1 h2=>hFr id h1 h2) (fun _ _=>rfl)) he fun u w' ay hv cU hl=>?_;have kQ:=h.wh.step Nr (fun id o hs=>by cases hs) (fun id h1 h2=>⟨asr Z6 h1,by omega⟩) (fun id _ hs=>by cases hs) (fun _ _=>rfl) cU hl;have Nn:Made ops D ⟨j,(D j).n,σ.n,σ.t⟩:=⟨hj,rfl,hn.symm,hp⟩;refine hK m _ ay _ w' _ (h.next ht hm hk hj mO hb (by rw[fD];simp) Bh kQ (fun id hx=>⟨(hX id hx).1,fun hh=>(hX id hx).2 (by rw[hn];exact hh)⟩) (fun id o hr hc=>?_) (.inr ⟨_,Nn,rfl⟩) (fun p lp nL id o h1 h2 h3=>?_)) ((he.mono hl.ext).put hv _) put_defers
  ·unfold yK;rw[if_neg,hc];intro hx;rcases hx with hx|hx
   ·cases hx
   ·exact hr (by rw[hn];exact hx)
  ·have Dk:=Nx lp Nn nL;subst Dk;unfold yK;rw[if_pos (.inr ⟨h1,h2⟩)];exact h3
 |load hw fD hn hp fZ i0 b rest Dm σ fT HD Cq=>
  rw[hw];obtain⟨aC,n',u',ah,anv,arR,RJ,mN,Gg⟩:=h.aiV ht ho hm hk h0 hj mO hb lY hw fD hej Dm fT HD Cq;obtain⟨e_,iZ⟩:=h.see hb RJ mN;have hx:jh P (S j) n' e o ⟨n',seen aC (pl.bT.getD j 0) (fP (D m).bs)⟩=some (u',ah):=by unfold jh;rw[anv]
  refine Ak (N:=n') (hS j) (hC j) (hm j) hx (by omega) hF (h.wh.toGn.inv e_ (fun id h1 h2=>by dsimp only at h1;omega) iZ) he fun u w' ay hv cU hl=>?_;have kQ:=h.wh.step (σ:=⟨n',seen aC (pl.bT.getD j 0) (fP (D m).bs)⟩) Nr e_ (fun id h1 h2=>by dsimp only at h1;omega) (fun id _ hs=>?_) iZ cU hl
  ·have RL:yK cur ⟨n',seen aC (pl.bT.getD j 0) (fP (D m).bs)⟩ ah=cur:=by
    funext id;unfold yK;split
    ·rename_i hc;have hs:((⟨n',seen aC (pl.bT.getD j 0) (fP (D m).bs)⟩:St).at id).isSome:=hc.resolve_right (by dsimp only;omega);obtain⟨x,hx⟩:=auO.1 hs;have aa:id<n':=au7 fun hle=>by have:=iZ id hle;rw[show(⟨n',seen aC (pl.bT.getD j 0) (fP (D m).bs)⟩:St).at id=_ from this]at hx;cases hx
     rw[hl.vK id aa aa,hx];exact(e_ id x hx).symm
    ·rfl
   rw[RL]at kQ;have anw:cM ay (e.put o.dst v) (a.put o.dst u).tmps:=by rw[←Gg];exact(he.mono hl.ext).put hv _
   exact hK m _ ay cur w' _ (h.next ht hm hk hj mO hb (by rw[fD];simp) Bh kQ (fun id hx=>⟨(hX id hx).1,fun hh=>by dsimp only at hh;omega⟩) (fun _ _ _ hc=>hc) (.inl hn) (fun p hp nL=>Jk hn p hp nL cur)) anw put_defers
  ·exact au7 fun hle=>by
    have:=iZ id hle;rw[show(⟨n',seen aC (pl.bT.getD j 0) (fP (D m).bs)⟩:St).at id=_ from this]at hs;cases hs
 |call hw fD fZ i0 b rest Dm σ fT hn hp=>
  rw[hw];obtain⟨vL,HB,p7⟩:=h.order ht ho hj mO hb (.inr fD);have hB:=hbB Dm p7;have mN:=ht.fC hm hk HB (by omega:j≤ops.size);obtain⟨e_,iZ⟩:=h.see hb (iw vL) mN;rw[hB]at e_ iZ
  have hx:jh P (S j) (D j).n e o ⟨(D j).n,seen (D j).aC (pl.bT.getD j 0) b⟩=some (v,σ):=by
   rw[←fT];unfold jh;rw[pL dZ.1]
  have aa:∀id,((⟨(D j).n,seen (D j).aC (pl.bT.getD j 0) b⟩:St).at id).isSome=true→id<(D j).n:=fun id hs=>au7 fun hle=>by
   have:=iZ id hle;rw[show(⟨(D j).n,seen (D j).aC (pl.bT.getD j 0) b⟩:St).at id=_ from this]at hs;cases hs
  refine Ak (N:=(D (j+1)).n) (hS j) (hC j) (hm j) hx (by omega) hF (h.wh.toGn.inv e_ (fun id h1 h2=>hFr id h1 h2) iZ) he fun u w' ay hv cU hl=>?_;have kQ:=h.wh.step (σ:=⟨(D j).n,seen (D j).aC (pl.bT.getD j 0) b⟩) Nr e_ (fun id h1 h2=>⟨asr Z6 h1,by omega⟩) (fun id _ hs=>aa id hs) iZ cU hl;have Nn:Made ops D ⟨j,(D j).n,σ.n,σ.t⟩:=⟨hj,rfl,hn.symm,hp⟩;refine hK m _ ay _ w' _ (h.next ht hm hk hj mO hb (by rw[fD];simp) Bh kQ (fun id hx=>⟨(hX id hx).1,fun hh=>(hX id hx).2 (by rw[hn];exact hh)⟩) (fun id o hr hc=>?_) (.inr ⟨_,Nn,rfl⟩) (fun p lp nL id o h1 h2 h3=>?_)) ((he.mono hl.ext).put hv _) put_defers
  ·unfold yK;split
   ·rename_i nH;have hs:=nH.resolve_right (fun hx=>hr (by rw[hn];exact hx));obtain⟨x,hx⟩:=auO.1 hs;rw[hl.vK id (aa id hs) (aa id hs),hx,←e_ id x hx];exact hc
   ·exact hc
  ·have Dk:=Nx lp Nn nL;subst Dk;unfold yK;rw[if_pos (.inr ⟨h1,h2⟩)];exact h3
 |effect hw fD i0 b rest Dm σ fT hn cK hp hr=>
  rw[hw];obtain⟨vL,HB,p7⟩:=h.order ht ho hj mO hb (.inl fD);have hB:=hbB Dm p7;have HC:fP (D (j+1)).bs=σ.t:=by rw[cK];rfl
  have mN:=ht.fC hm hk HB (by omega:j≤ops.size);obtain⟨e_,iZ⟩:=h.see hb (iw vL) mN;rw[hB]at e_ iZ
  have hx:jh P (S j) ro e o ⟨(D j).n,seen (D j).aC (pl.bT.getD j 0) b⟩=some (v,σ):=by
   rw[←fT];unfold jh;rw[pL dZ.1]
  have WK:RI ops pl D j:=⟨fD,o,lY,hw⟩
  have ma:∀p,Made ops D p→sD ops pl D (fun i=>A i∨i=j) p.j→∀id,p.lo≤id→id<p.hi→(seen (D j).aC (pl.bT.getD j 0) b).get id=none:=by
   intro p lp hu id h1 h2;cases Cz:(seen (D j).aC (pl.bT.getD j 0) b).get id with
   |none=>rfl
   |some x=>
    rcases Gi Cz with⟨q,hq,kR,g1,g2,g3⟩|Cz
    ·obtain⟨Cs,_,_⟩:=iw vL q hq
     have:q.j=p.j:=by
      rw[Cs.lo]at g1;rw[Cs.hi]at g2;rw[lp.lo]at h1;rw[lp.hi]at h2;exact ht.apart hm hk Cs.lt lp.lt ⟨g1,g2⟩ ⟨h1,h2⟩
     exact absurd (show iP pl j p.j by rw[←this];exact kR) (hu j (.inr rfl) WK)
    ·rw[←hB,h.Jj p lp (hu.less fun _ x=>.inl x) id h1 h2]at Cz;cases Cz
  have bc:∀p,Made ops D p→p.j≠j:=fun p lp nL=>Nw ht lp (by rw[nL];exact fD)
  have ae3:∀p,Made ops D p→∀id,p.lo≤id→id<p.hi→¬((D j).n≤id∧id<σ.n):=fun p lp id h1 h2 hx=>by
   rw[lp.lo]at h1;rw[lp.hi]at h2;exact bc p lp (ht.apart hm hk lp.lt hj ⟨h1,h2⟩ (by rw[hn];exact hx))
  refine Ak (N:=(D (j+1)).n) (hS j) (hC j) (hm j) hx (by omega) hF (h.wh.toGn.inv e_ (fun id h1 h2=>hFr id h1 h2) iZ) he fun u w' ay hv cU hl=>?_;have kQ:=h.wh.step (σ:=⟨(D j).n,seen (D j).aC (pl.bT.getD j 0) b⟩) Nr e_ (fun id h1 h2=>⟨asr Z6 h1,by omega⟩) (fun id hr _=>hr) iZ cU hl;refine hK (j+1) _ ay _ w' _ (h.abO hj hb fD vL Bh kQ (fun id hx=>⟨(hX id hx).1,fun hh=>(hX id hx).2 (by rw[hn];exact hh)⟩) (fun p lp nL hA hu id o h1 h2 hc=>?_) bc ?_ ?_ ?_ ?_) ((he.mono hl.ext).put hv _) put_defers
  ·unfold yK;rw[if_neg]
   ·exact hc
   ·intro hx;rcases hx with hx|hx
    ·rw[show(⟨(D j).n,seen (D j).aC (pl.bT.getD j 0) b⟩:St).at id=_ from ma p lp hu id h1 h2]at hx;cases hx
    ·exact ae3 p lp id h1 h2 hx
  ·rw[HC];intro id o hg;unfold yK;split
   ·exact hg
   ·rename_i hx
    have jI:(⟨(D j).n,seen (D j).aC (pl.bT.getD j 0) b⟩:St).at id=none:=by
     cases hs:(⟨(D j).n,seen (D j).aC (pl.bT.getD j 0) b⟩:St).at id with
     |none=>rfl
     |some y=>exact absurd (.inl (by rw[hs];rfl)) hx
    have ari:¬((D j).n≤id∧id<σ.n):=fun hh=>hx (.inr hh);have:=hl.dead id jI (by dsimp only;omega);rw[show σ.at id=_ from hg]at this;cases this
  ·rw[HC];intro p lp hu id h1 h2;have:=ae3 p lp id h1 h2;exact hl.dead id (ma p lp hu id h1 h2) (by dsimp only;omega)
  ·rw[HC];intro id hid;exact hl.dead id (iZ id (by omega)) (.inr (by omega))
  ·rw[HC];intro id HE aa;rw[show σ.t.get id=σ.at id from rfl,hl.vK id HE (by dsimp only;omega)];show(seen (D j).aC (pl.bT.getD j 0) b).get id=_;rw[Z3,←hB]
   ·exact h.low id HE aa
   ·intro p lp;obtain⟨c1,c2,_⟩:=ht.aC ho h0 j (by omega) p lp;rw[c1.lo];have:=ht.fC hm hk (asT p.j) (by have:=c1.lt;omega);omega
end step
end Go.Ev
namespace Go.Ev
variable{P:Program}{S:Nat→Self}{ro nn:Nat}{ops:Array Oper}{pl:dx}{D:Nat→DS}{N:Nat}{F:Fence}{rd:Option Nat}{Q:Exit→Act→World→Prop}[Sm]
def qI(listed:Array Bool)(i:Nat):Prop:=listed[i]?=some true
theorem adx{listed:Array Bool}{j:Nat}(hj:j<listed.size):qI (listed.setIfInBounds j true)=fun i=>qI listed i∨i=j:=by
 funext i;refine propext ?_;unfold qI;rw[Array.getElem?_setIfInBounds];by_cases qD:j=i
 ·subst qD;simp[hj]
 ·simp[qD,Ne.symm qD]
theorem KF{listed:Array Bool}{j:Nat}(h:j∈auo .any ops listed):j<ops.size∧listed[j]?=some false∧∃o,ops[j]?=some o∧∀e∈o.after.toList,atV .any e=true→qI listed e.on:=by
 unfold auo at h;rw[asK,auP]at h;obtain⟨aa,h⟩:=h;rw[ar6]at h;refine⟨aa,?_,ops[j],asy aa,fun e he hb=>?_⟩
 ·have h1:=h.1;rw[atl]at h1;cases hx:listed[j]? with
  |none=>rw[hx]at h1;cases h1
  |some b=>rw[hx]at h1;cases b with
   |false=>rfl
   |true=>cases h1
 ·have h2:=h.2;rw[asy aa]at h2;simp only[asC,asU]at h2;rw[awl]at h2;have:=h2 e (by simpa using he);rw[hb,au2,aun,atl]at this;unfold qI;cases hx:listed[e.on]? with
  |none=>rw[hx]at this;cases this
  |some b=>rw[hx]at this;cases b with
   |false=>cases this
   |true=>rfl
theorem WL(ho:oZ ops pl){listed:Array Bool}(aK:listed.size=ops.size)(h:auo .any ops listed=[]):∀i,i<ops.size→qI listed i:=by
 intro i;induction i using Nat.strongRecOn with
 |_ i ih=>
  intro hi;refine asM fun hn=>?_
  have hf:listed[i]?=some false:=by
   rw[asy (by omega)];cases hx:listed[i]'(by omega)with
   |false=>rfl
   |true=>exact absurd (by unfold qI;rw[asy (by omega),hx]) hn
  have hm:i∈auo .any ops listed:=by
   unfold auo;rw[asK,auP];refine⟨hi,?_⟩;rw[atl,hf,asy hi];simp only[asU,Bool.not_false,Bool.true_and,asC];rw[awl];intro e he;cases hb:atV .any e with
   |false=>rfl
   |true=>
    have aa:=ho.back i _ (asy hi) e (by simpa using he) hb;have:=ih e.on aa (by omega);unfold qI at this;rw[atl,this];rfl
  rw[h]at hm;cases hm
section any
variable{gj:Io}{w0:World}{dY:St}{a0:Act}
theorem ae4(hS:∀j,gM P (S j) nn)(hC:∀j,dL P (S j))(hm:∀j,bQ (S j))(hk:∀j,br (S j))(ho:oZ ops pl)(ht:Tr P S pl ro ops D)(h0:(D 0).aC=[])(kf:(D 0).n=dY.n)(hnk:(D ops.size).n≤N)(tS:Inv N gj dY w0)
 (hF0:jS F rd gj)(ue:∀m e ι cur w a,qG ops pl D N ro gj w0 dY (fun i=>i<ops.size) m e ι cur w→cM ι e a.tmps→a.defers=a0.defers→Q .normal a w):
 ∀(fuel:Nat) (listed:Array Bool) (m:Nat) (e:Env) (ι:Io) (cur:Nat→Option Ob) (w:World) (a:Act),listed.size=ops.size→listed.toList.count false≤fuel→qG ops pl D N ro gj w0 dY (qI listed) m e ι cur w→
  cM ι e a.tmps→a.defers=a0.defers→wpAnyIn F 0 P .any ops Q fuel listed a w:=by
 have aT:∀(listed:Array Bool) (m:Nat) (e:Env) (ι:Io) (cur:Nat→Option Ob) (w:World) (a:Act),listed.size=ops.size→(∀i,i<ops.size→qI listed i)→qG ops pl D N ro gj w0 dY (qI listed) m e ι cur w→
  cM ι e a.tmps→a.defers=a0.defers→Q .normal a w:=by
  intro listed m e ι cur w a aK hl h he hd
  have:qI listed=fun i=>i<ops.size:=by
   funext i;refine propext ⟨fun hx=>h.sub i hx,hl i⟩
  rw[this]at h;exact ue m e ι cur w a h he hd
 intro fuel;induction fuel with
 |zero=>
  intro listed m e ι cur w a aK hc h he hd
  have hl:∀i,i<ops.size→qI listed i:=by
   intro i hi;have aa:i<listed.size:=by omega
   unfold qI;rw[asy aa];cases hx:listed[i]with
   |true=>rfl
   |false=>
    have iY:false∈listed.toList:=by
     rw[ava];exact⟨i,by rw[at1,asy aa,hx]⟩
    have:=List.count_pos_iff.2 iY;omega
  refine⟨?_,aT listed m e ι cur w a aK hl h he hd⟩;cases hr:auo .any ops listed with
  |nil=>rfl
  |cons x xs=>
   obtain⟨h1,h2,_⟩:=KF (show x∈auo .any ops listed by rw[hr];simp);have:=hl x h1;unfold qI at this;rw[this]at h2;cases h2
 |succ fuel ih=>
  intro listed m e ι cur w a aK hc h he hd;refine⟨fun hr=>aT listed m e ι cur w a aK (WL ho aK hr) h he hd,fun j hj=>?_⟩;obtain⟨KC,WM,o,lY,anx⟩:=KF hj;have mO:¬qI listed j:=fun hx=>by unfold qI at hx;rw[WM]at hx;cases hx
  have hb:∀i,iP pl j i→qI listed i:=by
   intro i kR;obtain⟨e',j_,hbd,hh⟩:=ho.bits j o lY i kR;have:=anx e' j_ hbd;rcases hh with rfl|hh
   ·exact this
   ·exact h.closed _ this i hh
  refine h.step hS hC hm hk ho ht h0 kf hnk tS KC mO hb hF0 he fun m' e' ay rz w' a' hP j_ vp=>?_;rw[←adx (by omega)]at hP;refine ih _ m' e' ay rz w' a' (by simp[aK]) ?_ hP j_ (vp.trans hd);have qa:j<listed.toList.length:=by simp;omega
  have hjv:listed.toList[j]=false:=by
   have:listed.toList[j]?=some false:=by rw[at1];exact WM
   rw[List.getElem?_eq_getElem qa]at this;exact aus this
  rw[Array.toList_setIfInBounds,List.count_set qa,hjv];have e1:(if(false==false)=true then 1 else 0)=1:=rfl;have e2:(if(true==false)=true then 1 else 0)=0:=rfl;rw[e1,e2];omega
end any
theorem Gp(eT:P.follows .mixedOrders=true)(hS:∀j,gM P (S j) nn)(hC:∀j,dL P (S j))(hm:∀j,bQ (S j))(hk:∀j,br (S j)):
 ∀N ro rd ops e df σ cr,pI P S ro ops e df σ=some cr→cr.σ.n≤N→∀F ι a w Q id,jS F rd ι→Inv N ι σ w→cM ι e a.tmps→jC ι df a.defers→mW N ro ι w σ cr Q→(Code.region id ops true).wpIn F 0 P Q a w:=by
 intro N ro rd ops e df σ cr h hN F ι a w Q id hF hi he hd hQ;unfold pI at h;dsimp only at h;split at h
 ·rename_i bf;split at h
  ·rename_i e' n i b rest aC Hv;cases h;obtain⟨ht,cz⟩:=Z4 Hv;generalize hDd:nK P S (dp ops) ro ops ⟨e,σ.n,[(0,σ.t)],[]⟩=D at ht cz;have NB:D 0=⟨e,σ.n,[(0,σ.t)],[]⟩:=by rw[←hDd];rfl
   have ho:=aeY bf;have hn:(D ops.size).n=n:=by rw[←cz]
   have cU:Inv N ι σ {w with drawn:=w.drawn+1}:=hi.same rfl;have hle:Le ro ι w σ ι {w with drawn:=w.drawn+1} σ:=Le.same rfl rfl rfl rfl
   have anz:σ.n≤N:=by
    have:=ht.fC hm hk (asT ops.size) (ar9 _);rw[hn,NB]at this;exact asr this hN
   have hQ':=hQ.from hi hle anz;refine wpIn_region_any eT ?_;have Dn:fP (D 0).bs=σ.t:=by rw[NB];rfl
   have kf:(D 0).n=σ.n:=by rw[NB]
   have anA:qG ops (dp ops) D N ro ι {w with drawn:=w.drawn+1} σ (qI (atr ops.size false)) 0 e ι σ.at {w with drawn:=w.drawn+1}:=by
    have gE:∀i,¬qI (atr ops.size false) i:=by
     intro i hx;unfold qI at hx;rw[Array.getElem?_replicate]at hx;split at hx<;>cases hx
    refine⟨fun i hx=>absurd hx (gE i),fun j hx=>absurd hx (gE j),⟨by rw[NB],fun j hx=>absurd hx (gE j),fun t _=>by rw[NB]⟩,asT _,fun i _ _=>⟨fun hx=>absurd hx (gE i),fun hx=>absurd hx (Nat.not_lt_zero _)⟩,.inl rfl,
     (yL.start cU (by rw[hn];exact hN)).fr ?_,fun p _ hx=>absurd hx (gE _),?_,?_,?_,?_⟩
    ·intro id hx;rcases hx with⟨j,hj,_,h1,h2⟩|⟨h1,h2⟩
     ·have g1:=ht.fC hm hk (asT j) (by omega);have g2:=ht.fC hm hk (show j+1≤ops.size from hj) (ar9 _);exact⟨by omega,by have:n≤N:=hN;omega⟩
     ·have g1:=ht.fC hm hk (asT ops.size) (ar9 _);exact⟨by omega,h2⟩
    ·rw[Dn];exact fun _ _ h=>h
    ·rw[Dn];intro p hp _ id h1 _;have g1:=ht.fC hm hk (asT p.j) (by have:=hp.lt;omega);exact hi.wf id (by rw[hp.lo]at h1;omega)
    ·rw[Dn,kf];exact hi.wf
    ·rw[Dn];exact fun _ _ _=>rfl
   refine ae4 (a0:=a) hS hC hm hk ho ht (by rw[NB]) kf (by rw[hn];exact hN) cU hF ?_ ops.size _ 0 e ι σ.at _ a (by simp) ?_ anA he rfl
   ·intro m e1 bN cur w1 a1 hp l5 Cv
    have fZ:(D ops.size).bs=(D m).bs:=ht.Nv hp.Ny (ar9 _) fun i h1 h2 qH=>by
     have:=(hp.KD i h2 qH).1 h2;omega
    have hB:fP (D m).bs=b:=by rw[←fZ,←cz];rfl
    have iX:(D ops.size).aC=aC:=by rw[←cz]
    have iw:∀p∈aC,Made ops D p∧sD ops (dp ops) D (fun i=>i<ops.size) p.j∧p.hi≤n:=by
     intro p Dl;obtain⟨c1,c2,c3⟩:=ht.aC ho (by rw[NB]) ops.size (ar9 _) p (by rw[iX];exact Dl);exact⟨c1,fun i hA FH=>c3 i hA FH,by rw[c1.hi,←hn];exact ht.fC hm hk c2 (ar9 _)⟩
    have kQ:=hp.wh;rw[hn]at kQ;have mN:=ht.fC hm hk hp.Ny (ar9 _);have h0n:=ht.fC hm hk (asT ops.size) (ar9 _)
    obtain⟨i1,l1⟩:=kQ.fin (N:=N) (t:=aC.foldl dc b) (by omega) (fun id h1 h2=>.inr ⟨h1,h2⟩) (fun id o hg=>by
     rcases Bg _ _ _ _ hg with⟨p,Dl,g1,g2,g3⟩|hg
     ·obtain⟨c1,c2,_⟩:=iw p Dl;exact hp.piece p c1 c1.lt c2 id o g1 g2 g3
     ·exact hp.base id o (by rw[hB];exact hg))
     (fun id hid=>by
      cases hg:(aC.foldl dc b).get id with
      |none=>rfl
      |some o=>
       rcases Bg _ _ _ _ hg with⟨p,Dl,g1,g2,g3⟩|hg
       ·obtain⟨_,_,c3⟩:=iw p Dl;omega
       ·rw[←hB,hp.top id (by omega)]at hg;cases hg)
     (fun id hr aa=>by
      rw[Gh,←hB]
      ·exact hp.low id hr aa
      ·intro p Dl;obtain⟨c1,_,_⟩:=iw p Dl;rw[c1.lo];have:=ht.fC hm hk (asT p.j) (by have:=c1.lt;omega);omega)
    have Bh:cM bN e' a1.tmps:=by
     have Ah:=ht.env ho ops.size (ar9 _);have Kp:(D ops.size).e=e':=by rw[←cz]
     refine⟨by rw[←Kp,Ah.n,←hp.env.n];exact l5.1,fun t=>?_⟩;rw[←Kp,←Gj hp.env Ah (t:=t) fun i _=>Iff.rfl];exact l5.2 t
    exact hQ' a1 w1 bN [] i1 l1 Bh (by rw[Cv];exact hd.mono l1.ext) trivial
   ·rw[Array.toList_replicate,List.count_replicate];simp
  ·cases h
 ·cases h
omit [Sm]in
theorem RM{U:Self}(eT:P.follows .mixedOrders=true)(hS:gM P U nn)(hC:dL P U)(hm:bQ U)(hk:br U):Nk P U:=
 @Gp _ _ _ MQ eT (fun _=>hS) (fun _=>hC) (fun _=>hm) (fun _=>hk)
end Go.Ev
namespace Go.Ev
open Go.RowKit
variable{P:Program}
def arS(r:Option (IV×St)):Bool:=
 match r with
 |some (.raw (.bool true),_)=>true
 |_=>false
end Go.Ev
namespace Go.Ev
variable{P:Program}{N ro m:Nat}{ι:Io}{w:World}{σ:St}{e:Env}{a:Act}{F:Fence}{rd:Option Nat}{Q:Exit→Act→World→Prop}{fn:FuncId}{df:List Df}{cr:CR}
def bW(P:Program)(ro:Nat)(rd:Option Nat)(fn:FuncId)(c:Code)(e:Env)(df:List Df)(σ:St)(cr:CR):Prop:=
 σ.n≤cr.σ.n∧∃m0,∀m,m0≤m→∀N,cr.σ.n≤N→∀F ι a w Q,jS F rd ι→Inv N ι σ w→cM ι e a.tmps→jC ι df a.defers→mW N ro ι w σ cr Q→Uc F P m c Q a w
def eK(P:Program)(ro:Nat)(f:FuncId)(args:List IV)(σ:St)(v:IV)(ah:St):Prop:=
 σ.n≤ah.n∧∀N,ah.n≤N→∀ι us w,Inv N ι σ w→ax ι args us→CallsIn asz 0 P f us.toArray w (wv N ro ι w σ v ah)
def Jl(P:Program)(ro:Nat)(f:FuncId)(args:List IV)(σ:St)(v:IV)(ah:St):Prop:=
 σ.n≤ah.n∧∀N,ah.n≤N→∀ι us w,Inv N ι σ w→ax ι args us→CallsIn asz 0 P f us.toArray w (Hx N ro ι w σ v ah)
def gZ(P:Program)(ro:Nat)(rd:Option Nat)(ops:Array Oper)(l:List Oper)(e:Env)(df:List Df)(σ:St)(cr:CR):Prop:=
 σ.n≤cr.σ.n∧∀N,cr.σ.n≤N→∀F ι a w Q k,ops.toList.drop k=l→jS F rd ι→Inv N ι σ w→cM ι e a.tmps→jC ι df a.defers→mW N ro ι w σ cr Q→
  wpOpsIn F 0 P ops Q (auv k l.length) a w
theorem bW.mk{c:Code}(hn:σ.n≤cr.σ.n)(hl:∀b,c≠.loop b)(h:∀N,cr.σ.n≤N→∀F ι a w Q,jS F rd ι→Inv N ι σ w→cM ι e a.tmps→jC ι df a.defers→mW N ro ι w σ cr Q→c.wpIn F 0 P Q a w):bW P ro rd fn c e df σ cr:=by
 refine⟨hn,0,fun m _ N hN F ι a w Q hF hi he hd hQ=>?_⟩;have:=h N hN F ι a w Q hF hi he hd hQ;cases c<;>first|exact this|exact absurd rfl (hl _)
theorem bW.wp{c:Code}(h:bW P ro rd fn c e df σ cr)(hN:cr.σ.n≤N)(hF:jS F rd ι)(hi:Inv N ι σ w)(he:cM ι e a.tmps)(hd:jC ι df a.defers)(hQ:mW N ro ι w σ cr Q):c.wpIn F 0 P Q a w:=by
 obtain⟨_,m0,h⟩:=h;exact(h m0 (ar9 _) N hN F ι a w Q hF hi he hd hQ).wp
theorem bW.skip:bW P ro rd fn .skip e df σ ⟨.normal,e,df,σ⟩:=
 .mk (ar9 _) (by simp) fun _ _ _ ι a w _ _ hi he hd hQ=>wpIn_skip (hQ a w ι [] hi (Le.refl _ _ _ _) he hd trivial)
theorem bW.label{l:Nat}:bW P ro rd fn (.label l) e df σ ⟨.normal,e,df,σ⟩:=
 .mk (ar9 _) (by simp) fun _ _ _ ι a w _ _ hi he hd hQ=>wpIn_label (hQ a w ι [] hi (Le.refl _ _ _ _) he hd trivial)
theorem bW.exit{id:Nat}:bW P ro rd fn (.exit id) e df σ ⟨.exit id,e,df,σ⟩:=
 .mk (ar9 _) (by simp) fun _ _ _ ι a w _ _ hi he hd hQ=>wpIn_exit (hQ a w ι [] hi (Le.refl _ _ _ _) he hd trivial)
theorem bW.goto{id:Nat}:bW P ro rd fn (.goto id) e df σ ⟨.goto id,e,df,σ⟩:=
 .mk (ar9 _) (by simp) fun _ _ _ ι a w _ _ hi he hd hQ=>wpIn_goto (hQ a w ι [] hi (Le.refl _ _ _ _) he hd trivial)
theorem bW.ret:bW P ro rd fn .ret e df σ ⟨.ret,e,df,σ⟩:=
 .mk (ar9 _) (by simp) fun _ _ _ ι a w _ _ hi he hd hQ=>wpIn_ret (hQ a w ι [] hi (Le.refl _ _ _ _) he hd trivial)
theorem bW.seq{x y:Code}{e1:Env}{p8:List Df}{ai:St}(h:bW P ro rd fn x e df σ ⟨.normal,e1,p8,ai⟩)(k:bW P ro rd fn y e1 p8 ai cr):bW P ro rd fn (.seq x y) e df σ cr:=by
 refine .mk (asr h.1 k.1) (by simp) fun N hN F ι a w Q hF hi he hd hQ=>wpIn_seq ?_;have cX:ai.n≤N:=asr k.1 hN;refine h.wp cX hF hi he hd ?_;intro a1 w1 bN dU i1 l1 cg d1 p1;exact k.wp hN (hF.mono l1.ext) i1 cg d1 (hQ.from hi l1 cX)
theorem bW.cond{c:Operand}{x y:Code}{t:Bool}(hc:aq e c=.raw (.bool t))(h:bW P ro rd fn (if t then x else y) e df σ cr):bW P ro rd fn (.cond c x y) e df σ cr:=
 .mk h.1 (by simp) fun N hN F ι a w Q hF hi he hd hQ=>wpIn_cond (Gf hc (he.eval c)) (h.wp hN hF hi he hd hQ)
theorem bW.block{id:Nat}{x:Code}{e1:Env}{p8:List Df}{ai:St}(h:bW P ro rd fn x e df σ ⟨.exit id,e1,p8,ai⟩):bW P ro rd fn (.block id x) e df σ ⟨.normal,e1,p8,ai⟩:=by
 refine .mk h.1 (by simp) fun N hN F ι a w Q hF hi he hd hQ=>wpIn_block (h.wp hN hF hi he hd ?_);intro a1 w1 bN dU i1 l1 cg d1 p1;simp only[Dd,axl,if_pos];exact hQ a1 w1 bN dU i1 l1 cg d1 trivial
theorem bW.KG{id:Nat}{x:Code}(h:bW P ro rd fn x e df σ cr)(hx:cr.ex≠.exit id):bW P ro rd fn (.block id x) e df σ cr:=by
 refine .mk h.1 (by simp) fun N hN F ι a w Q hF hi he hd hQ=>wpIn_block (h.wp hN hF hi he hd ?_);intro a1 w1 bN dU i1 l1 cg d1 p1;have:=hQ a1 w1 bN dU i1 l1 cg d1 p1;cases hc:cr.ex with
 |exit bp=>
  have bc:bp≠id:=fun h=>hx (by rw[hc,h]);rw[hc]at this;simp only[Dd,axl,if_neg bc];exact this
 |_=>rw[hc]at this;exact this
theorem bW.loop{x:Code}{e1:Env}{p8:List Df}{ai:St}(h:bW P ro rd fn x e df σ ⟨.normal,e1,p8,ai⟩)(k:bW P ro rd fn (.loop x) e1 p8 ai cr):bW P ro rd fn (.loop x) e df σ cr:=by
 obtain⟨hn,m0,k⟩:=k;refine⟨asr h.1 hn,m0+1,fun m hm N hN F ι a w Q hF hi he hd hQ=>?_⟩;obtain⟨m,rfl⟩:∃q,m=q+1:=⟨m- 1,by omega⟩;show Code.roundsIn F 0 P x Q (m+1) a w;rw[roundsIn_succ];have cX:ai.n≤N:=asr hn hN;refine h.wp cX hF hi he hd ?_;intro a1 w1 bN dU i1 l1 cg d1 p1;exact k m (by omega) N hN F bN a1 w1 Q (hF.mono l1.ext) i1 cg d1 (hQ.from hi l1 cX)
theorem bW.scope{x:Code}(h:bW P ro rd fn x e df σ cr)(hx:∀l,cr.ex≠.goto l):bW P ro rd fn (.scope x) e df σ cr:=by
 refine .mk h.1 (by simp) fun N hN F ι a w Q hF hi he hd hQ=>Bc (h.wp hN hF hi he hd ?_);intro a1 w1 bN dU i1 l1 cg d1 p1;have:=hQ a1 w1 bN dU i1 l1 cg d1 p1;cases hc:cr.ex<;>rw[hc]at this<;>first|exact absurd hc (hx _)|exact this
theorem bW.region{id:Nat}{ops:Array Oper}(h:gZ P ro rd ops ops.toList e df σ cr):bW P ro rd fn (.region id ops false) e df σ cr:=by
 refine .mk h.1 (by simp) fun N hN F ι a w Q hF hi he hd hQ=>wpIn_region ?_;have:=h.2 N hN F ι a w Q 0 (by simp) hF hi he hd hQ;rw[List.range_eq_range'];simpa using this
variable{ops:Array Oper}{o:Oper}{l:List Oper}
theorem gZ.nil:gZ P ro rd ops [] e df σ ⟨.normal,e,df,σ⟩:=
 ⟨ar9 _,fun _ _ _ ι a w _ _ _ _ hi he hd hQ=>hQ a w ι [] hi (Le.refl _ _ _ _) he hd trivial⟩
theorem gZ.cons(hn:σ.n≤cr.σ.n)(hw:aF o ops e=true)
 (h:∀N,cr.σ.n≤N→∀F ι a w Q k,ops.toList.drop (k+1)=l→jS F rd ι→Inv N ι σ w→cM ι e a.tmps→jC ι df a.defers→mW N ro ι w σ cr Q→
  o.wpIn F 0 P a w (wpOpsIn F 0 P ops Q (auv (k+1) l.length)) Q):gZ P ro rd ops (o::l) e df σ cr:=by
 refine⟨hn,fun N hN F ι a w Q k hl hF hi he hd hQ=>?_⟩
 have fw:ops.toList.drop (k+1)=l:=by
  rw[←ate (i:=1) (j:=k),hl];rfl
 have bf:ops[k]?=some o:=by
  have:(ops.toList.drop k)[0]?=some o:=by rw[hl];rfl
  simpa using this
 simp only[asS,au6];rw[wpOpsIn_cons];unfold wpOpIn;rw[bf];simp only;rw[oX he,if_pos hw];exact h N hN F ι a w Q k fw hF hi he hd hQ
theorem gZ.skip(hw:aF o ops e=false)(h:gZ P ro rd ops l (e.put o.dst .undef) df σ cr):gZ P ro rd ops (o::l) e df σ cr:=by
 refine⟨h.1,fun N hN F ι a w Q k hl hF hi he hd hQ=>?_⟩
 have fw:ops.toList.drop (k+1)=l:=by
  rw[←ate (i:=1) (j:=k),hl];rfl
 have bf:ops[k]?=some o:=by
  have:(ops.toList.drop k)[0]?=some o:=by rw[hl];rfl
  simpa using this
 simp only[asS,au6];rw[wpOpsIn_cons];unfold wpOpIn;rw[bf];simp only;rw[oX he,hw,if_neg (by simp)];exact⟨fun f _=>hF.fn f,h.2 N hN F ι _ w Q (k+1) fw hF hi (he.put oW _) (by cases o.dst<;>exact hd) hQ⟩
theorem gZ.val{v:IV}{ai:St}(hw:aF o ops e=true)(hv:ak P ro (aq e) o σ=some (.val v ai))(h:gZ P ro rd ops l (e.put o.dst v) df ai cr):gZ P ro rd ops (o::l) e df σ cr:=by
 refine .cons (asr (lL hv) h.1) hw fun N hN F ι a w Q k hl hF hi he hd hQ=>?_;have cX:ai.n≤N:=asr h.1 hN;refine⟨fun f _=>hF.fn f,?_⟩;rw[atq _ _ _ (eV hv (by simp))];obtain⟨u,w',ay,hr,h2,h3,h4⟩:=lr hi he.eval hv cX
 have key:wpOpsIn F 0 P ops Q (auv (k+1) l.length) (a.put o.dst u) w':=
  h.2 N hN F ay _ w' Q (k+1) hl (hF.mono h4.ext) h3 ((he.mono h4.ext).put h2 _) (hd.mono h4.ext|>fun x=>by cases o.dst<;>exact x) (hQ.from hi h4 cX)
 rcases hr with hr|⟨hr,rfl⟩
 ·rw[hr,Oper.uponIn_value];exact key
 ·rw[hr,Oper.uponIn_skip];exact key
theorem gZ.call{f:FuncId}{args:List IV}{v:IV}{ai:St}(hw:aF o ops e=true)(hv:ak P ro (aq e) o σ=some (.enter f args))(hc:eK P ro f args σ v ai)
 (h:gZ P ro rd ops l (e.put o.dst v) df ai cr):gZ P ro rd ops (o::l) e df σ cr:=by
 refine .cons (asr hc.1 h.1) hw fun N hN F ι a w Q k hl hF hi he hd hQ=>?_;have cX:ai.n≤N:=asr h.1 hN;refine⟨fun f _=>hF.fn f,?_⟩;rw[atq _ _ _ (eV hv (by simp))];obtain⟨us,hr,h3⟩:=lr hi he.eval hv;rw[hr,auZ];refine⟨hF.depth,(hF.calls (hc.2 N cX ι us w hi h3)).mono fun ed w' hR=>?_⟩;cases ed with
 |returned u=>
  obtain⟨ay,h2,h3,h4⟩:=hR;exact h.2 N hN F ay _ w' Q (k+1) hl (hF.mono h4.ext) h3 ((he.mono h4.ext).put h2 _) (hd.mono h4.ext|>fun x=>by cases o.dst<;>exact x) (hQ.from hi h4 cX)
 |outgrown=>exact hR.elim
 |panicked chain=>exact hR.elim
theorem gZ.bC{f:FuncId}{args:List IV}{v:IV}{ai:St}(hw:aF o ops e=true)(hv:ak P ro (aq e) o σ=some (.enter f args))(hc:Jl P ro f args σ v ai):
 gZ P ro rd ops (o::l) e df σ ⟨.bC v,e,df,ai⟩:=by
 refine .cons hc.1 hw fun N hN F ι a w Q k hl hF hi he hd hQ=>?_;refine⟨fun f _=>hF.fn f,?_⟩;rw[atq _ _ _ (eV hv (by simp))];obtain⟨us,hr,h3⟩:=lr hi he.eval hv;rw[hr,auZ];refine⟨hF.depth,(hF.calls (hc.2 N hN ι us w hi h3)).mono fun ed w' hR=>?_⟩;cases ed with
 |returned u=>exact hR.elim
 |outgrown=>exact hR.elim
 |panicked chain=>
  obtain⟨ay,h4,h5,h6⟩:=hR;exact hQ a w' ay chain h5 h6 (he.mono h6.ext) (hd.mono h6.ext) h4
theorem gZ.panic{v:IV}(hw:aF o ops e=true)(hv:ak P ro (aq e) o σ=some (.bC v)):gZ P ro rd ops (o::l) e df σ ⟨.bC v,e,df,σ⟩:=by
 refine .cons (ar9 _) hw fun N hN F ι a w Q k hl hF hi he hd hQ=>?_;refine⟨fun f _=>hF.fn f,?_⟩;rw[atq _ _ _ (eV hv (by simp))];obtain⟨u,hr,h3⟩:=lr hi he.eval hv;rw[hr,Oper.uponIn_panic];exact hQ a w ι [{v:=u,recovered:=false}] hi (Le.refl _ _ _ _) he hd ⟨u,rfl,h3⟩
theorem gZ.defer{d:Df}(hw:aF o ops e=true)(hv:ak P ro (aq e) o σ=some (.Rj d))(h:gZ P ro none ops l (e.put o.dst .undef) (d::df) σ cr):gZ P ro none ops (o::l) e df σ cr:=by
 refine .cons h.1 hw fun N hN F ι a w Q k hl hF hi he hd hQ=>?_
 have Wz:F=asz:=by
  rcases hF with⟨_,h2⟩|⟨_,_,h2,_⟩
  ·exact h2
  ·cases h2
 refine⟨fun f _=>hF.fn f,?_⟩;obtain⟨dd,hr,FE,c,hc⟩:=lr hi he.eval hv;have ZZ:(o.semAt F.round a.eval)=execOp a.eval o:=by rw[Wz];rfl
 rw[ZZ,hr,Oper.uponIn_defer];refine h.2 N hN F ι _ w Q (k+1) hl hF hi ?_ ?_ hQ
 ·cases fS:o.dst with
  |none=>exact he
  |some t=>exact he.set oW t
 ·cases o.dst<;>exact⟨FE,hd⟩
end Go.Ev
