/- Lemmas, a part of the proof; no conditions. -/
import Derived.Test.YtabefplkfkfdfaaGreatPAa
open Nat renaming testBit->RD,lor->O2,shiftLeft->Pa,blt->UO,lt_or_eq_of_le->aI8,lt_trichotomy->Yf,strongRecOn->aJq,not_lt_zero->aKG,beq->ZW,beq_eq->ZT,lt_irrefl->aK0
open Go.Region renaming binds->Tn,ready->Pq,wanted->YJ
open List renaming range'->Ln,mem_iff_getElem?->aIM,mem_range->Ua,filter_cons->aKs,mem_cons_self->W_,getElem?_zipIdx->aJT,getElem_of_mem->S_,range->YF,getElem_zipIdx->aJY,mem_eraseIdx_iff_getElem?->aJe
open Array renaming all_eq_true'->aI2,replicate->Nq,getElem?_replicate->aJx
open Option renaming map_some->ZO,map_eq_some_iff->Lq
open Go.Fence renaming wide->Z9
open Go.Exit renaming inBlock->aKZ
open Go.Oper renaming uponIn_value->T9,uponIn_skip->aKr,uponIn->aK6
open Go renaming undef->ZL,TypeId->VK,Value->ZQ,Program->V5,Operand->Xs,FuncId->V4,World->Z0,Oper->YX
open Go.Sem renaming run->Y3
open Go.Question renaming forced->Wr
open Go.Instr renaming next->X2
open Option renaming some->aa,none->ah
open Bool renaming true->ab,false->af
set_option linter.all false
def T3:=@Nat.add_zero
def ZR:=@Nat.eq_of_beq_eq_true
def O_:=@List.mk_mem_zipIdx_iff_getElem?
def US:=@List.all_eq_true
def Qz:=@List.mem_filter
def ZV:=@List.mem_append
def ZP:=@List.mem_cons
def T7:=@List.cons_append
def ZU:=@List.mem_of_getElem?
def Ys:=@List.mem_cons_of_mem
def Uv:=@List.getElem?_drop
def YQ:=@List.getElem?_set_ne
def UC:=@List.any_eq_true
def VM:=@Bool.and_eq_true
def P6:=@Bool.or_eq_true
def YI:=@Bool.not_true
def XP:=@Bool.false_or
def VH:=@Bool.not_eq_true'
def Pb:=@Bool.not_false
def T8:=@Bool.true_and
def Xh:=@Array.getElem?_eq_some_iff
def Tg:=@List.cons.injEq
namespace Go.Ev
section
variable[Sm]
def mJ(ao:Array YX)(i:Nat):aF Tmp:=(ao[i]?).bind (·.dst)
def Gx(ao:Array YX)(i:Nat):aj Nat:=(ao.toList.map (zL ao)).getD i []
def bX(pl:fK)(i:Nat):Kind:=pl.kinds.getD i .effect
def oa(pl:fK)(j i:Nat):Prop:=RD (pl.dp.getD j 0) i=ab
variable{ao:Array YX}
structure sI(ao:Array YX)(pl:fK):Prop where
 back:∀(j:Nat) (o:YX),ao[j]?=aa o->∀e∈o.after.toList,Tn .any e=ab->e.on<j
 aiu:∀j,j<ao.size->bX pl j=.load->∀t,mJ ao j=aa t->t∉Gx ao j
 single:∀i j,i<j->j<ao.size->∀t,mJ ao i=aa t->mJ ao j≠aa t
 afp:∀i j,i<j->j<ao.size->bX pl i=.load->∀t,mJ ao j=aa t->t∉Gx ao i
 free:∀i j,i<j->j<ao.size->¬oa pl j i->(∀t,mJ ao i=aa t->t∉Gx ao j)/\(∀t,mJ ao j=aa t->t∉Gx ao i)/\ak7 (bX pl i) (bX pl j)=af
 bits:∀(j:Nat) (o:YX),ao[j]?=aa o->∀i,oa pl j i->∃e∈o.after.toList,Tn .any e=ab/\(e.on=i\/oa pl e.on i)
variable{o:YX}
theorem yj{l:aj Nat}(h:writes o l=af):∀t,o.dst=aa t->t∉l:=by
 intro t ht hm
 simp_all[writes]
variable{i:Nat}
theorem aIq{f:Edge->Nat}{c:Edge->Bool}:∀(l:aj Edge) (s:Nat),RD (l.foldl (λs e=>if c e then O2 s (f e)else s) s) i=ab->
 RD s i=ab\/∃e∈l,c e=ab/\RD (f e) i=ab
 |[],s,h=>.inl h
 |e::l,s,h=>by
  simp only[Zv]at h;rcases aIq l _ h with h|⟨e',q7,h1,h2⟩
  .split at h
   .have:RD (s|||f e) i=ab:=h
    grind
   grind
  grind
theorem afq{a:Nat}(h:RD (Pa 1 a) i=ab):a=i:=by
 have h':RD (1<<<a) i=ab:=h;simp only[Nat.testBit_shiftLeft,VM,decide_eq_true_eq]at h';have h2:=h'.2
 have:i- a=0:=by
  cases hk:i- a with
  |zero=>rfl
  |succ n=>grind
 omega
theorem aH8:∀(l:aj YX) (ax:aj Nat),∃aE,l.foldl L6 ax=ax++aE/\aE.length=l.length/\
 ∀(q:Nat) (o:YX),l[q]?=aa o->∀i,RD ((ax++aE).getD (ax.length+q) 0) i=ab->
  ∃e∈o.after.toList,Tn .any e=ab/\(e.on=i\/RD ((ax++aE).getD e.on 0) i=ab)
 |[],ax=>⟨[],az,rfl,λq o h=>az⟩
 |o::l,ax=>by
  have⟨aE,h1,h2,h3⟩:=aH8 l (L6 ax o);obtain⟨x,hx⟩:∃x,L6 ax o=ax++[x]:=⟨_,rfl⟩
  have Fb:x=o.after.toList.foldl (λs e=>if Tn .any e then O2 s (O2 (Pa 1 e.on) (ax.getD e.on 0))else s) 0:=by
   have:ax++[x]=ax++[o.after.toList.foldl (λs e=>if Tn .any e then O2 s (O2 (Pa 1 e.on) (ax.getD e.on 0))else s) 0]:=hx▸rfl
   simp_all
  rw[hx]at h1 h3;refine⟨x::aE,aI,aI,λq o' hq i hi=>?_⟩;have jm:ax++x::aE=ax++[x]++aE:=az;cases q with
  |zero=>
   simp only[List.getElem?_cons_zero,ZY]at hq;subst hq;have hg:(ax++x::aE).getD (ax.length+0) 0=x:=az;rw[hg,Fb]at hi;rcases aIq _ _ hi with hi|⟨e,he,hb,hi⟩
   .grind
   .exists e,he,hb;have cX:RD (Pa 1 e.on|||ax.getD e.on 0) i=ab:=hi;rw[Nat.testBit_or,P6]at cX;rcases cX with hi|hi
    .exact .inl (afq hi)
    grind
  |succ q=>
   rw[jm]at hi⊢
   have:=h3 q o' hq i (by
    have e1:(ax++[x]).length+q=ax.length+(q+1):=aI;rw[e1];omega)
   omega
theorem Ha{j:Nat}(ho:ao[j]?=aa o)(h:RD ((QX ao).getD j 0) i=ab):
 ∃e∈o.after.toList,Tn .any e=ab/\(e.on=i\/RD ((QX ao).getD e.on 0) i=ab):=by
 have⟨aE,h1,_,h3⟩:=aH8 ao.toList [];have hb:QX ao=aE:=by assumption
 rw[hb]at h⊢;have:=h3 j o aI i jw
 grind
theorem afr(h:(cU ao).ok=ab):sI ao (cU ao):=by
 have cQ:∀(j:Nat) (o:YX),ao[j]?=aa o->(o.after.toList.all λe=> !Tn .any e||UO e.on j)=ab/\(!(bX (cU ao) j==.load)|| !writes o (Gx ao j))=ab/\
  ∀(i:Nat) (p:YX),ao[i]?=aa p->i<j->GX (cU ao).dp (cU ao).kinds (ao.toList.map (zL ao)) p i o j=ab:=by
  intro j o ho;have hm:(o,j)∈ao.toList.zipIdx:=O_.2 aI;unfold cU at h;rw[US]at h;have:=h (o,j) hm;simp only[VM]at this;have⟨⟨h1,h2⟩,h3⟩:=this;refine⟨h1,h2,λi p hp sG=>?_⟩;rw[US]at h3;have Wf:(p,i)∈ao.toList.zipIdx:=O_.2 aI;have:=h3 (p,i) Wf;have aq:UO i j=ab:=by simpa using sG
  simp only[aq]at this;exact this
 have fU:∀{j:Nat},j<ao.size->∃o,ao[j]?=aa o:=λhj=>⟨ao[_],Kr hj⟩;have gh:∀{j:Nat} {o:YX},ao[j]?=aa o->mJ ao j=o.dst:=λho=>by simp_all[mJ]
 have pair:∀i j,i<j->j<ao.size->∃p o,ao[i]?=aa p/\ao[j]?=aa o/\GX (cU ao).dp (cU ao).kinds (ao.toList.map (zL ao)) p i o j=ab:=λi j sG hj=>by
  grind
 refine⟨λj o ho e he hb=>?_,λj hj hk t ht=>?_,λi j sG hj t hi hjt=>?_,λi j sG hj hk t ht=>?_,λi j sG hj pz=>?_,λj o ho i hb=>Ha ho hb⟩
 .have:=(US.1 (cQ j o ho).1) e he
  simp_all
 .have⟨o,ho⟩:=fU hj;have:=(cQ j o ho).2.1;simp only[hk,beq_self_eq_true,YI,XP,VH]at this;rw[gh ho]at ht;exact yj this t ht
 .have⟨p,o,hp,ho,ue⟩:=pair i j sG hj;rw[gh hp]at hi;rw[gh ho]at hjt;unfold GX at ue
  simp_all
 .have⟨p,o,hp,ho,ue⟩:=pair i j sG hj;simp only[GX,VM]at ue;have h2:=ue.1.2;have er:(cU ao).kinds.getD i .effect=.load:=hk;simp only[er,beq_self_eq_true,YI,XP,VH]at h2;rw[gh ho]at ht;exact yj h2 t ht
 .have⟨p,o,hp,ho,ue⟩:=pair i j sG hj;simp only[GX,VM]at ue;have h3:=ue.2
  have hb:RD ((cU ao).dp.getD j 0) i=af:=by
   cases hc:RD ((cU ao).dp.getD j 0) i with
   |false=>rfl
   |true=>contradiction
  simp only[hb,XP,VM,VH]at h3;refine⟨λt ht=>?_,λt ht=>?_,h3.2⟩
  .rw[gh hp]at ht;exact yj h3.1.1 t ht
  .rw[gh ho]at ht;exact yj h3.1.2 t ht
end
variable{ao:Array YX}{bits i id j m ro:Nat}{o:YX}{pl:fK}
section
variable[Sm]
theorem oJ(b:T Ob)(p:Piece)(id:Nat):(e_ b p).get id=if p.lo<=id/\id<p.hi then(p.t.get id).or (b.get id)else b.get id:=by
 have aux:∀(l:aj Nat) (b:T Ob),(l.foldl (λb id=>match p.t.get id with|some o=>b.set id o|none=>b) b).get id=if id∈l then(p.t.get id).or (b.get id)else b.get id:=by
  intro l;induction l with
  |nil=>simp
  |cons x l ih=>
   intro b;rw[Zv,ih];by_cases hx:x=id
   .grind [T.jS]
   .have hb:(match p.t.get x with|some o=>b.set x o|none=>b).get id=b.get id:=by
     cases p.t.get x with
     |none=>rfl
     |some o=>simp[T.jS,hx]
    grind
 refine(aux (Ln p.lo (p.hi- p.lo)) b).trans ?_
 grind
theorem Ib:∀(l:aj Piece) (b:T Ob) (id:Nat) (o:Ob),(l.foldl e_ b).get id=aa o->(∃p∈l,p.lo<=id/\id<p.hi/\p.t.get id=aa o)\/b.get id=aa o
 |[],b,id,o,h=>.inr h
 |p::l,b,id,o,h=>by
  rw[Zv]at h;rcases Ib l _ id o h with⟨q,hq,h1⟩|h
  .exact .inl ⟨q,by simp[hq],h1⟩
  .rw[oJ]at h;split at h<;>try exact .inr h
   rename_i hc;cases hp:p.t.get id with
   |none=>rw[hp]at h;exact .inr h
   |some x=>rw[hp]at h;exact .inl ⟨p,az,hc.1,hc.2,by rw[hp];exact h⟩
theorem NP:∀(l:aj Piece) (b:T Ob) (id:Nat),(∀p∈l,id<p.lo)->(l.foldl e_ b).get id=b.get id
 |[],b,id,_=>rfl
 |p::l,b,id,h=>by
  rw[Zv,NP l _ id λq hq=>h q aI,oJ,aY]
  grind
theorem NQ{bz:aj Piece}{b:T Ob}{o:Ob}(h:(seen bz bits b).get id=aa o):
 (∃p∈bz,RD bits p.j=ab/\p.lo<=id/\id<p.hi/\p.t.get id=aa o)\/b.get id=aa o:=by
 rcases Ib _ _ _ _ h with⟨p,hp,h1⟩|h
 all_goals grind
theorem aiv{bz:aj Piece}{b:T Ob}(h:∀p∈bz,id<p.lo):(seen bz bits b).get id=b.get id:=
 NP _ _ _ λp hp=>h p (Qz.1 hp).1
variable{P:V5}{S:Nat->Self}
inductive Stp(P:V5)(S:Self)(pl:fK)(ro:Nat)(ao:Array YX)(o:YX)(j:Nat)(d d':DS)(v:IV):Prop
 |skip (h:bE o ao d.e=af) (hv:v=.undef) (hn:d'.n=d.n) (hp:d'.bz=d.bz) (hk:bX pl j≠.effect) (hb:d'.bs=d.bs)
 |Ma (h:bE o ao d.e=af) (hv:v=.undef) (hn:d'.n=d.n) (hp:d'.bz=d.bz) (hk:bX pl j=.effect) (i0:Nat) (b:T Ob) (aE:List (Nat×T Ob)) (kX:d.bs=(i0,b)::aE)
   (hb:d'.bs=(j,b)::d.bs) (hr:recheck P pl ao (pl.dp.getD j 0) d.e d.n d.bz b (ao.toList.zipIdx.take j)=ab)
 |pure (h:bE o ao d.e=ab) (hk:bX pl j=.pure) (hn:d'.n=d.n) (hp:d'.bz=d.bz) (hb:d'.bs=d.bs) (G:St) (he:aN P 0 (aT d.e) o ⟨0,.lf⟩=aa (.val v G)) (h0:G.n=0)
 |alloc (h:bE o ao d.e=ab) (hk:bX pl j=.alloc) (hb:d'.bs=d.bs) (G:St) (he:aN P 0 (aT d.e) o ⟨d.n,.lf⟩=aa (.val v G)) (hn:d'.n=G.n) (hp:d'.bz=⟨j,d.n,G.n,G.t⟩::d.bz)
 |load (h:bE o ao d.e=ab) (hk:bX pl j=.load) (hn:d'.n=d.n) (hp:d'.bz=d.bz) (hb:d'.bs=d.bs) (i0:Nat) (b:T Ob) (aE:List (Nat×T Ob)) (kX:d.bs=(i0,b)::aE)
   (G:St) (he:aN P d.n (aT d.e) o ⟨d.n,seen d.bz (pl.dp.getD j 0) b⟩=aa (.val v G)) (h0:G.n=d.n)
   (hl:(RD (pl.dp.getD j 0) i0||qn P d.e o d.n v d.bz (pl.dp.getD j 0) aE)=ab)
 |call (h:bE o ao d.e=ab) (hk:bX pl j=.call) (hb:d'.bs=d.bs) (i0:Nat) (b:T Ob) (aE:List (Nat×T Ob)) (kX:d.bs=(i0,b)::aE)
   (G:St) (he:nb P S d.n d.e o ⟨d.n,seen d.bz (pl.dp.getD j 0) b⟩=aa (v,G)) (hn:d'.n=G.n) (hp:d'.bz=⟨j,d.n,G.n,G.t⟩::d.bz)
 |effect (h:bE o ao d.e=ab) (hk:bX pl j=.effect) (i0:Nat) (b:T Ob) (aE:List (Nat×T Ob)) (kX:d.bs=(i0,b)::aE)
   (G:St) (he:nb P S ro d.e o ⟨d.n,seen d.bz (pl.dp.getD j 0) b⟩=aa (v,G)) (hn:d'.n=G.n) (hb:d'.bs=(j,G.t)::d.bs) (hp:d'.bz=d.bz.filter λp=> !RD (pl.dp.getD j 0) p.j)
   (hr:recheck P pl ao (pl.dp.getD j 0) d.e d'.n d'.bz G.t (ao.toList.zipIdx.take j)=ab)
variable{d' d0:DS}
theorem aF1{U:Self}{d:DS}(h:c8 P U pl ro ao o j d=aa d'):∃v,d'.e=d.e.put o.dst v/\d.bs≠[]/\Stp P U pl ro ao o j d d' v:=by
 simp only[c8]at h;split at h<;>try cases h
 rename_i i0 b aE kX;have cg:d.bs≠[]:=aI;split at h
 .rename_i hw;split at h
  .rename_i hk;split at h
   .rename_i v G he;split at h
    .rename_i h0;cases h;exact⟨v,rfl,cg,.pure hw hk rfl rfl rfl G he h0⟩
    grind
   grind
  .rename_i hk;split at h
   .rename_i v G he;cases h;exact⟨v,rfl,cg,.alloc hw hk rfl G he rfl rfl⟩
   grind
  .rename_i hk;split at h
   .rename_i v G he;split at h
    .rename_i hc;cases h;exact⟨v,rfl,cg,.load hw hk rfl rfl rfl i0 b aE kX G he hc.1 hc.2⟩
    grind
   grind
  .rename_i hk;split at h
   .rename_i v G he;cases h;exact⟨v,rfl,cg,.call hw hk rfl i0 b aE kX G he rfl rfl⟩
   grind
  .rename_i hk;split at h
   .rename_i v G he;split at h
    .rename_i hc;cases h;exact⟨v,rfl,cg,.effect hw hk i0 b aE kX G he rfl rfl rfl hc⟩
    grind
   grind
 .have hw:bE o ao d.e=af:=aI;split at h
  .rename_i hk;split at h
   .rename_i hc;cases h;exact⟨.undef,rfl,cg,.Ma hw rfl rfl rfl hk i0 b aE kX rfl hc⟩
   grind
  .rename_i hk;cases h;exact⟨.undef,rfl,cg,.skip hw rfl rfl rfl hk rfl⟩
structure Tr(P:V5)(S:Nat->Self)(pl:fK)(ro:Nat)(ao:Array YX)(D:Nat->DS):Prop where
 step:∀(j:Nat) (o:YX),ao[j]?=aa o->c8 P (S j) pl ro ao o j (D j)=aa (D (j+1))
def sJ(P:V5)(S:Nat->Self)(pl:fK)(ro:Nat)(ao:Array YX)(d:DS):Nat->DS
 |0=>d
 |j+1=>match ao[j]? with
  |some o=>(c8 P (S j) pl ro ao o j (sJ P S pl ro ao d j)).getD (sJ P S pl ro ao d j)
  |none=>sJ P S pl ro ao d j
theorem aJd:∀{l:aj YX} {k:Nat} {d':DS},ao.toList.drop k=l->k<=ao.size->mq P S pl ro ao (l.zipIdx k) (sJ P S pl ro ao d0 k)=aa d'->
 (∀(j:Nat) (o:YX),k<=j->ao[j]?=aa o->c8 P (S j) pl ro ao o j (sJ P S pl ro ao d0 j)=aa (sJ P S pl ro ao d0 (j+1)))/\d'=sJ P S pl ro ao d0 ao.size
 |[],k,d',hl,hk,h=>by
  have hs:ao.size<=k:=by
   simp_all
  cases h
  grind
 |o::l,k,d',hl,hk,h=>by
  have bM:ao[k]?=aa o:=by
   have:(ao.toList.drop k)[0]?=aa o:=aI
   grind
  have lh:ao.toList.drop (k+1)=l:=by
   rw[<-UF (i:=1) (j:=k),hl];rfl
  have aq:=(Xh.1 bM).1;rw[List.zipIdx_cons]at h;unfold mq at h;split at h
  .rename_i d1 h1
   have E5:sJ P S pl ro ao d0 (k+1)=d1:=by
    simp_all[sJ]
   rw[<-E5]at h;have⟨h2,h3⟩:=aJd lh ak h
   grind
  grind
theorem aiw(h:mq P S pl ro ao ao.toList.zipIdx d0=aa d'):Tr P S pl ro ao (sJ P S pl ro ao d0)/\d'=sJ P S pl ro ao d0 ao.size:=by
 have⟨h1,h2⟩:=aJd (k:=0) az ak h;exact⟨⟨λj o ho=>h1 j o ak ho⟩,h2⟩
section tr
variable{D:Nat->DS}
variable(ht:Tr P S pl ro ao D)
include ht
theorem Tr.Wh(hj:j<ao.size):∃o v,ao[j]?=aa o/\(D (j+1)).e=(D j).e.put o.dst v/\(D j).bs≠[]/\Stp P (S j) pl ro ao o j (D j) (D (j+1)) v:=by
 have ho:=Kr hj;have⟨v,h1,h2,h3⟩:=aF1 (ht.step j _ ho)
 grind
theorem Tr.afs(hc:∀j,c9 (S j))(hk:∀j,cG (S j))(hj:j<ao.size):(D j).n<=(D (j+1)).n:=
 aG6 (hc j) (hk j) (ht.step j _ (Kr hj))
theorem Tr.jA(hc:∀j,c9 (S j))(hk:∀j,cG (S j))(sG:i<=j)(hj:j<=ao.size):(D i).n<=(D j).n:=by
 induction j with
 |zero=>grind
 |succ j ih=>
  rcases aI8 sG with h|rfl
  .exact YE (ih ak ak) (ht.afs hc hk ak)
  simp
theorem Tr.apart(hc:∀j,c9 (S j))(hk:∀j,cG (S j))(hi:i<ao.size)(hj:j<ao.size)(h1:(D i).n<=id/\id<(D (i+1)).n)(h2:(D j).n<=id/\id<(D (j+1)).n):i=j:=by
 rcases Yf i j with h|h|h
 .have:=ht.jA hc hk (show i+1<=j from h) ak;omega
 .exact h
 .have:=ht.jA hc hk (show j+1<=i from h) ak;omega
theorem Tr.anI(hj:j<ao.size):(D (j+1)).bs=(D j).bs\/(bX pl j=.effect/\∃b,(D (j+1)).bs=(j,b)::(D j).bs):=by
 have⟨o,v,_,_,_,h⟩:=ht.Wh hj;cases h with
 |skip _ _ _ _ _ hb=>grind
 |Ma _ _ _ _ hk _ b _ _ hb _=>grind
 |pure _ _ _ _ hb=>grind
 |alloc _ _ hb=>grind
 |load _ _ _ _ hb=>grind
 |call _ _ hb=>grind
 |effect _ hk _ _ _ _ G _ _ hb=>grind
theorem Tr.aGY(hm:m<=j)(hj:j<=ao.size):∃pre,(D j).bs=pre++(D m).bs/\∀x∈pre,m<=x.1/\x.1<j/\bX pl x.1=.effect:=by
 induction j with
 |zero=>simp_all
 |succ j ih=>
  rcases aI8 hm with h|rfl
  .have⟨pre,h1,h2⟩:=ih ak ak;rcases ht.anI (show j<ao.size by omega)with hb|⟨hk,b,hb⟩
   all_goals grind
  simp
theorem Tr.aee(hm:m<=j)(hj:j<=ao.size)(cg:∀i,m<=i->i<j->bX pl i≠.effect):(D j).bs=(D m).bs:=by
 have⟨pre,h1,h2⟩:=ht.aGY hm hj;cases pre with
 |nil=>grind
 |cons x pre=>grind
end tr
structure yk(ao:Array YX)(D:Nat->DS)(A:Nat->Prop)(e:aK):Prop where
 n:e.n=(D 0).e.n
 put:∀j,A j->∀t,mJ ao j=aa t->e.at t=(D (j+1)).e.at t
 dI:∀t,(∀j,A j->mJ ao j≠aa t)->e.at t=(D 0).e.at t
variable{e:aK}{t:Nat}{v:IV}
def aft{dst:aF Tmp}(h:dst≠aa t):(e.put dst v).at t=e.at t:=by
 cases dst with
 |none=>rfl
 |some d=>
  simp_all[aK.eF]
variable{A:Nat->Prop}{D:Nat->DS}{e':aK}
def yk.step(ho:sI ao pl)(h:yk ao D A e)(hA:∀i,A i->i<ao.size)(hj:ao[j]?=aa o)(hnj:¬A j)
 (hd:(D (j+1)).e=(D j).e.put o.dst v)(hold:∀t,mJ ao j=aa t->(D j).e.at t=(D 0).e.at t)(hn:(D j).e.n=(D 0).e.n):yk ao D (λi=>A i\/i=j) (e.put o.dst v):=by
 have aq:=(Xh.1 hj).1;have gh:mJ ao j=o.dst:=by simp_all[mJ]
 have ala:∀i t,A i->mJ ao i=aa t->o.dst≠aa t:=by
  intro i t hi hit;have Fc:=hA i hi;have cg:i≠j:=λhx=>hnj (hx▸hi);rw[<-gh];rcases Nat.lt_or_gt_of_ne cg with jV|jV
  .exact ho.single i j jV aq t hit
  .intro hc;exact ho.single j i jV Fc t hc hit
 refine⟨by rw[aK.xX];exact h.n,λi hi t hit=>?_,λt dw=>?_⟩
 .rcases hi with hi|rfl
  .rw[aft (ala i t hi hit)];exact h.put i hi t hit
  .rw[gh]at hit;rw[hd,hit,aK.eF,aK.eF,h.n,hn];split
   .rfl
   .rw[hold t aI];refine h.dI t λi hi hc=>ala i t hi hc hit
 .rw[aft aI];exact h.dI t λi hi=>dw i (.inl hi)
theorem Tr.env(ht:Tr P S pl ro ao D)(ho:sI ao pl):∀j,j<=ao.size->yk ao D (λi=>i<j) (D j).e
 |0,_=>⟨rfl,λi hi=>bH hi ak,λt _=>rfl⟩
 |j+1,hj=>by
  have⟨o,v,h1,h2,_,_⟩:=ht.Wh (show j<ao.size by omega);have ih:=ht.env ho j ak;have:=yk.step (A:=λi=>i<j) (v:=v) ho ih (λi hi=>ak) h1 ak h2 (λt hd=>ih.dI t λi hi hc=>ho.single i j hi ak t hc hd) ih.n
  grind
def aqb(ho:sI ao pl):∀(j:Nat),j<ao.size->∀i,oa pl j i->i<j:=by
 intro j;induction j using aJq with
 |_ j ih=>
  intro hj i hb;have⟨e,he,dL,h1⟩:=ho.bits j _ (Kr hj) i hb;have aq:=ho.back j _ (Kr hj) e he dL
  grind
def NR{α:Nat->Prop}(h:yk ao D A e)(h':yk ao D α e')(hAB:∀i,mJ ao i=aa t->(A i↔α i)):e.at t=e'.at t:=by
 by_cases hx:∃i,A i/\mJ ao i=aa t
 .have⟨i,hi,hd⟩:=hx;rw[h.put i hi t hd,h'.put i ((hAB i hd).1 hi) t hd]
 .rw[h.dI t λi hi hd=>hx ⟨i,hi,hd⟩,h'.dI t λi hi hd=>hx ⟨i,(hAB i hd).2 hi,hd⟩]
def ym(hj:ao[j]?=aa o)(h:∀t∈Gx ao j,e.at t=e'.at t)(hn:e.n=e'.n):
 (∀x∈o.op.operands,aT e x=aT e' x)/\bE o ao e=bE o ao e':=by
 have hr:Gx ao j=zL ao o:=by
  unfold Gx;rw[List.getD_eq_getElem?_getD,Z7];have:ao.toList[j]?=aa o:=by simpa using hj
  rw[this];rfl
 rw[hr]at h;refine⟨λx hx=>?_,?_⟩
 .cases x with
  |tmp t=>exact h t (by unfold zL;rw[ZV];left;exact List.mem_filterMap.2 ⟨.tmp t,by simpa using hx,rfl⟩)
  |_=>rfl
 .unfold bE;cases hg:o.guard with
  |none=>rfl
  |some g=>
   have⟨i,want⟩:=g;dsimp only;cases hd:(ao[i]?).bind (·.dst)with
   |none=>rfl
   |some d=>
    dsimp only;rw[hn,h d (by unfold zL;rw[ZV];right;rw[hg];dsimp only;rw[hd];simp)]
end
variable{A:Nat->Prop}{D:Nat->DS}{N:Nat}{P:V5}{S:Nat->Self}{e e':aK}
section
variable[Sm]
structure Made(ao:Array YX)(D:Nat->DS)(p:Piece):Prop where
 lt:p.j<ao.size
 lo:p.lo=(D p.j).n
 hi:p.hi=(D (p.j+1)).n
 bz:(D (p.j+1)).bz=p::(D p.j).bz
def Wef(ao:Array YX)(pl:fK)(D:Nat->DS)(i:Nat):Prop:=bX pl i=.effect/\∃o,ao[i]?=aa o/\bE o ao (D i).e=ab
def yn(ao:Array YX)(pl:fK)(D:Nat->DS)(A:Nat->Prop)(q:Nat):Prop:=∀i,A i->Wef ao pl D i->¬oa pl i q
def kb(l:aj (Nat×T Ob)):T Ob:=match l with|(_,b)::_=>b|[]=>.lf
theorem Tr.bz(ht:Tr P S pl ro ao D)(ho:sI ao pl)(h0:(D 0).bz=[]):∀j,j<=ao.size->∀p∈(D j).bz,Made ao D p/\p.j<j/\∀i,i<j->Wef ao pl D i->¬oa pl i p.j:=by
 intro j;induction j with
 |zero=>intro _ p hp;rw[h0]at hp;cases hp
 |succ j ih=>
  intro hj p hp;have Wj:j<ao.size:=ak;have⟨o,v,h1,_,_,hs⟩:=ht.Wh Wj
  have dI:p∈(D j).bz->(Wef ao pl D j->¬oa pl j p.j)->Made ao D p/\p.j<j+1/\∀i,i<j+1->Wef ao pl D i->¬oa pl i p.j:=λhp hw=>by
   have⟨a,b,c⟩:=ih ak p hp;refine⟨a,ak,λi hi mU=>?_⟩;rcases aI8 (Nat.le_of_lt_succ hi)with hi|rfl
   .exact c i hi mU
   .exact hw mU
  have aH:∀G:St,p=⟨j,(D j).n,G.n,G.t⟩->(D (j+1)).n=G.n->(D (j+1)).bz=⟨j,(D j).n,G.n,G.t⟩::(D j).bz->Made ao D p/\p.j<j+1/\∀i,i<j+1->Wef ao pl D i->¬oa pl i p.j:=λG Fe hn mC=>by
   subst Fe;refine⟨⟨Wj,rfl,hn.symm,mC⟩,Nat.lt_succ_self _,λi hi _ hb=>?_⟩;have:=aqb ho i ak _ hb;dsimp only at this;omega
  cases hs with
  |skip hw hv hn mC hk hb=>rw[mC]at hp;exact dI hp λh=>bH h.1 hk
  |Ma hw hv hn mC hk=>
   rw[mC]at hp;refine dI hp λh=>?_;have⟨_,o',h2,h3⟩:=h;rw[h1]at h2;cases h2;rw[hw]at h3;cases h3
  |pure hw hk hn mC=>rw[mC]at hp;exact dI hp λh=>(by have:=h.1;rw[hk]at this;cases this)
  |load hw hk hn mC=>rw[mC]at hp;exact dI hp λh=>(by have:=h.1;rw[hk]at this;cases this)
  |alloc hw hk hb G he hn mC=>
   have xY:=hp;rw[mC]at xY;rcases ZP.1 xY with rfl|xY
   .exact aH G rfl hn mC
   .exact dI xY λh=>(by have:=h.1;rw[hk]at this;cases this)
  |call hw hk hb i0 b aE kX G he hn mC=>
   have xY:=hp;rw[mC]at xY;rcases ZP.1 xY with rfl|xY
   .exact aH G rfl hn mC
   .exact dI xY λh=>(by have:=h.1;rw[hk]at this;cases this)
  |effect hw hk i0 b aE kX G he hn hb mC=>
   rw[mC,Qz]at hp;refine dI hp.1 λ_ hb=>?_;have h2:=hp.2;rw[hb]at h2;cases h2
variable{p:Piece}
theorem aIs(ht:Tr P S pl ro ao D)(hp:Made ao D p):bX pl p.j≠.effect:=by
 intro hk;have⟨o,v,h1,_,_,hs⟩:=ht.Wh hp.lt;have mC:=hp.bz;have len:=congrArg List.length mC;cases hs with
 |skip _ _ _ h=>grind
 |Ma _ _ _ h=>grind
 |pure _ h=>grind
 |load _ h=>grind
 |alloc _ h=>grind
 |call _ h=>grind
 |effect _ _ _ _ _ _ _ _ _ _ h=>
  grind
theorem aIB{q:Piece}(hp:Made ao D p)(hq:Made ao D q)(h:p.j=q.j):p=q:=by
 have h1:=hp.bz;have h2:=hq.bz
 grind
structure wb(ao:Array YX)(pl:fK)(D:Nat->DS)(N ro:Nat)(jj:Io)(w0:Z0)(fI:St)(A:Nat->Prop)(m:Nat)(e:aK)(Z:Io)(cur:Nat->aF Ob)(w:Z0):Prop where
 sub:∀i,A i->i<ao.size
 closed:∀j,A j->∀i,oa pl j i->A i
 env:yk ao D A e
 Wm:m<=ao.size
 Tj:∀i,i<ao.size->bX pl i=.effect->(A i↔i<m)
 last:m=0\/∃i,m=i+1/\A i/\bX pl i=.effect
 Ce:Fa ro (D ao.size).n jj w0 fI (λid=>(∃j,j<ao.size/\¬A j/\(D j).n<=id/\id<(D (j+1)).n)\/((D ao.size).n<=id/\id<N)) Z cur w
 piece:∀p,Made ao D p->A p.j->yn ao pl D A p.j->∀id o,p.lo<=id->id<p.hi->p.t.get id=aa o->cur id=aa o
 base:∀id o,(kb (D m).bs).get id=aa o->cur id=aa o
 Q6:∀p,Made ao D p->yn ao pl D A p.j->∀id,p.lo<=id->id<p.hi->(kb (D m).bs).get id=ah
 top:∀id,(D m).n<=id->(kb (D m).bs).get id=ah
 low:∀id,id<ro->id<fI.n->(kb (D m).bs).get id=fI.at id
section phi
variable{Z jj br:Io}{cur yo:Nat->aF Ob}{fI:St}{w w0 w':Z0}{Fr:Nat->Prop}
theorem wb.see(h:wb ao pl D N ro jj w0 fI A m e Z cur w){n':Nat}{bz:aj Piece}(hb:∀i,oa pl j i->A i)(hp:∀p∈bz,Made ao D p/\yn ao pl D A p.j/\p.hi<=n')(hn:(D m).n<=n'):
 (∀id o,(seen bz (pl.dp.getD j 0) (kb (D m).bs)).get id=aa o->cur id=aa o)/\(∀id,n'<=id->(seen bz (pl.dp.getD j 0) (kb (D m).bs)).get id=ah):=by
 refine⟨λid o hs=>?_,λid hid=>?_⟩
 .rcases NQ hs with⟨p,Tk,oe,h1,h2,h3⟩|hs
  .have⟨a,b,_⟩:=hp p Tk;exact h.piece p a (hb _ oe) b id o h1 h2 h3
  .exact h.base id o hs
 .cases hs:(seen bz (pl.dp.getD j 0) (kb (D m).bs)).get id with
  |none=>rfl
  |some o=>
   rcases NQ hs with⟨p,Tk,oe,h1,h2,h3⟩|hs
   .grind
   .rw[h.top id ak]at hs;grind
theorem yn.less{A':Nat->Prop}{q:Nat}(h:yn ao pl D A' q)(hA:∀i,A i->A' i):yn ao pl D A q:=λi hi=>h i (hA i hi)
theorem wb.next(h:wb ao pl D N ro jj w0 fI A m e Z cur w)(ht:Tr P S pl ro ao D)(hc:∀j,c9 (S j))(hk:∀j,cG (S j))(hj:j<ao.size)(rK:¬A j)(hb:∀i,oa pl j i->A i)(jM:bX pl j≠.effect)
 (he:yk ao D (λi=>A i\/i=j) e')(ta:Fa ro (D ao.size).n jj w0 fI Fr br yo w')
 (sE:∀id,((∃i,i<ao.size/\¬(A i\/i=j)/\(D i).n<=id/\id<(D (i+1)).n)\/((D ao.size).n<=id/\id<N))->Fr id)
 (aqc:∀id o,¬((D j).n<=id/\id<(D (j+1)).n)->cur id=aa o->yo id=aa o)(hr:(D (j+1)).n=(D j).n\/∃p,Made ao D p/\p.j=j)
 (mC:∀p,Made ao D p->p.j=j->∀id o,p.lo<=id->id<p.hi->p.t.get id=aa o->yo id=aa o):wb ao pl D N ro jj w0 fI (λi=>A i\/i=j) m e' br yo w' where
 sub:=λi hi=>hi.elim (h.sub i) λx=>x▸hj
 closed:=λi hi q hq=>hi.elim (λhi=>.inl (h.closed i hi q hq)) λx=>.inl (hb q (x▸hq))
 env:=he
 Wm:=h.Wm
 Tj:=λi hi Cf=>by
  rw[<-h.Tj i hi Cf];exact⟨λx=>x.elim id λx=>bH (x▸Cf) jM,.inl⟩
 last:=h.last.imp id λ⟨i,h1,h2,h3⟩=>⟨i,h1,.inl h2,h3⟩
 Ce:=ta.fr sE
 piece:=λp hp hA hu id o h1 h2 h3=>by
  by_cases tA:p.j=j
  .exact mC p hp tA id o h1 h2 h3
  .refine aqc id o (λhx=>?_) (h.piece p hp (hA.resolve_right tA) (hu.less λ_ x=>.inl x) id o h1 h2 h3);rw[hp.lo]at h1;rw[hp.hi]at h2;exact tA (ht.apart hc hk hp.lt hj ⟨h1,h2⟩ hx)
 base:=λid o hg=>by
  refine aqc id o (λhx=>?_) (h.base id o hg);rcases hr with hr|⟨p,hp,tA⟩
  .omega
  .have:=h.Q6 p hp (λi hi _ hbi=>rK (h.closed i hi j (tA▸hbi))) id (by rw[hp.lo,tA];exact hx.1) (by rw[hp.hi,tA];exact hx.2);rw[this]at hg;cases hg
 Q6:=λp hp hu=>h.Q6 p hp (hu.less λ_ x=>.inl x)
 top:=h.top
 low:=h.low
theorem wb.alb(h:wb ao pl D N ro jj w0 fI A m e Z cur w)(hj:j<ao.size)(hb:∀i,oa pl j i->A i)(jM:bX pl j=.effect)(Gy:∀i,i<ao.size->bX pl i=.effect->(A i↔i<j))
 (he:yk ao D (λi=>A i\/i=j) e')(ta:Fa ro (D ao.size).n jj w0 fI Fr br yo w')
 (sE:∀id,((∃i,i<ao.size/\¬(A i\/i=j)/\(D i).n<=id/\id<(D (i+1)).n)\/((D ao.size).n<=id/\id<N))->Fr id)
 (mC:∀p,Made ao D p->p.j≠j->A p.j->yn ao pl D (λi=>A i\/i=j) p.j->∀id o,p.lo<=id->id<p.hi->cur id=aa o->yo id=aa o)(cg:∀p,Made ao D p->p.j≠j)
 (Ic:∀id o,(kb (D (j+1)).bs).get id=aa o->yo id=aa o)
 (avL:∀p,Made ao D p->yn ao pl D (λi=>A i\/i=j) p.j->∀id,p.lo<=id->id<p.hi->(kb (D (j+1)).bs).get id=ah)
 (NS:∀id,(D (j+1)).n<=id->(kb (D (j+1)).bs).get id=ah)(aix:∀id,id<ro->id<fI.n->(kb (D (j+1)).bs).get id=fI.at id):
 wb ao pl D N ro jj w0 fI (λi=>A i\/i=j) (j+1) e' br yo w' where
 sub:=λi hi=>hi.elim (h.sub i) λx=>x▸hj
 closed:=λi hi q hq=>hi.elim (λhi=>.inl (h.closed i hi q hq)) λx=>.inl (hb q (x▸hq))
 env:=he
 Wm:=hj
 Tj:=λi hi Cf=>by
  grind
 last:=.inr ⟨j,rfl,.inr rfl,jM⟩
 Ce:=ta.fr sE
 piece:=λp hp hA hu id o h1 h2 h3=>mC p hp (cg p hp) (hA.resolve_right (cg p hp)) hu id o h1 h2 (h.piece p hp (hA.resolve_right (cg p hp)) (hu.less λ_ x=>.inl x) id o h1 h2 h3)
 base:=Ic
 Q6:=avL
 top:=NS
 low:=aix
end phi
end
variable{G fI aB:St}{Z jj:Io}{cur:Nat->aF Ob}{n nn:Nat}{v:IV}{w w0:Z0}
section
variable[Sm]
theorem aHi{bz:aj Piece}{b:T Ob}(h:loadAt P e o n v bz bits b=ab):
 ∃G,aN P n (aT e) o ⟨n,seen bz bits b⟩=aa (.val v G)/\G.n=n:=by
 unfold loadAt at h;split at h
 .rename_i u G he;simp only[VM]at h;rw[Sm.ok _ _ h.2]at he
  simp_all
 grind
theorem aJj{bz:aj Piece}{b:T Ob}{aE:aj (Nat×T Ob)}:∀{pre:aj (Nat×T Ob)},qn P e o n v bz bits (pre++(i,b)::aE)=ab->
 (∀x∈pre,RD bits x.1≠ab)->loadAt P e o n v bz bits b=ab
 |[],h,_=>by
  simp_all[qn]
 |x::pre,h,hp=>by
  have⟨i',b'⟩:=x;simp only[T7,qn,VM,P6]at h;exact aJj (h.2.resolve_left (hp (i',b') az)) λy hy=>hp y aI
theorem afu{t:Tmp}(h:mJ ao i=aa t):i<ao.size:=by
 unfold mJ at h
 grind
section step
theorem wb.reads(h:wb ao pl D N ro jj w0 fI A m e Z cur w)(ht:Tr P S pl ro ao D)(ho:sI ao pl)(hj:j<ao.size)(rK:¬A j)(hb:∀i,oa pl j i->A i):∀t∈Gx ao j,e.at t=(D j).e.at t:=by
 intro t hm;refine NR h.env (ht.env ho j ak) λi hd=>?_;have hi:=afu hd;rcases Yf i j with aq|rfl|aq
 .refine⟨λ_=>aq,λ_=>XF λhn=>?_⟩;exact(ho.free i j aq hj λhx=>hn (hb i hx)).1 t hd hm
 .grind
 .refine⟨λhA=>bH hm ?_,λx=>ak⟩;exact(ho.free j i aq hi λhx=>rK (h.closed i hA j hx)).2.1 t hd
theorem wb.order(h:wb ao pl D N ro jj w0 fI A m e Z cur w)(ht:Tr P S pl ro ao D)(ho:sI ao pl)(hj:j<ao.size)(rK:¬A j)(hb:∀i,oa pl j i->A i)(jM:bX pl j=.effect\/bX pl j=.call):
 (∀i,i<ao.size->bX pl i=.effect->(A i↔i<j))/\m<=j/\(D j).bs=(D m).bs:=by
 have h1:∀i,i<ao.size->bX pl i=.effect->(A i↔i<j):=by
  intro i hi Cf;rcases Yf i j with aq|rfl|aq
  .refine⟨λ_=>aq,λ_=>XF λhn=>?_⟩;have:=(ho.free i j aq hj λhx=>hn (hb i hx)).2.2;rw[Cf]at this;rcases jM with jM|jM<;>(rw[jM]at this;cases this)
  .grind
  .refine⟨λhA=>?_,λx=>ak⟩;have:=(ho.free j i aq hi λhx=>rK (h.closed i hA j hx)).2.2;rw[Cf]at this;rcases jM with jM|jM<;>(rw[jM]at this;cases this)
 have h2:m<=j:=by
  rcases h.last with hm|⟨i,hm,hA,Cf⟩
  .omega
  .have:=(h1 i (h.sub i hA) Cf).1 hA;omega
 refine⟨h1,h2,ht.aee h2 ak λi Wn Wo Cf=>?_⟩;have:=(h1 i ak Cf).2 Wo;have:=(h.Tj i ak Cf).1 this;omega
theorem Tr.avM(ht:Tr P S pl ro ao D)(hj:j<ao.size):(D j).bs≠[]:=by
 have⟨_,_,_,_,h,_⟩:=ht.Wh hj;exact h
theorem wb.avN(h:wb ao pl D N ro jj w0 fI A m e Z cur w)(ht:Tr P S pl ro ao D)(ho:sI ao pl)(hc:∀j,c9 (S j))(hk:∀j,cG (S j))(h0:(D 0).bz=[])(hj:j<ao.size)(rK:¬A j)(hb:∀i,oa pl j i->A i)
 (uf:ao[j]?=aa o)(hw:bE o ao (D j).e=ab)(jM:bX pl j=.load)(hej:(D (j+1)).e=(D j).e.put o.dst v)
 {i0:Nat}{b:T Ob}{aE:aj (Nat×T Ob)}(kX:(D j).bs=(i0,b)::aE)(he:aN P (D j).n (aT (D j).e) o ⟨(D j).n,seen (D j).bz (pl.dp.getD j 0) b⟩=aa (.val v G))(pO:G.n=(D j).n)
 (hl:(RD (pl.dp.getD j 0) i0||qn P (D j).e o (D j).n v (D j).bz (pl.dp.getD j 0) aE)=ab):
 ∃bz n' u aB,aN P n' (aT e) o ⟨n',seen bz (pl.dp.getD j 0) (kb (D m).bs)⟩=aa (.val u aB)/\aB.n=n'/\(∀p∈bz,Made ao D p/\yn ao pl D A p.j/\p.hi<=n')/\(D m).n<=n'/\e.put o.dst u=e.put o.dst v:=by
 have iQ:=h.reads ht ho hj rK hb;have tz:e.n=(D j).e.n:=by rw[h.env.n,(ht.env ho j ak).n]
 by_cases Pj:m<=j
 .have mC:∀p∈(D j).bz,Made ao D p/\yn ao pl D A p.j/\p.hi<=(D j).n:=by
   intro p hp;have⟨a,b,c⟩:=ht.bz ho h0 j ak p hp;refine⟨a,λi hA Nb=>c i ?_ Nb,by rw[a.hi];exact ht.jA hc hk b ak⟩;have:=(h.Tj i (h.sub i hA) Nb.1).1 hA;omega
  have alc:=λ(n':Nat) (G:St)=>u4 (P:=P) (ro:=n') (G:=G) (ym uf iQ tz).1;have⟨pre,Q7,pR⟩:=ht.aGY Pj (by omega:j<=ao.size);cases pre with
  |nil=>
   have EZ:kb (D m).bs=b:=by
    rw[List.nil_append]at Q7;rw[<-Q7,kX];rfl
   exact⟨(D j).bz,(D j).n,v,G,aI,pO,mC,ht.jA hc hk Pj ak,rfl⟩
  |cons x pre=>
   obtain⟨i1,b1,UX,tq⟩:∃i1 b1 UX,(D m).bs=(i1,b1)::UX:=by
    cases hx:(D m).bs with
    |nil=>exact bH hx (ht.avM ak)
    |cons y ys=>grind
   have nob:∀y∈x::pre,RD (pl.dp.getD j 0) y.1≠ab:=by
    intro y hy oe;have⟨g1,g2,g3⟩:=pR y hy;have:=(h.Tj y.1 ak g3).1 (hb y.1 oe);omega
   simp only[kX,T7,Tg]at Q7;have⟨hx,lh⟩:=Q7
   have pz:RD (pl.dp.getD j 0) i0=af:=by
    grind
   rw[pz,XP,lh,tq]at hl;have⟨aB,h1,h2⟩:=aHi (aJj hl λy hy=>nob y aI);refine⟨(D j).bz,(D j).n,v,aB,?_,h2,mC,ht.jA hc hk Pj ak,rfl⟩;rw[alc,tq];exact h1
 .have⟨i,hmi,hA,Cf⟩:=h.last.resolve_left ak;have hi:=h.sub i hA;have sG:i≠j:=λhx=>rK (hx▸hA);have aq:j<i:=ak;have aEU:=λhx=>rK (h.closed i hA j hx)
  have mC:∀p∈(D m).bz,Made ao D p/\yn ao pl D A p.j/\p.hi<=(D m).n:=by
   intro p hp;have⟨a,b,c⟩:=ht.bz ho h0 m h.Wm p hp;refine⟨a,λi hA Nb=>c i ?_ Nb,by rw[a.hi];exact ht.jA hc hk b h.Wm⟩;exact(h.Tj i (h.sub i hA) Nb.1).1 hA
  have acE:=ht.env ho i ak
  have aqd:∀t∈Gx ao j,e.at t=(D i).e.at t:=by
   intro t htm;refine NR h.env acE λq hd=>?_;have hq:=afu hd;rcases Yf q j with Wp|rfl|Wp
   .have:=XF λhn=>(ho.free q j Wp hj λhx=>hn (hb q hx)).1 t hd htm
    grind
   .exact bH htm (ho.aiu q hj jM t hd)
   .exact bH htm (ho.afp j q Wp hq jM t hd)
  have aqe:e.n=(D i).e.n:=by rw[h.env.n,acE.n]
  have alc:=λ(n':Nat) (G:St)=>u4 (P:=P) (ro:=n') (G:=G) (ym uf aqd aqe).1;have mU:bE o ao (D i).e=ab:=by rw[<-(ym uf aqd aqe).2,(ym uf iQ tz).2,hw]
  have Q4:recheck P pl ao (pl.dp.getD i 0) (D i).e (D m).n (D m).bz (kb (D m).bs) (ao.toList.zipIdx.take i)=ab:=by
   have⟨o',v',_,_,_,hs⟩:=ht.Wh hi;rw[hmi];cases hs with
   |skip _ _ _ _ hx=>grind
   |Ma _ _ hn hp _ i1 b1 UX _ dL hr=>rw[hn,hp,dL];exact hr
   |pure _ hx=>grind
   |alloc _ hx=>grind
   |load _ hx=>grind
   |call _ hx=>grind
   |effect _ _ i1 b1 UX _ aG _ hn dL hp hr=>rw[dL];exact hr
  simp only[recheck,US]at Q4
  have dE:(o,j)∈ao.toList.zipIdx.take i:=by
   rw[aIM];exists j
   grind
  have hx:=Q4 (o,j) dE;dsimp only at hx;have aAW:pl.kinds.getD j .effect=.load:=jM;rw[aAW]at hx
  have pz:RD (pl.dp.getD i 0) j=af:=by
   cases hc:RD (pl.dp.getD i 0) j with
   |false=>rfl
   |true=>contradiction
  simp only[pz,mU]at hx;split at hx
  .rename_i d hd;have⟨aB,h1,h2⟩:=aHi hx;refine⟨(D m).bz,(D m).n,(D i).e.at d,aB,?_,h2,mC,XS _,?_⟩
   .grind
   .rw[hd];have hdj:mJ ao j=aa d:=by simp_all[mJ]
    have bx:=acE.put j aq d hdj;rw[bx,hej,hd,aK.eF];by_cases hdn:d<e.n
    .grind
    .have dw:∀z:IV,e.put (aa d) z=e:=λz=>by
      have:UO d e.n=af:=by
       cases hc:UO d e.n with
       |false=>rfl
       |true=>exact bH jw hdn
      simp_all[aK.put]
     grind
  grind
end step
end
section
variable[Sm]
variable{a:Act}
theorem put_defers{dst:aF Tmp}{u:ZQ}:(a.put dst u).defers=a.defers:=by cases dst<;>rfl
theorem aiy(h:∀id,G.at id=ah)(hn:aB.n<=G.n):E_ cur G aB=cur:=by
 funext id;unfold E_
 grind
section step
variable{Q:Exit->Act->Z0->Prop}
theorem wb.step{F:Fence}{rd:aF Nat}{K:Act->Z0->Prop}(hS:∀j,kC P (S j) nn)(hC:∀j,gg P (S j))(hm:∀j,c9 (S j))(hk:∀j,cG (S j))(ho:sI ao pl)(ht:Tr P S pl ro ao D)(h0:(D 0).bz=[])(pO:(D 0).n=fI.n)(hnk:(D ao.size).n<=N)(Kw:Inv N jj fI w0)
 (h:wb ao pl D N ro jj w0 fI A m e Z cur w)(hj:j<ao.size)(rK:¬A j)(hb:∀i,oa pl j i->A i)(hF0:mT F rd jj)(he:eg Z e a.tmps)
 (hK:∀m' e' br yo w' a',wb ao pl D N ro jj w0 fI (λi=>A i\/i=j) m' e' br yo w'->eg br e' a'.tmps->a'.defers=a.defers->K a' w'):wpOpIn F 0 P ao Q j K a w:=by
 have⟨o,v,uf,hej,aFw,hs⟩:=ht.Wh hj;have hF:mT F rd Z:=hF0.mono h.Ce.ext;have acG:=ht.env ho j ak;have iQ:=h.reads ht ho hj rK hb;have tz:e.n=(D j).e.n:=by rw[h.env.n,acG.n]
 have gC:=ym uf iQ tz;have hold:∀t,mJ ao j=aa t->(D j).e.at t=(D 0).e.at t:=λt hd=>acG.dI t λi hi hc=>ho.single i j hi hj t hc hd;have Ie:yk ao D (λi=>A i\/i=j) (e.put o.dst v):=h.env.step ho h.sub uf rK hej hold acG.n;have hf0:∀id,fI.n<=id->id<(D ao.size).n->∀e,jj id e=ah:=λid h1 h2=>Kw.fresh id h1 ak;have hnj:(D j).n<=(D (j+1)).n:=ht.afs hm hk hj;have Qt:fI.n<=(D j).n:=by rw[<-pO];exact ht.jA hm hk ak ak
 have aFx:(D (j+1)).n<=(D ao.size).n:=ht.jA hm hk ak ak
 have hX:∀id,((∃i,i<ao.size/\¬(A i\/i=j)/\(D i).n<=id/\id<(D (i+1)).n)\/((D ao.size).n<=id/\id<N))->
  ((∃i,i<ao.size/\¬A i/\(D i).n<=id/\id<(D (i+1)).n)\/((D ao.size).n<=id/\id<N))/\¬((D j).n<=id/\id<(D (j+1)).n):=by
  intro id hx;rcases hx with⟨i,h1,h2,h3⟩|hx
  .exact⟨.inl ⟨i,h1,λhA=>h2 (.inl hA),h3⟩,λhr=>h2 (.inr (ht.apart hm hk h1 hj h3 hr))⟩
  omega
 have hFr:∀id,(D j).n<=id->id<(D (j+1)).n->((∃i,i<ao.size/\¬A i/\(D i).n<=id/\id<(D (i+1)).n)\/((D ao.size).n<=id/\id<N)):=λid h1 h2=>.inl ⟨j,hj,rK,h1,h2⟩
 have Q8:(D (j+1)).n=(D j).n->∀p,Made ao D p->p.j=j->∀(yo:Nat->aF Ob) id o,p.lo<=id->id<p.hi->p.t.get id=aa o->yo id=aa o:=by
  intro hn p hp tA yo id o h1 h2;rw[hp.lo,tA]at h1;rw[hp.hi,tA]at h2;omega
 have hbB:∀{i0:Nat} {b:T Ob} {aE:aj (Nat×T Ob)},(D j).bs=(i0,b)::aE->(D j).bs=(D m).bs->kb (D m).bs=b:=λh1 h2=>by rw[<-h2,h1];rfl
 have mV:(∀i,i<ao.size->bX pl i=.effect->(A i↔i<j))->∀p∈(D j).bz,Made ao D p/\yn ao pl D A p.j/\p.hi<=(D j).n:=by
  intro Gy p hp;have⟨c1,c2,c3⟩:=ht.bz ho h0 j ak p hp;exact⟨c1,λi hA Nb=>c3 i ((Gy i (h.sub i hA) Nb.1).1 hA) Nb,by rw[c1.hi];exact ht.jA hm hk c2 ak⟩
 unfold wpOpIn;rw[uf];dsimp only;rw[xI he,gC.2];cases hs with
 |skip hw hv hn hp jM kX=>
  rw[hw];exists λf _=>hF.fn f;subst hv;exact hK m _ Z cur w _ (h.next ht hm hk hj rK hb jM Ie h.Ce (λid hx=>(hX id hx).1) (λ_ _ _ hc=>hc) (.inl hn) λp hp tA=>Q8 hn p hp tA cur) (he.put xg _) put_defers
 |Ma hw hv hn hp jM i0 b aE kX dL hr=>
  rw[hw];exists λf _=>hF.fn f;subst hv;have⟨Gy,Pj,EZ⟩:=h.order ht ho hj rK hb (.inl jM);have hB:=hbB kX EZ;have Pk:kb (D (j+1)).bs=kb (D m).bs:=by rw[dL,hB];rfl
  have gq:=ht.jA hm hk Pj (by omega:j<=ao.size);refine hK (j+1) _ Z cur w _ (h.alb hj hb jM Gy Ie h.Ce (λid hx=>(hX id hx).1) (λ_ _ _ _ _ _ _ _ _ hc=>hc) (λp hp tA=>aIs ht hp (by rw[tA];exact jM)) ?_ ?_ ?_ ?_) (he.put xg _) put_defers
  .rw[Pk];exact h.base
  .rw[Pk];exactλp hp hu=>h.Q6 p hp (hu.less λ_ x=>.inl x)
  .rw[Pk];exactλid hid=>h.top id ak
  .rw[Pk];exact h.low
 |pure hw jM hn hp kX G fU Cg=>
  rw[hw];have hx:nb P (S j) 0 e o ⟨0,.lf⟩=aa (v,G):=by unfold nb;rw[u4 gC.1,fU]
  refine G9 (N:=0) (hS j) (hC j) (hm j) hx ak hF (h.Ce.toGn.inv (λid o hs=>by cases hs) (λid h1 h2=>ak) λ_ _=>rfl) he λu w' br hv cX hl=>?_;have ta:=h.Ce.step hf0 (λid o hs=>by cases hs) (λid h1 h2=>ak) (λid _ hs=>by cases hs) (λ_ _=>rfl) cX hl;rw[aiy (λ_=>rfl) ak]at ta;exact hK m _ br cur w' _ (h.next ht hm hk hj rK hb (by rw[jM];simp) Ie ta (λid hx=>⟨(hX id hx).1,λhh=>ak⟩) (λ_ _ _ hc=>hc) (.inl hn) λp hp tA=>Q8 hn p hp tA cur) ((he.mono hl.ext).put hv _) put_defers
 |alloc hw jM kX G fU hn hp=>
  rw[hw];have hx:nb P (S j) 0 e o ⟨(D j).n,.lf⟩=aa (v,G):=by unfold nb;rw[u4 gC.1,fU]
  refine G9 (N:=(D (j+1)).n) (hS j) (hC j) (hm j) hx ak hF (h.Ce.toGn.inv (λid o hs=>by cases hs) (λid h1 h2=>hFr id h1 h2) λ_ _=>rfl) he λu w' br hv cX hl=>?_;have ta:=h.Ce.step hf0 (λid o hs=>by cases hs) (λid h1 h2=>⟨YE Qt h1,ak⟩) (λid _ hs=>by cases hs) (λ_ _=>rfl) cX hl;have Pe:Made ao D ⟨j,(D j).n,G.n,G.t⟩:=⟨hj,rfl,hn.symm,hp⟩;refine hK m _ br _ w' _ (h.next ht hm hk hj rK hb (by rw[jM];simp) Ie ta (λid hx=>⟨(hX id hx).1,λhh=>(hX id hx).2 (by rw[hn];exact hh)⟩) (λid o hr hc=>?_) (.inr ⟨_,Pe,rfl⟩) λp pP tA id o h1 h2 h3=>?_) ((he.mono hl.ext).put hv _) put_defers
  .unfold E_;rw[aY,hc];intro hx;rcases hx with hx|hx
   .cases hx
   .exact hr (by rw[hn];exact hx)
  .have Fe:=aIB pP Pe tA;subst Fe;unfold E_;rw[aW (.inr ⟨h1,h2⟩)];exact h3
 |load hw jM hn hp kX i0 b aE Ky G fU Cg hlb=>
  rw[hw];have⟨bz,n',u',aB,aAX,aFy,nf,gq,NO⟩:=h.avN ht ho hm hk h0 hj rK hb uf hw jM hej Ky fU Cg hlb;have⟨lk,nV⟩:=h.see hb nf gq;have hx:nb P (S j) n' e o ⟨n',seen bz (pl.dp.getD j 0) (kb (D m).bs)⟩=aa (u',aB):=by unfold nb;rw[aAX]
  refine G9 (N:=n') (hS j) (hC j) (hm j) hx ak hF (h.Ce.toGn.inv lk (λid h1 h2=>by dsimp only at h1;omega) nV) he λu w' br hv cX hl=>?_;have ta:=h.Ce.step (G:=⟨n',seen bz (pl.dp.getD j 0) (kb (D m).bs)⟩) hf0 lk (λid h1 h2=>aI) (λid _ hs=>?_) nV cX hl
  .have hup:E_ cur ⟨n',seen bz (pl.dp.getD j 0) (kb (D m).bs)⟩ aB=cur:=by
    funext id;unfold E_;split<;>try rfl
    rename_i hc;have hs:=hc.resolve_right aI;have⟨x,hx⟩:=Kv.1 hs;have aq:=Tp λhle=>by have:=nV id hle;rw[show(⟨n',seen bz (pl.dp.getD j 0) (kb (D m).bs)⟩:St).at id=_ from this]at hx;grind
    rw[hl.BN id aq aq,hx];exact(lk id x hx).symm
   rw[hup]at ta;have aAY:eg br (e.put o.dst v) (a.put o.dst u).tmps:=by rw[<-NO];exact(he.mono hl.ext).put hv _
   exact hK m _ br cur w' _ (h.next ht hm hk hj rK hb aI Ie ta (λid hx=>⟨(hX id hx).1,λhh=>aI⟩) (λ_ _ _ hc=>hc) (.inl hn) λp hp tA=>Q8 hn p hp tA cur) aAY put_defers
  .exact Tp λhle=>by
    have:=nV id hle;rw[show(⟨n',seen bz (pl.dp.getD j 0) (kb (D m).bs)⟩:St).at id=_ from this]at hs
    grind
 |call hw jM kX i0 b aE Ky G fU hn hp=>
  rw[hw];have⟨Gy,Pj,EZ⟩:=h.order ht ho hj rK hb (.inr jM);have hB:=hbB Ky EZ;have gq:=ht.jA hm hk Pj (by omega:j<=ao.size);have⟨lk,nV⟩:=h.see hb (mV Gy) gq;rw[hB]at lk nV
  have hx:nb P (S j) (D j).n e o ⟨(D j).n,seen (D j).bz (pl.dp.getD j 0) b⟩=aa (v,G):=by
   rw[<-fU];unfold nb;rw[u4 gC.1]
  have aq:∀id,((⟨(D j).n,seen (D j).bz (pl.dp.getD j 0) b⟩:St).at id).isSome=ab->id<(D j).n:=λid hs=>Tp λhle=>by
   have:=nV id hle;rw[show(⟨(D j).n,seen (D j).bz (pl.dp.getD j 0) b⟩:St).at id=_ from this]at hs
   grind
  refine G9 (N:=(D (j+1)).n) (hS j) (hC j) (hm j) hx ak hF (h.Ce.toGn.inv lk (λid h1 h2=>hFr id h1 h2) nV) he λu w' br hv cX hl=>?_;have ta:=h.Ce.step (G:=⟨(D j).n,seen (D j).bz (pl.dp.getD j 0) b⟩) hf0 lk (λid h1 h2=>⟨YE Qt h1,ak⟩) (λid _ hs=>aq id hs) nV cX hl;have Pe:Made ao D ⟨j,(D j).n,G.n,G.t⟩:=⟨hj,rfl,hn.symm,hp⟩;refine hK m _ br _ w' _ (h.next ht hm hk hj rK hb aI Ie ta (λid hx=>⟨(hX id hx).1,λhh=>(hX id hx).2 aI⟩) (λid o hr hc=>?_) (.inr ⟨_,Pe,rfl⟩) λp pP tA id o h1 h2 h3=>?_) ((he.mono hl.ext).put hv _) put_defers
  .unfold E_;split
   .rename_i sK;have hs:=sK.resolve_right λhx=>hr aI;have⟨x,hx⟩:=Kv.1 hs;rw[hl.BN id (aq id hs) (aq id hs),hx,<-lk id x hx];omega
   omega
  .have Fe:=aIB pP Pe tA;subst Fe;unfold E_;rw[aW (.inr ⟨h1,h2⟩)];exact h3
 |effect hw jM i0 b aE Ky G fU hn dL hp hr=>
  rw[hw];have⟨Gy,Pj,EZ⟩:=h.order ht ho hj rK hb (.inl jM);have hB:=hbB Ky EZ;have Pk:kb (D (j+1)).bs=G.t:=by rw[dL];rfl
  have gq:=ht.jA hm hk Pj (by omega:j<=ao.size);have⟨lk,nV⟩:=h.see hb (mV Gy) gq;rw[hB]at lk nV
  have hx:nb P (S j) ro e o ⟨(D j).n,seen (D j).bz (pl.dp.getD j 0) b⟩=aa (v,G):=by
   rw[<-fU];unfold nb;rw[u4 gC.1]
  have tB:Wef ao pl D j:=⟨jM,o,uf,hw⟩
  have qM:∀p,Made ao D p->yn ao pl D (λi=>A i\/i=j) p.j->∀id,p.lo<=id->id<p.hi->(seen (D j).bz (pl.dp.getD j 0) b).get id=ah:=by
   intro p pP hu id h1 h2;cases q_:(seen (D j).bz (pl.dp.getD j 0) b).get id with
   |none=>rfl
   |some x=>
    rcases NQ q_ with⟨q,hq,oe,g1,g2,g3⟩|q_
    .have⟨JI,_,_⟩:=mV Gy q hq
     have:q.j=p.j:=by
      rw[JI.lo]at g1;rw[JI.hi]at g2;rw[pP.lo]at h1;rw[pP.hi]at h2;exact ht.apart hm hk JI.lt pP.lt ⟨g1,g2⟩ ⟨h1,h2⟩
     exact bH (show oa pl j p.j by rw[<-this];exact oe) (hu j (.inr rfl) tB)
    .rw[<-hB,h.Q6 p pP (hu.less λ_ x=>.inl x) id h1 h2]at q_
     grind
  have cg:∀p,Made ao D p->p.j≠j:=λp pP tA=>aIs ht pP aI
  have PQ:∀p,Made ao D p->∀id,p.lo<=id->id<p.hi->¬((D j).n<=id/\id<G.n):=λp pP id h1 h2 hx=>by
   rw[pP.lo]at h1;rw[pP.hi]at h2;exact cg p pP (ht.apart hm hk pP.lt hj ⟨h1,h2⟩ ak)
  refine G9 (N:=(D (j+1)).n) (hS j) (hC j) (hm j) hx ak hF (h.Ce.toGn.inv lk (λid h1 h2=>hFr id h1 h2) nV) he λu w' br hv cX hl=>?_;have ta:=h.Ce.step (G:=⟨(D j).n,seen (D j).bz (pl.dp.getD j 0) b⟩) hf0 lk (λid h1 h2=>⟨YE Qt h1,ak⟩) (λid hr _=>hr) nV cX hl;refine hK (j+1) _ br _ w' _ (h.alb hj hb jM Gy Ie ta (λid hx=>⟨(hX id hx).1,λhh=>(hX id hx).2 aI⟩) (λp pP tA hA hu id o h1 h2 hc=>?_) cg ?_ ?_ ?_ ?_) ((he.mono hl.ext).put hv _) put_defers
  .unfold E_;rw[aY]
   .omega
   .intro hx;rcases hx with hx|hx
    .rw[show(⟨(D j).n,seen (D j).bz (pl.dp.getD j 0) b⟩:St).at id=_ from qM p pP hu id h1 h2]at hx
     grind
    grind
  .rw[Pk];intro id o hg;unfold E_;split<;>try exact hg
   rename_i hx
   have n9:(⟨(D j).n,seen (D j).bz (pl.dp.getD j 0) b⟩:St).at id=ah:=by
    cases hs:(⟨(D j).n,seen (D j).bz (pl.dp.getD j 0) b⟩:St).at id with
    |none=>rfl
    |some y=>grind
   have aEV:=λhh=>hx (.inr hh);have:=hl.dead id n9 ak;rw[show G.at id=_ from hg]at this;grind
  .rw[Pk];intro p pP hu id h1 h2;have:=PQ p pP id h1 h2;exact hl.dead id (qM p pP hu id h1 h2) aI
  .rw[Pk];intro id hid;exact hl.dead id (nV id ak) (.inr ak)
  .rw[Pk];intro id yp aq;rw[show G.t.get id=G.at id from rfl,hl.BN id yp aI];show(seen (D j).bz (pl.dp.getD j 0) b).get id=_;rw[aiv,<-hB]
   .exact h.low id yp aq
   .intro p pP;have⟨c1,c2,_⟩:=ht.bz ho h0 j ak p pP;rw[c1.lo];have:=ht.jA hm hk (UT p.j) ak;omega
end step
end
variable{F:Fence}{Q:Exit->Act->Z0->Prop}{U:Self}{rd:aF Nat}{a:Act}
section
variable[Sm]
def jW(bO:Array Bool)(i:Nat):Prop:=bO[i]?=aa ab
variable{bO:Array Bool}
omit [Sm]in
theorem Dw(hj:j<bO.size):jW (bO.setIfInBounds j ab)=λi=>jW bO i\/i=j:=by
 funext i;refine propext ?_;unfold jW;rw[Array.getElem?_setIfInBounds];by_cases sG:j=i
 .subst sG;simp[hj]
 .simp[sG,Ne.symm sG]
omit [Sm]in
theorem ug(h:j∈Pq .any ao bO):j<ao.size/\bO[j]?=aa af/\∃o,ao[j]?=aa o/\∀e∈o.after.toList,Tn .any e=ab->jW bO e.on:=by
 unfold Pq at h;rw[Qz,Ua]at h;obtain⟨aq,h⟩:=h;rw[VM]at h;refine⟨aq,?_,ao[j],Kr aq,λe he hb=>?_⟩
 .have h1:=h.1;rw[Ti]at h1;cases hx:bO[j]? with
  |none=>rw[hx]at h1;cases h1
  |some b=>rw[hx]at h1;cases b with
   |false=>rfl
   |true=>cases h1
 .have h2:=h.2;rw[Kr aq]at h2;simp only[ZO,Tb]at h2;rw[aI2]at h2;have:=h2 e (by simpa using he);rw[hb,YI,XP,Ti]at this;unfold jW;cases hx:bO[e.on]? with
  |none=>rw[hx]at this;cases this
  |some b=>rw[hx]at this;cases b with
   |false=>cases this
   |true=>rfl
omit [Sm]in
theorem aIR(ho:sI ao pl)(cd:bO.size=ao.size)(h:Pq .any ao bO=[]):∀i,i<ao.size->jW bO i:=by
 intro i;induction i using aJq with
 |_ i ih=>
  intro hi;refine XF λhn=>?_
  have hf:bO[i]?=aa af:=by
   rw[Kr ak];cases hx:bO[i]'ak with
   |false=>rfl
   |true=>exact bH (by unfold jW;rw[Kr ak,hx]) hn
  have hm:i∈Pq .any ao bO:=by
   unfold Pq;rw[Qz,Ua];exists hi;rw[Ti,hf,Kr hi];simp only[Tb,Pb,T8,ZO];rw[aI2];intro e he;cases hb:Tn .any e with
   |false=>rfl
   |true=>
    have aq:=ho.back i _ (Kr hi) e (by simpa using he) hb;have:=ih e.on aq ak;unfold jW at this;rw[Ti,this];rfl
  rw[h]at hm;cases hm
section any
theorem aqf{a0:Act}(hS:∀j,kC P (S j) nn)(hC:∀j,gg P (S j))(hm:∀j,c9 (S j))(hk:∀j,cG (S j))(ho:sI ao pl)(ht:Tr P S pl ro ao D)(h0:(D 0).bz=[])(pO:(D 0).n=fI.n)(hnk:(D ao.size).n<=N)(Kw:Inv N jj fI w0)
 (hF0:mT F rd jj)(NT:∀m e Z cur w a,wb ao pl D N ro jj w0 fI (λi=>i<ao.size) m e Z cur w->eg Z e a.tmps->a.defers=a0.defers->Q .normal a w):
 ∀(fuel:Nat) (bO:Array Bool) (m:Nat) (e:aK) (Z:Io) (cur:Nat->aF Ob) (w:Z0) (a:Act),bO.size=ao.size->bO.toList.count af<=fuel->wb ao pl D N ro jj w0 fI (jW bO) m e Z cur w->
  eg Z e a.tmps->a.defers=a0.defers->wpAnyIn F 0 P .any ao Q fuel bO a w:=by
 have cQ:∀(bO:Array Bool) (m:Nat) (e:aK) (Z:Io) (cur:Nat->aF Ob) (w:Z0) (a:Act),bO.size=ao.size->(∀i,i<ao.size->jW bO i)->wb ao pl D N ro jj w0 fI (jW bO) m e Z cur w->
  eg Z e a.tmps->a.defers=a0.defers->Q .normal a w:=by
  intro bO m e Z cur w a cd hl h he hd
  have:jW bO=λi=>i<ao.size:=by
   funext i;refine propext ⟨λhx=>h.sub i hx,hl i⟩
  grind
 intro fuel;induction fuel with
 |zero=>
  intro bO m e Z cur w a cd hc h he hd
  have hl:∀i,i<ao.size->jW bO i:=by
   intro i hi;have aq:i<bO.size:=ak;unfold jW;rw[Kr aq];cases hx:bO[i]with
   |true=>rfl
   |false=>
    have dE:af∈bO.toList:=by
     grind
    grind
  refine⟨?_,cQ bO m e Z cur w a cd hl h he hd⟩;cases hr:Pq .any ao bO with
  |nil=>rfl
  |cons x xs=>
   have⟨h1,h2,_⟩:=ug (show x∈Pq .any ao bO by grind);have:=hl x h1
   simp_all[jW]
 |succ fuel ih=>
  intro bO m e Z cur w a cd hc h he hd;refine⟨λhr=>cQ bO m e Z cur w a cd (aIR ho cd hr) h he hd,λj hj=>?_⟩;have⟨Wj,hlj,o,uf,aiA⟩:=ug hj;have rK:¬jW bO j:=λhx=>by simp_all[jW]
  have hb:∀i,oa pl j i->jW bO i:=by
   intro i oe;have⟨e',q7,JS,hh⟩:=ho.bits j o uf i oe;have:=aiA e' q7 JS;rcases hh with rfl|hh
   .omega
   .exact h.closed _ this i hh
  refine h.step hS hC hm hk ho ht h0 pO hnk Kw Wj rK hb hF0 he λm' e' br yo w' a' hP q7 E8=>?_;rw[<-Dw ak]at hP
  grind
end any
def KA(hS:∀j,kC P (S j) nn)(hC:∀j,gg P (S j))(hm:∀j,c9 (S j))(hk:∀j,cG (S j)):
 ∀N ro rd ao e df G cr,nc P S ro ao e df G=aa cr->cr.G.n<=N->∀F Z a w Q,mT F rd Z->Inv N Z G w->eg Z e a.tmps->oH Z df a.defers->xh N ro Z w G cr Q->wpAnyIn F 0 P .any ao Q ao.size (Nq ao.size af) a {w with drawn:=w.drawn+1}:=by
 intro N ro rd ao e df G cr h hN F Z a w Q hF hi he hd hQ;simp only[nc]at h;split at h
 .rename_i bM;split at h
  .rename_i e' n i b aE bz G6;cases h;have⟨ht,er⟩:=aiw G6;generalize hDd:sJ P S (cU ao) ro ao ⟨e,G.n,[(0,G.t)],[]⟩=D at ht er;have hD0:D 0=⟨e,G.n,[(0,G.t)],[]⟩:=by rw[<-hDd];rfl
   have ho:=afr bM;have hn:(D ao.size).n=n:=aI;have cX:Inv N Z G {w with drawn:=w.drawn+1}:=hi.same rfl;have hle:Le ro Z w G Z {w with drawn:=w.drawn+1} G:=Le.same rfl rfl rfl rfl
   have aAZ:G.n<=N:=by
    have:=ht.jA hm hk (UT ao.size) (XS _)
    grind
   have Te:=hQ.from hi hle aAZ;have Hb:kb (D 0).bs=G.t:=by rw[hD0];rfl
   have pO:(D 0).n=G.n:=aI
   have aA0:wb ao (cU ao) D N ro Z {w with drawn:=w.drawn+1} G (jW (Nq ao.size af)) 0 e Z G.at {w with drawn:=w.drawn+1}:=by
    have dw:∀i,¬jW (Nq ao.size af) i:=by
     simp_all[jW,aJx]
    refine⟨λi hx=>bH hx (dw i),λj hx=>bH hx (dw j),⟨aI,λj hx=>bH hx (dw j),λt _=>aI⟩,UT _,λi _ _=>⟨λhx=>bH hx (dw i),λhx=>bH hx (aKG _)⟩,.inl rfl,
     (Fa.start cX aI).fr ?_,λp _ hx=>bH hx (dw _),?_,?_,?_,?_⟩
    .intro id hx;rcases hx with⟨j,hj,_,h1,h2⟩|⟨h1,h2⟩
     .have g1:=ht.jA hm hk (UT j) ak;have g2:=ht.jA hm hk (show j+1<=ao.size from hj) (XS _)
      grind
     .have g1:=ht.jA hm hk (UT ao.size) (XS _);omega
    .rw[Hb];exactλ_ _ h=>h
    .rw[Hb];intro p hp _ id h1 _;have g1:=ht.jA hm hk (UT p.j) (by have:=hp.lt;omega);exact hi.wf id (by grind [hp.lo])
    .rw[Hb,pO];exact hi.wf
    .rw[Hb];exactλ_ _ _=>rfl
   refine aqf (a0:=a) hS hC hm hk ho ht aI pO aI cX hF ?_ ao.size _ 0 e Z G.at _ a az ?_ aA0 he rfl
   .intro m e1 cO cur w1 a1 hp pQ E5
    have kX:=ht.aee hp.Wm (XS _) λi h1 h2 Cf=>by
     have:=(hp.Tj i h2 Cf).1 h2;omega
    have hB:kb (D m).bs=b:=by rw[<-kX,<-er];rfl
    have mC:(D ao.size).bz=bz:=aI
    have mV:∀p∈bz,Made ao D p/\yn ao (cU ao) D (λi=>i<ao.size) p.j/\p.hi<=n:=by
     intro p Tk;have⟨c1,c2,c3⟩:=ht.bz ho aI ao.size (XS _) p aI;exact⟨c1,λi hA Nb=>c3 i hA Nb,by rw[c1.hi,<-hn];exact ht.jA hm hk c2 (XS _)⟩
    have ta:=hp.Ce;rw[hn]at ta;have gq:=ht.jA hm hk hp.Wm (XS _);have h0n:=ht.jA hm hk (UT ao.size) (XS _)
    obtain⟨i1,l1⟩:=ta.fin (N:=N) (t:=bz.foldl e_ b) ak (λid h1 h2=>.inr ⟨h1,h2⟩) (λid o hg=>by
     rcases Ib _ _ _ _ hg with⟨p,Tk,g1,g2,g3⟩|hg
     .have⟨c1,c2,_⟩:=mV p Tk;exact hp.piece p c1 c1.lt c2 id o g1 g2 g3
     .exact hp.base id o aI)
     (λid hid=>by
      cases hg:(bz.foldl e_ b).get id with
      |none=>rfl
      |some o=>
       rcases Ib _ _ _ _ hg with⟨p,Tk,g1,g2,g3⟩|hg
       .grind
       .rw[<-hB,hp.top id ak]at hg;grind)
     (λid hr aq=>by
      rw[NP,<-hB]
      .exact hp.low id hr aq
      .intro p Tk;have⟨c1,_,_⟩:=mV p Tk;rw[c1.lo];have:=ht.jA hm hk (UT p.j) (by have:=c1.lt;omega);omega)
    have Ie:eg cO e' a1.tmps:=by
     have q8:=ht.env ho ao.size (XS _);have S6:(D ao.size).e=e':=aI;refine⟨by rw[<-S6,q8.n,<-hp.env.n];exact pQ.1,λt=>?_⟩;rw[<-S6,<-NR hp.env q8 (t:=t) λi _=>Iff.rfl];exact pQ.2 t
    exact Te a1 w1 cO [] i1 l1 Ie (by rw[E5];exact hd.mono l1.ext) trivial
   simp
  grind
 grind
def NU(fG:P.follows .mixedOrders=ab)(hS:∀j,kC P (S j) nn)(hC:∀j,gg P (S j))(hm:∀j,c9 (S j))(hk:∀j,cG (S j)):
 ∀N ro rd ao e df G cr,nc P S ro ao e df G=aa cr->cr.G.n<=N->∀F Z a w Q id,mT F rd Z->Inv N Z G w->eg Z e a.tmps->oH Z df a.defers->xh N ro Z w G cr Q->(Code.region id ao ab).wpIn F 0 P Q a w:=
 λN ro rd ao e df G cr h hN F Z a w Q _ hF hi he hd hQ=>wpIn_region_any fG (KA hS hC hm hk N ro rd ao e df G cr h hN F Z a w Q hF hi he hd hQ)
omit [Sm]in
def aam(fG:P.follows .mixedOrders=ab)(hS:kC P U nn)(hC:gg P U)(hm:c9 U)(hk:cG U):V8 P U:=
 @NU _ _ _ A6 fG (λ_=>hS) (λ_=>hC) (λ_=>hm) λ_=>hk
end
def jn(P:V5)(ro:Nat)(rd:aF Nat)(fn:V4)(c:Code)(e:aK)(df:aj Df)(G:St)(cr:CR):Prop:=
 G.n<=cr.G.n/\∃m0,∀m,m0<=m->∀N,cr.G.n<=N->∀F Z a w Q,mT F rd Z->Inv N Z G w->eg Z e a.tmps->oH Z df a.defers->xh N ro Z w G cr Q->Tu F P m c Q a w
def kK(P:V5)(ro:Nat)(f:V4)(av:aj IV)(G:St)(v:IV)(aB:St):Prop:=
 G.n<=aB.n/\∀N,aB.n<=N->∀Z us w,Inv N Z G w->bu Z av us->CallsIn Z9 0 P f us.toArray w (Cz N ro Z w G v aB)
def xj(P:V5)(ro:Nat)(rd:aF Nat)(ao:Array YX)(l:aj YX)(e:aK)(df:aj Df)(G:St)(cr:CR):Prop:=
 G.n<=cr.G.n/\∀N,cr.G.n<=N->∀F Z a w Q k,ao.toList.drop k=l->mT F rd Z->Inv N Z G w->eg Z e a.tmps->oH Z df a.defers->xh N ro Z w G cr Q->
  wpOpsIn F 0 P ao Q (Ln k l.length) a w
variable{c x y:Code}{cr:CR}{df:aj Df}{fn:V4}{aG:St}
def jn.mk(hn:G.n<=cr.G.n)(hl:∀b,c≠.loop b)(h:∀N,cr.G.n<=N->∀F Z a w Q,mT F rd Z->Inv N Z G w->eg Z e a.tmps->oH Z df a.defers->xh N ro Z w G cr Q->c.wpIn F 0 P Q a w):jn P ro rd fn c e df G cr:=by
 refine⟨hn,0,λm _ N hN F Z a w Q hF hi he hd hQ=>?_⟩;have:=h N hN F Z a w Q hF hi he hd hQ;cases c<;>first|exact this|grind
def jn.wp(h:jn P ro rd fn c e df G cr)(hN:cr.G.n<=N)(hF:mT F rd Z)(hi:Inv N Z G w)(he:eg Z e a.tmps)(hd:oH Z df a.defers)(hQ:xh N ro Z w G cr Q):c.wpIn F 0 P Q a w:=by
 have⟨_,m0,h⟩:=h;exact(h m0 (XS _) N hN F Z a w Q hF hi he hd hQ).wp
def jn.seq{e1:aK}{wa:aj Df}(h:jn P ro rd fn x e df G ⟨.normal,e1,wa,aG⟩)(k:jn P ro rd fn y e1 wa aG cr):jn P ro rd fn (.seq x y) e df G cr:=by
 refine .mk (YE h.1 k.1) az λN hN F Z a w Q hF hi he hd hQ=>wpIn_seq ?_;have fY:=YE k.1 hN;refine h.wp fY hF hi he hd ?_;intro a1 w1 cO gP i1 l1 dt d1 p1;exact k.wp hN (hF.mono l1.ext) i1 dt d1 (hQ.from hi l1 fY)
variable{c:Array ZQ}
def jn.cond{c:Xs}{t:Bool}(hc:aT e c=.raw (.bool t))(h:jn P ro rd fn (if t then x else y) e df G cr):jn P ro rd fn (.cond c x y) e df G cr:=
 .mk h.1 az λN hN F Z a w Q hF hi he hd hQ=>wpIn_cond (NN hc (he.eval c)) (h.wp hN hF hi he hd hQ)
def jn.aHX(h:jn P ro rd fn x e df G cr)(hx:cr.ex≠.exit id):jn P ro rd fn (.block id x) e df G cr:=by
 refine .mk h.1 az λN hN F Z a w Q hF hi he hd hQ=>wpIn_block (h.wp hN hF hi he hd ?_);intro a1 w1 cO gP i1 l1 dt d1 p1;have:=hQ a1 w1 cO gP i1 l1 dt d1 p1;cases hc:cr.ex with
 |exit bY=>
  simp_all[Kt,aKZ]
 |_=>rw[hc]at this;exact this
def jn.region(h:xj P ro rd ao ao.toList e df G cr):jn P ro rd fn (.region id ao af) e df G cr:=by
 refine .mk h.1 az λN hN F Z a w Q hF hi he hd hQ=>wpIn_region ?_;have:=h.2 N hN F Z a w Q 0 az hF hi he hd hQ
 simp_all[Yo]
def xj.nil:xj P ro rd ao [] e df G ⟨.normal,e,df,G⟩:=
 ⟨XS _,λ_ _ _ Z a w _ _ _ _ hi he hd hQ=>hQ a w Z [] hi (Le.refl _ _ _ _) he hd trivial⟩
variable{l:aj YX}{d:DS}
def xj.cons(hn:G.n<=cr.G.n)(hw:bE o ao e=ab)
 (h:∀N,cr.G.n<=N->∀F Z a w Q k,ao.toList.drop (k+1)=l->mT F rd Z->Inv N Z G w->eg Z e a.tmps->oH Z df a.defers->xh N ro Z w G cr Q->
  o.wpIn F 0 P a w (wpOpsIn F 0 P ao Q (Ln (k+1) l.length)) Q):xj P ro rd ao (o::l) e df G cr:=by
 refine⟨hn,λN hN F Z a w Q k hl hF hi he hd hQ=>?_⟩
 have lh:ao.toList.drop (k+1)=l:=by
  rw[<-UF (i:=1) (j:=k),hl];rfl
 have bM:ao[k]?=aa o:=by
  have:(ao.toList.drop k)[0]?=aa o:=aI
  grind
 simp only[Zx,XA];rw[wpOpsIn_cons];unfold wpOpIn;rw[bM];simp only;rw[xI he,aW hw]
 grind
def xj.val{v:IV}{aG:St}(hw:bE o ao e=ab)(hv:aN P ro (aT e) o G=aa (.val v aG))(h:xj P ro rd ao l (e.put o.dst v) df aG cr):xj P ro rd ao (o::l) e df G cr:=by
 refine .cons (YE (oS hv) h.1) hw λN hN F Z a w Q k hl hF hi he hd hQ=>?_;have fY:=YE h.1 hN;exists λf _=>hF.fn f;rw[TU _ _ _ (lj hv az)];have⟨u,w',br,hr,h2,h3,h4⟩:=tx hi he.eval hv fY
 have key:=
  h.2 N hN F br _ w' Q (k+1) hl (hF.mono h4.ext) h3 ((he.mono h4.ext).put h2 _) (hd.mono h4.ext|>λx=>by cases o.dst<;>exact x) (hQ.from hi h4 fY)
 rcases hr with hr|⟨hr,rfl⟩
 all_goals simp_all[T9,aKr]
def xj.defer{d:Df}(hw:bE o ao e=ab)(hv:aN P ro (aT e) o G=aa (.dfr d))(h:xj P ro ah ao l (e.put o.dst .undef) (d::df) G cr):xj P ro ah ao (o::l) e df G cr:=by
 refine .cons h.1 hw λN hN F Z a w Q k hl hF hi he hd hQ=>?_
 have V7:F=Z9:=by
  rcases hF with⟨_,h2⟩|⟨_,_,h2,_⟩
  all_goals grind
 exists λf _=>hF.fn f;have⟨dd,hr,M9,c,hc⟩:=tx hi he.eval hv;have ais:(o.semAt F.round a.eval)=execOp a.eval o:=by rw[V7];rfl
 rw[ais,hr,Oper.uponIn_defer];refine h.2 N hN F Z _ w Q (k+1) hl hF hi ?_ ?_ hQ
 .cases gh:o.dst with
  |none=>exact he
  |some t=>exact he.set xg t
 .cases o.dst<;>exact⟨M9,hd⟩
inductive Pure:IV->Prop
 |raw (v:ZQ):Pure (.raw v)
 |agg (cs:List IV) (h:∀c∈cs,Pure c):Pure (.agg cs)
 |aU (cs:List IV) (h:∀c∈cs,Pure c):Pure (.aU cs)
 |emp:Pure .emp
 |eT (t:VK) (x:IV) (h:Pure x):Pure (.eT t x)
 |tree (s:Nat) (es:List IV) (h:∀e∈es,∀c∈aD e,Pure c):Pure (.tree s es)
 |fn (f:Fn) (as bs:List IV) (h:∀c∈as,Pure c) (h2:∀c∈bs,Pure c):Pure (.fn f as bs)
abbrev ll(M:Fz):Io:=⟨λ_ _=>ah,M⟩
variable{M:Fz}{x z:IV}{b:Nat}{aH:Bool}{u:ZQ}{w':Z0}{f:V4}
def Pure.rv(hp:Pure x):∀{v:ZQ},Rv Z x v->(∀b c,Z.m b=aa c->M b=aa c)->Rv (ll M) x v:=by
 induction hp with
 |raw v=>intro u h _;cases h;exact .raw v
 |agg cs _ ih=>intro u h hM;cases h with|agg _ vs hl hh=>exact .agg cs vs hl λi c v h1 h2=>ih c (ZU h1) (hh i c v h1 h2) hM
 |aU cs _ ih=>intro u h hM;cases h with|aU _ vs hl hh=>exact .aU cs vs hl λi c v h1 h2=>ih c (ZU h1) (hh i c v h1 h2) hM
 |emp=>intro u h _;cases h;exact .emp _
 |eT t x _ ih=>intro u h hM;cases h with|eT _ _ v hh=>exact .eT t x v (ih hh hM)
 |tree s es _ ih=>
  intro u h hM;cases h with
  |tree _ _ b ay c us hs hc cD hu hh=>exact .tree s es b ay c us hs hc cD (λk hk=>HX hM (hu k hk)) λi e j c h1 h2=>ih e (ZU h1) c (ZU h2) (hh i e j c h1 h2) hM
  |fL _ a c hs hn=>exact .fL s a c hs hn
 |fn f as bs _ _ ih jy=>
  intro u h hM;cases h with
  |fn _ _ _ cs ds hl hh jL uc=>exact .fn f as bs cs ds hl (λi c v h1 h2=>ih c (ZU h1) (hh i c v h1 h2) hM) jL λi c v h1 h2=>jy c (ZU h1) (uc i c v h1 h2) hM
inductive Can(fr:Bool)(G:St):IV->IV->Prop
 |raw (v:ZQ):Can fr G (.raw v) (.raw v)
 |nil (s:Nat) (hs:0<s):Can fr G (.raw (.slice ah 0 0)) (.tree s [])
 |emp (s:Nat) (hs:0<s):Can fr G .emp (.tree s [])
 |eT (t:VK) (x y:IV) (h:Can fr G x y):Can fr G (.eT t x) (.eT t y)
 |agg (cs ds:List IV) (hl:cs.length=ds.length) (h:∀(i:Nat) c d,cs[i]?=aa c->ds[i]?=aa d->Can fr G c d):Can fr G (.agg cs) (.agg ds)
 |aU (cs ds:List IV) (hl:cs.length=ds.length) (h:∀(i:Nat) c d,cs[i]?=aa c->ds[i]?=aa d->Can fr G c d):Can fr G (.aU cs) (.aU ds)
 |pure (x:IV) (hf:fr=ab) (hp:Pure x):Can fr G x x
 |fL (s:Nat):Can fr G (.tree s []) (.tree s [])
 |sl (id ay len:Nat) (cap:Option Nat) (ep s:Nat) (cs:List IV) (aV mn:Nat) (es:List IV) (bx:G.at id=aa (.cells cs aV mn)) (h1:mn<=ep) (h2:ep<=aV) (hl:es.length=len) (hb:ay+len*s<=cs.length)
   (cD:∀e∈es,(aD e).length=s) (h:∀(i:Nat) e (j:Nat) c d,es[i]?=aa e->(aD e)[j]?=aa d->cs[ay+i*s+j]?=aa c->Can fr G c d):Can fr G (.sl id ay len cap ep s) (.tree s es)
def Can.rv{fr:Bool}(hi:Inv N Z G w)(hM:∀b c el,w.heap[b]?=aa (.cells c el (0,0))->(∃id,Own Z id b)->M b=aa c)(hm:fr=ab->∀b c,Z.m b=aa c->M b=aa c)
 (h:Can fr G x z):∀{u:ZQ},Rv Z x u->Rv (ll M) z u:=by
 induction h with
 |raw v=>intro u h;cases h;exact .raw v
 |nil s hs=>intro u h;cases h;exact .fL s ah 0 hs λ_=>rfl
 |emp s hs=>intro u h;cases h;exact .fL s _ 0 hs λ_=>rfl
 |eT t x y _ ih=>intro u h;cases h with|eT _ _ v hh=>exact .eT t y v (ih hh)
 |agg cs ds hl _ ih=>
  intro u h;cases h with
  |agg _ vs dq hh=>
   refine .agg ds vs (hl▸dq) λi d v h1 h2=>?_;have cX:i<cs.length:=by have:=(Z5.1 h1).1;omega
   exact ih i _ d (UN cX) h1 (hh i _ v (UN cX) h2)
 |aU cs ds hl _ ih=>
  intro u h;cases h with
  |aU _ vs dq hh=>
   refine .aU ds vs (hl▸dq) λi d v h1 h2=>?_;have cX:i<cs.length:=by have:=(Z5.1 h1).1;omega
   exact ih i _ d (UN cX) h1 (hh i _ v (UN cX) h2)
 |pure x hf hp=>intro u h;exact hp.rv h (hm hf)
 |fL s=>
  intro u h;cases h with
  |tree _ _ b ay c us hs hc cD hu hh=>exact .fL s _ c hs az
  |fL _ a c hs hn=>exact .fL s a c hs hn
 |sl id ay len cap ep s cs aV mn es bx h1 h2 hl hb cD _ ih=>
  intro u h;cases h with
  |sl _ _ _ _ _ _ l c a dq hn mR hs hle mS ha=>
   have⟨⟨_,_⟩,_,Q9⟩:=hi.obj id _ bx;have⟨l',ca,el,jL,Cc,acI,avO,lX⟩:=Q9 ep h1 h2;rw[dq]at jL;cases jL;have hMb:=hM _ _ _ acI ⟨id,ep,l,dq,rfl⟩;subst hl;by_cases he:es=[]
   .subst he;exact .fL s (aa a) c hs az
   .have s_:0<es.length:=by cases es with|nil=>exact bH rfl he|cons=>simp
    have Kj:=ha ak;subst Kj;refine .tree s es l.b ay c (λk=>ca.getD (ay+k) ZL) hs hle cD (λk hk=>?_) λi e j d ew we=>?_
    .have⟨x,hx⟩:∃x,cs[ay+k]?=aa x:=⟨_,UN ak⟩;have⟨v,hv,_⟩:=lX (ay+k) x ak hx;show(M l.b).bind _=_;rw[hMb];simp[hv]
    .have cX:=(Z5.1 ew).1;have tj:j<s:=by have:=(Z5.1 we).1;rw[cD e (ZU ew)]at this;exact this
     have hmul:i*s+s<=es.length*s:=by
      have:(i+1)*s<=es.length*s:=XX s cX;rw[Nat.add_mul]at this;omega
     have⟨x,hx⟩:∃x,cs[ay+i*s+j]?=aa x:=⟨_,UN ak⟩;have⟨v,hv,hr⟩:=lX (ay+i*s+j) x ak hx;have:=ih i e j x d ew we hx hr;simp only[Ti];rw[show ay+(i*s+j)=ay+i*s+j by omega,hv];exact this
def zz(M:Fz)(w:Z0):Prop:=∀b c,M b=aa c->∃e f,w.heap[b]?=aa (.cells c e f)
def zz.lt(h:zz M w)(hb:M b=aa c):b<w.heap.size:=by
 have⟨e,f,hh⟩:=h b c hb
 grind
def Q_(aH:Bool)(M:Fz)(w:Z0)(z:IV)(u:ZQ)(w':Z0):Prop:=
 ∃M',zz M' w'/\(∀b c,M' b=aa c->(aH=af/\M b=aa c)\/w.heap.size<=b)/\(aH=af->∀b c,M b=aa c->M' b=aa c)/\Rv (ll M') z u/\
  w'.os=w.os/\w'.tape=w.tape/\w'.output=w.output/\w.heap.size<=w'.heap.size/\∀b,b<w.heap.size->w'.heap[b]?=w.heap[b]?
def aA1(dh aH:Bool)(M:Fz)(w:Z0)(z:IV):Ending->Z0->Prop
 |.returned u,w'=>dh=af/\Q_ aH M w z u w'
 |.panicked ch,w'=>dh=ab/\∃u,ch=[{v:=u,recovered:=af}]/\Q_ aH M w z u w'
 |.outgrown,_=>False
def fe(P:V5)(dh aH:Bool)(f:V4)(xs:aj IV)(z:IV):Prop:=
 ∀M w us,zz M w->bu (ll M) xs us->CallsIn Z9 0 P f us.toArray w (aA1 dh aH M w z)
def Ra(hM:zz M w):Inv N (ll M) ⟨0,.lf⟩ w:=
 ⟨hM,λ_ _ _ _ h=>(by have⟨_,_,h,_⟩:=h;cases h),λ_ _ h=>(by have⟨_,_,h,_⟩:=h;cases h),λ_ _ _ _=>rfl,λ_ _ _ h=>(by have⟨_,_,h,_⟩:=h;cases h),λ_ _ h=>(by cases h),λ_ _=>rfl⟩
def xk(aH:Bool)(M:Fz)(w w':Z0):Fz:=λb=>
 if b<w.heap.size then(if aH then ah else M b)else match w'.heap[b]? with
  |some (.cells c _ _)=>aa c
  |_=>ah
def aan(hM:zz M w)(hc:Can (!aH) aB v z)(hu:Rv Z v u)(hi:Inv N Z aB w')(hl:Le 0 (ll M) w ⟨0,.lf⟩ Z w' aB):Q_ aH M w z u w':=by
 have Bb:=λb hb=>hl.frame b hb λid ho=>(by have⟨_,_,h,_⟩:=ho;cases h);refine⟨xk aH M w w',?_,?_,?_,?_,hl.os,hl.tape,hl.output,hl.size,Bb⟩
 .intro b c hb;unfold xk at hb;split at hb
  .rename_i aq;split at hb
   .cases hb
   .rw[Bb b aq];exact hM b c hb
  .split at hb
   .rename_i c' e f hh;cases hb;exact⟨e,f,hh⟩
   .cases hb
 .intro b c hb;unfold xk at hb;split at hb
  .split at hb
   .cases hb
   .rename_i hn;exact .inl ⟨by simpa using hn,hb⟩
  .exact .inr ak
 .intro hn b c hb;have aq:=hM.lt hb;unfold xk;rw[aW aq,aY (by simp[hn])];exact hb
 .refine hc.rv hi ?_ ?_ hu
  .intro b c el hh ho;have⟨id,ho⟩:=ho;rcases hl.own id b ho with ho|Wq
   .have⟨_,_,h,_⟩:=ho;cases h
   .unfold xk;rw[aY ak,hh]
  .intro hn b c hb;have mD:aH=af:=by simpa using hn
   rcases hl.zM b c hb with ua|Wq
   .have aq:=hM.lt ua;unfold xk;rw[aW aq,aY (by simp[mD])];exact ua
   .have⟨e,f,hh⟩:=hi.mem b c hb;unfold xk;rw[aY ak,hh]
variable{xs av:aj IV}
def fe.of(h:kK P 0 f xs ⟨0,.lf⟩ v aB)(hc:Can (!aH) aB v z):fe P af aH f xs z:=by
 intro M w us hM hr;refine(h.2 aB.n (XS _) (ll M) us w (Ra hM) hr).mono λe w' hR=>?_;cases e with
 |returned u=>
  have⟨br,h1,h2,h3⟩:=hR;exact⟨rfl,aan hM hc h1 h2 h3⟩
 |panicked ch=>cases hR
 |outgrown=>assumption
def Rb(hi:Inv N Z G w)(hM:aH=af->∀b c,Z.m b=aa c↔M b=aa c)(h:Q_ aH M w z u w'):∃br,Rv br z u/\Inv N br G w'/\Le ro Z w G br w' G:=by
 have⟨M',h1,h2,h3,h4,h5,h6,h7,h8,h9⟩:=h;have hm:zz Z.m w:=hi.mem
 have hold:∀b c,Z.m b=aa c->(λb=>if b<w.heap.size then Z.m b else M' b) b=aa c:=by
  intro b c hb;simp only[aW (hm.lt hb)];omega
 have aA2:∀b c,M' b=aa c->(λb=>if b<w.heap.size then Z.m b else M' b) b=aa c:=by
  grind
 have jE:Ext Z ⟨Z.f,λb=>if b<w.heap.size then Z.m b else M' b⟩:=⟨λ_ _ _ h=>h,hold⟩;refine⟨⟨Z.f,λb=>if b<w.heap.size then Z.m b else M' b⟩,h4.mono ⟨λ_ _ _ h=>(by cases h),aA2⟩,⟨?_,?_,?_,hi.fresh,hi.inj,?_,hi.wf⟩,⟨jE,λ_ _ h=>.inl h,λ_ _ _ _=>rfl,λ_ h _=>h,λ_ _ _=>rfl,XS _,h5,h6,h7,h8,λb hb _=>h9 b hb,?_⟩⟩
 .intro b c hb;simp only at hb;split at hb
  .have⟨e,f,hh⟩:=hi.mem b c hb
   grind
  .exact h1 b c hb
 .intro b c id hb ho;simp only at hb;split at hb
  .exact hi.sep b c id hb ho
  .rename_i Wq;exact Wq (hi.iO id b ho)
 .intro id b ho;exact Zu (hi.iO id b ho) h8
 .intro id o ho;exact(hi.obj id o ho).keep jE (λ_=>rfl) λb hb=>h9 b (hi.iO id b hb)
 grind
def Rc(fr:Bool)(G:St)(cs ds:aj IV):Prop:=cs.length=ds.length/\∀(i:Nat) c d,cs[i]?=aa c->ds[i]?=aa d->Can fr G c d
def allM(w:Z0):Fz:=λb=>match w.heap[b]? with
 |some (.cells c _ _)=>aa c
 |_=>ah
def aao{e:VK}{f:Nat×Nat}(h:w.heap[b]?=aa (.cells c e f)):allM w b=aa c:=by unfold allM;rw[h]
def Re:zz (allM w) w:=by
 intro b c hb
 grind [allM]
def Rc.rv{zs:aj IV}{us:aj ZQ}(hc:Rc ab G xs zs)(hi:Inv N Z G w)(h:bu Z xs us):bu (ll (allM w)) zs us:=by
 refine⟨hc.1▸h.1,λi z u h1 h2=>?_⟩;have cX:i<xs.length:=by have:=(Z5.1 h1).1;have:=hc.1;omega
 refine(hc.2 i _ z (UN cX) h1).rv hi (λb c el hh _=>aao hh) (λ_ b c hb=>?_) (h.2 i _ u (UN cX) h2);have⟨e,f,hh⟩:=hi.mem b c hb;exact aao hh
def fe.UY(h:fe P af ab f xs z)(hc:Rc ab G av xs):kK P ro f av G z G:=by
 refine⟨XS _,λN hN Z us w hi hr=>?_⟩;refine(h (allM w) w us Re (hc.rv hi hr)).mono λe w' hR=>?_;cases e with
 |returned u=>exact Rb hi (λhn=>aI) hR.2
 |panicked ch=>exact bH hR.1 az
 |outgrown=>assumption
def fV(av:aj IV)(n:Nat):aK:=av.zipIdx.foldl (λe (v,i)=>e.put (aa i) v) ⟨n,.lf⟩
section body
def aap:gg P Self.none/\cG Self.none:=
 ⟨⟨λ_ _ _ _ _ _ _ h=>(by cases h),λ_ _ _ _ _ _ _ h=>(by cases h),λ_ _ _ _ _ _ _ _ h=>(by cases h),λ_ _ _ _ _ _ _ h=>(by cases h)⟩,⟨λ_ _ _ _ _ _ h=>(by cases h),λ_ _ _ _ _ _ h=>(by cases h),λ_ _ _ _ _ _ _ h=>(by cases h)⟩⟩
end body
namespace T
variable{B:Type}
inductive WF:T B->Prop
 |lf:WF .lf
 |nd (l:T B) (v:Option B) (r:T B) (hl:WF l) (hr:WF r) (h:v.isSome=ab\/(∃i,(l.get i).isSome=ab)\/∃i,(r.get i).isSome=ab):WF (.nd l v r)
theorem aHU(l:T B)(v:aF B)(r:T B)(i:Nat):(T.nd l v r).get (2*i+1)=l.get i:=by
 grind [G0]
theorem ac_(l:T B)(v:aF B)(r:T B)(i:Nat):(T.nd l v r).get (2*i+2)=r.get i:=by
 simp_all[G0]
theorem aJR(l:T B)(v:aF B)(r:T B):(T.nd l v r).get 0=v:=by rfl
def WF.key{l:T B}{v:aF B}{r:T B}(h:WF (.nd l v r)):∃i,((T.nd l v r).get i).isSome=ab:=by
 cases h with
 |nd _ _ _ _ _ h=>
  rcases h with h|⟨i,h⟩|⟨i,h⟩
  .grind [aJR]
  .exact⟨2*i+1,by simp_all[aHU]⟩
  .exact⟨2*i+2,by simp_all[ac_]⟩
def WF.ext:∀{t t':T B},WF t->WF t'->(∀i,t.get i=t'.get i)->t=t'
 |.lf,.lf,_,_,_=>rfl
 |.lf,.nd l v r,_,h',he=>by
  have⟨i,hi⟩:=h'.key;rw[<-he i]at hi;cases hi
 |.nd l v r,.lf,h,_,he=>by
  have⟨i,hi⟩:=h.key
  simp_all
 |.nd l v r,.nd l' v' r',.nd _ _ _ hl hr _,.nd _ _ _ dq tn _,he=>by
  have e0:v=v':=by grind [aJR]
  have e1:=hl.ext dq λi=>by have:=he (2*i+1);grind [aHU]
  have e2:=hr.ext tn λi=>by have:=he (2*i+2);grind [ac_]
  grind
def anJ:∀(f:Nat) (t:T B) (i:Nat) (x:B),i<f->WF t->WF (w_ f t i x):=by
 intro f;induction f with
 |zero=>simp
 |succ f ih=>
  intro t i x h hw
  have key:∀(l:T B) (v:aF B) (r:T B),WF l->WF r->WF (w_ (f+1) (.nd l v r) i x):=by
   intro l v r hl hr;rw[aad];by_cases hi:i=0
   .rw[aW hi];exact .nd _ _ _ hl hr (.inl rfl)
   .rw[aY hi];by_cases ho:i % 2=1
    .rw[aW ho];exact .nd _ _ _ (ih _ _ _ ak hl) hr (.inr (.inl ⟨i/2,by rw[NH _ _ _ _ _ ak,aW rfl];rfl⟩))
    .rw[aY ho];exact .nd _ _ _ hl (ih _ _ _ ak hr) (.inr (.inr ⟨i/2- 1,by rw[NH _ _ _ _ _ ak,aW rfl];rfl⟩))
  cases t with
  |lf=>simp_all[aae]
  |nd l v r=>cases hw with|nd _ _ _ hl hr _=>grind
def WF.set{t:T B}(h:WF t)(i:Nat)(x:B):WF (t.set i x):=anJ _ _ _ _ ak h
end T
def Nc(G:St):jK->Prop
 |.val _ aB=>G.t.WF->aB.t.WF
 |_=>True
variable{out:jK}{ob:Ob}
def Hc(hle:G.t.WF->aB.t.WF)(h:ret v aB=aa out):Nc G out:=by rw[bK h];exact hle
def aaq(h:ret v G=aa out):Nc G out:=Hc (λh=>h) h
def afv(h:ret v (G.put id ob)=aa out):Nc G out:=Hc (aB:=G.put id ob) (λh=>h.set _ _) h
def anK{bY:Nat}{gO:Ob}(h:ret v ((G.put id ob).put bY gO)=aa out):Nc G out:=Hc (aB:=(G.put id ob).put bY gO) (λh=>(h.set _ _).set _ _) h
def afw(h:ret v (G.add ob)=aa out):Nc G out:=Hc (λh=>h.set _ _) h
def aHd{kt:VK}{m k:IV}(h:sB P ro kt m k v G=aa aB):G.t.WF->aB.t.WF:=by
 unfold sB at h
 repeat' split at h
 all_goals first|grind|(cases h;exactλh=>h.set _ _)
def afx{f:IV}(h:kA P f av=aa out):Nc G out:=by
 unfold kA at h
 repeat' split at h
 all_goals first|grind|(cases h;exact trivial)
variable{argTypes:Array VK}
def afy{s:IV}(h:oP P ro argTypes s x G=aa out):Nc G out:=by
 have hn:∀{size bV n:Nat} {aH:aj IV} {s:IV},iY size bV n aH s G=aa out->Nc G out:=by
  intro size bV n aH s h;unfold iY at h;split at h
  .split at h
   .exact afw h
   grind
  grind
 unfold oP at h;split at h
 .split at h
  .split at h
   .split at h<;>try cases h
    split at h
    .split at h
     .unfold gH at h
      repeat' split at h
      all_goals first|exact aaq h|exact afv h|exact anK h|grind|cases h
     grind
    grind
   grind
  grind
 grind
variable{b:Builtin}
def acJ(h:gI P ro b argTypes av G=aa out):Nc G out:=by
 unfold gI at h;split at h
 .split at h
  .exact afy h
  grind
 .split at h
  .rw[Lq]at h;obtain⟨z,_,rfl⟩:=h;exactλh=>h
  grind
 .split at h
  .rw[Lq]at h;obtain⟨z,_,rfl⟩:=h;exactλh=>h
  grind
 .rw[Lq]at h;obtain⟨z,_,rfl⟩:=h;exactλh=>h
 grind
variable{Y:Xs->IV}{R:aF Nat}
def aqg(h:aN P ro Y o G=aa out):Nc G out:=by
 unfold aN at h;cases ho:o.op<;>rw[ho]at h<;>(try dsimp only at h)
 case call c=>
  split at h
  .exact acJ h
  .exact afx h
  grind
 case defer c=>
  split at h
  .split at h
   .cases h;exact trivial
   grind
  grind
 case mapUpdate=>
  split at h
  .split at h
   .rename_i aB hs;exact Hc (aHd hs) h
   grind
  grind
 case insert=>
  split at h
  .split at h
   .rename_i aB hs;exact Hc (aHd hs) h
   grind
  grind
 all_goals (repeat' split at h)
 all_goals first|exact aaq h|exact afv h|exact afw h|grind|(cases h;exact trivial)
def acL(h:aN P ro Y o G=aa (.val v aB))(hw:G.t.WF):aB.t.WF:=aqg h hw
def Bc(hk:dD o=.pure)(h:aN P ro Y o G=aa (.val v aG)):aG=G/\∀ja aB,aN P ja Y o aB=aa (.val v aB):=by
 unfold dD at hk;unfold aN at h⊢;cases ho:o.op<;>rw[ho]at h hk<;>(try dsimp only at h hk⊢)<;>(try grind)
 case call c=>
  have⟨callee,argTypes,av⟩:=c;cases callee with
  |builtin b=>
   cases b<;>simp only at hk<;>(try grind)
   all_goals
    simp only[gI]at h⊢
    first
    |grind
    |(rw[Lq]at h
      grind)
    |(split at h
      .rw[Lq]at h
       grind
      grind)
  |value f=>grind
  |invoke r m=>grind
 all_goals (repeat' split at h)
 all_goals simp_all[ret]
def Be(hk:dD o=.load)(h:aN P ro Y o G=aa (.val v aG)):aG=G/\∀ja,aN P ja Y o G=aa (.val v G):=by
 unfold dD at hk;unfold aN at h⊢;cases ho:o.op<;>rw[ho]at h hk<;>(try dsimp only at h hk⊢)<;>(try grind)
 case call c=>
  have⟨callee,argTypes,av⟩:=c;cases callee with
  |builtin b=>
   cases b<;>simp only at hk<;>(try grind);simp only[gI]at h⊢;split at h
   .rw[Lq]at h
    grind
   grind
  |value f=>grind
  |invoke r m=>grind
 all_goals (repeat' split at h)
 all_goals simp_all[ret]
theorem aqh(G:St)(ob:Ob):(St.add ⟨G.n,.lf⟩ ob)=⟨(G.add ob).n,T.lf.set G.n ob⟩:=rfl
def aIV(hk:dD o=.alloc)(h:aN P ro Y o G=aa (.val v aG)):
 ∃t,(∀ja,aN P ja Y o ⟨G.n,.lf⟩=aa (.val v ⟨aG.n,t⟩))/\((aG=G/\t=.lf)\/∃ob,aG=G.add ob/\t=T.lf.set G.n ob):=by
 unfold dD at hk;unfold aN at h⊢;cases ho:o.op<;>rw[ho]at h hk<;>(try dsimp only at h hk⊢)<;>(try (cases hk;done))
 case call c=>
  grind
 all_goals (repeat' split at h)
 all_goals grind [ret,aqh]
def aHn{as:aj IV}(h:gI P ro b argTypes av G=aa (.enter f as)):False:=by
 unfold gI at h;split at h
 .split at h
  .have⟨_,_,he⟩:=aHj h;grind
  grind
 all_goals grind [Lq]
def Ig(h:aN P ro Y o G=aa (.enter f av)):∀ja aB,aN P ja Y o aB=aa (.enter f av):=by
 intro ja aB;unfold aN at h⊢;cases ho:o.op<;>rw[ho]at h<;>(try dsimp only at h⊢)
 case call c=>
  split at h
  .exact(aHn h).elim
  all_goals omega
 case defer c=>
  omega
 all_goals (repeat' split at h)
 all_goals cases h
open Classical in
@[reducible] noncomputable def aqi:Sm:=⟨λu v=>decide (u=v),λ_ _ h=>of_decide_eq_true h⟩
attribute [local instance] aqi
open Classical in
noncomputable def vP(R:aF Nat)(f:V4)(av:aj IV)(G:St)(v:IV)(aG:St):Self where
 code:=λ_ _ _ _ _ _ _=>ah
 call:=λja f' a' aB=>if(R=ah\/R=aa ja)/\f'=f/\a'=av/\aB=G then aa (v,aG)else ah
 dh:=λ_ _ _ _=>ah
 Ca:=λ_ _ _ _ _=>ah
def pS(P:V5)(U:Self):Prop:=kC P U 0/\gg P U/\c9 U/\cG U
def sX:pS P Self.none:=
 ⟨λ_ _ _ _ _ _ _ _ _ h=>(by cases h),(aap (P:=P)).1,λ_ _ _ _ _ _ _ _ h=>(by cases h),(aap (P:=P)).2⟩
def aG9(h:∀ro,(R=ah\/R=aa ro)->kK P ro f av G v aG){ja:Nat}{f':V4}{a':aj IV}{v':IV}{dJ:St}
 (hc:(vP R f av G v aG).call ja f' a' aB=aa (v',dJ)):kK P ja f' a' aB v' dJ:=by
 simp_all[vP]
def yq(h:∀ro,(R=ah\/R=aa ro)->kK P ro f av G v aG):pS P (vP R f av G v aG):=
 ⟨λ_ _ _ _ _ _ _ _ _ h=>(by cases h),⟨λN _ _ _ _ _ _ hc hN=>(aG9 h hc).2 N hN,λ_ _ _ _ _ _ _ h=>(by cases h),λ_ _ _ _ _ _ _ _ h=>(by cases h),λ_ _ _ _ _ _ _ h=>(by cases h)⟩,
  λ_ _ _ _ _ _ _ _ h=>(by cases h),⟨λ_ _ _ _ _ _ hc=>(aG9 h hc).1,λ_ _ _ _ _ _ h=>(by cases h),λ_ _ _ _ _ _ _ h=>(by cases h)⟩⟩
def Hd(o:YX):Bool:=
 match o.op with
 |.call {callee:=.value _,.. }=>ab
 |_=>af
def Ff(ao:Array YX)(pl:fK):Bool:=
 ao.toList.zipIdx.all λ(o,j)=>
  (match pl.kinds.getD j .effect with
   |.call=>Hd o&&dD o==.call
   |.effect=>ab
   |k=>dD o==k)&&
  (pl.kinds.getD j .effect==.pure||ao.toList.zipIdx.all λ(_,i)=> !UO i j||RD (pl.dp.getD j 0) i||
   (match pl.kinds.getD i .effect with
    |.alloc|.effect=>af
    |.load=> !(pl.kinds.getD j .effect==.effect)
    |_=>ab))
inductive jb(P:V5)(ro:Nat)(ao:Array YX)(pl:fK)(fr:Bool):List (YX×Nat)->aK->St->aK->St->Prop
 |nil (e:aK) (G:St):jb P ro ao pl fr [] e G e G
 |skip {o:YX} {j:Nat} {l:List (YX×Nat)} {e:aK} {G:St} {e':aK} {aB:St} (hw:bE o ao e=af) (h:jb P ro ao pl fr l (e.put o.dst .undef) G e' aB):jb P ro ao pl fr ((o,j)::l) e G e' aB
 |val {o:YX} {j:Nat} {l:List (YX×Nat)} {e:aK} {G:St} {e':aK} {aB:St} {v:IV} {aG:St} (hw:bE o ao e=ab) (hv:aN P ro (aT e) o G=aa (.val v aG)) (h:jb P ro ao pl fr l (e.put o.dst v) aG e' aB):jb P ro ao pl fr ((o,j)::l) e G e' aB
 |UZ {o:YX} {j:Nat} {l:List (YX×Nat)} {e:aK} {G:St} {e':aK} {aB:St} {f:V4} {av:List IV} {v:IV} (hw:bE o ao e=ab) (hv:aN P ro (aT e) o G=aa (.enter f av)) (hc:∀ro,kK P ro f av G v G)
   (h:jb P ro ao pl fr l (e.put o.dst v) G e' aB):jb P ro ao pl fr ((o,j)::l) e G e' aB
 |call {o:YX} {j:Nat} {l:List (YX×Nat)} {e:aK} {G:St} {e':aK} {aB:St} {f:V4} {av:List IV} {v:IV} {aG:St} (hk:bX pl j=.effect) (hw:bE o ao e=ab) (hv:aN P ro (aT e) o G=aa (.enter f av))
   (hc:kK P ro f av G v aG) (nV:G.t.WF->aG.t.WF) (h:jb P ro ao pl fr l (e.put o.dst v) aG e' aB):jb P ro ao pl fr ((o,j)::l) e G e' aB
 |acM {o:YX} {j:Nat} {l:List (YX×Nat)} {e:aK} {G:St} {e':aK} {aB:St} {f:V4} {av:List IV} {v:IV} {ob:Ob} (hq:fr=ab) (hw:bE o ao e=ab) (hv:aN P ro (aT e) o G=aa (.enter f av))
   (hc:∀ro,kK P ro f av G v (G.add ob)) (h:jb P ro ao pl fr l (e.put o.dst v) (G.add ob) e' aB):jb P ro ao pl fr ((o,j)::l) e G e' aB
def Ih(h:Ff ao pl=ab)(ho:(o,j)∈ao.toList.zipIdx):
 (bX pl j≠.call->bX pl j≠.effect->dD o=bX pl j)/\(bX pl j=.call->Hd o=ab)/\
 (bX pl j≠.pure->∀p i,(p,i)∈ao.toList.zipIdx->i<j->(bX pl i=.alloc\/bX pl i=.effect\/(bX pl i=.load/\bX pl j=.effect))->RD (pl.dp.getD j 0) i=ab):=by
 have h1:=US.1 h (o,j) ho;simp only[VM,P6]at h1;have⟨h1,h2⟩:=h1;refine⟨λhc he=>?_,λhc=>?_,λhp p i hi aq hk=>?_⟩
 .unfold bX at hc he⊢
  grind
 .unfold bX at hc
  grind
 .rcases h2 with h2|h2
  .simp_all[bX]
  .have h3:=US.1 h2 (p,i) hi;simp only[P6]at h3;rcases h3 with(h3|h3)|h3
   .rw[VH,<-Bool.not_eq_true,Nat.blt_eq]at h3;omega
   .omega
   .unfold bX at hk
    grind
def oU(b:T Ob)(p:Piece)(h:p.hi<=p.lo):e_ b p=b:=by
 simp_all[e_]
def CB{b:T Ob}(h:b.WF)(p:Piece):(e_ b p).WF:=by
 unfold e_;generalize Ln p.lo (p.hi- p.lo)=l;induction l generalizing b with
 |nil=>exact h
 |cons id l ih=>
  simp only[Zv];refine ih ?_;split
  .exact h.set _ _
  omega
def oV:∀(l:aj Piece) {b:T Ob},b.WF->(l.foldl e_ b).WF
 |[],_,h=>h
 |p::l,_,h=>oV l (CB h p)
variable{f:Piece->Bool}{SF:Nat->Self}
def yr:∀(l:aj Piece) (b:T Ob),(∀p∈l,f p=ab\/p.hi<=p.lo)->(l.filter f).foldl e_ b=l.foldl e_ b
 |[],_,_=>rfl
 |p::l,b,h=>by
  have ht:=λq hq=>h q (Ys _ hq);rw[aKs];by_cases hf:f p=ab
  .rw[aW hf];exact yr l _ ht
  .rw[aY hf,Zv,oU b p ((h p (W_ ..)).resolve_left hf)];exact yr l b ht
def Fg:∀(l:aj Piece) (b:T Ob),(∀p∈l,f p=ab->p.hi<=p.lo)->(l.filter f).foldl e_ b=b
 |[],_,_=>rfl
 |p::l,b,h=>by
  have ht:=λq hq=>h q (Ys _ hq);rw[aKs];by_cases hf:f p=ab
  .rw[aW hf,Zv,oU b p (h p (W_ ..) hf)];exact Fg l b ht
  .rw[aY hf];exact Fg l b ht
def Fh:∀(l:aj Piece) (b1 b2:T Ob),(∀p∈l,p.hi<=n)->(∀id,b1.get id=(b2.set n ob).get id)->∀id,(l.foldl e_ b1).get id=((l.foldl e_ b2).set n ob).get id
 |[],b1,b2,_,h,id=>h id
 |p::l,b1,b2,hp,h,id=>by
  refine Fh l _ _ (λq hq=>hp q (Ys _ hq)) (λid=>?_) id;have hpn:=hp p (W_ ..);rw[oJ,T.jS,oJ,h id,T.jS]
  grind
structure DY(pl:fK)(j:Nat)(d:DS)(e:aK)(G:St):Prop where
 e:d.e=e
 n:d.n=G.n
 bs:∃i b aE,d.bs=(i,b)::aE/\(aE=[]\/(i<j/\bX pl i=.effect))/\d.bz.foldl e_ b=G.t/\b.WF
 bz:∀p∈d.bz,(p.hi<=p.lo\/(p.j<j/\bX pl p.j=.alloc))/\p.hi<=d.n
def Rf{ao:Array YX}{b:T Ob}(hs:DY pl j d e G)(fq:d.bz.foldl e_ b=G.t)
 (oe:∀i,i<j->(bX pl i=.alloc\/bX pl i=.effect)->RD (pl.dp.getD j 0) i=ab):seen d.bz (pl.dp.getD j 0) b=G.t:=by
 unfold seen;rw[yr _ _ λp hp=>?_,fq];rcases(hs.bz p hp).1 with h|⟨h1,h2⟩
 all_goals grind
def aIl(h:Hd o=ab)(hv:aN P ro Y o G=aa (.val v aG)):False:=by
 unfold Hd at h;split at h
 .rename_i f a b fU;simp only[aN]at hv;unfold kA at hv
  grind
 grind
def u5{f:V4}(h:aN P ro Y o G=aa (.enter f av)):dD o=.call\/dD o=.effect:=by
 unfold aN at h;unfold dD;cases ho:o.op<;>rw[ho]at h<;>(try dsimp only at h⊢)
 case call c=>
  have⟨callee,argTypes,av⟩:=c;cases callee with
  |builtin b=>exact(aHn h).elim
  |value f=>simp
  |invoke r m=>simp
 case defer c=>
  simp
 all_goals (repeat' split at h)
 all_goals cases h
theorem NV(hs:DY pl j d e G)(hk:bX pl j=.effect)(hw:bE o ao e=ab)
 (kL:∀p i,(p,i)∈ao.toList.zipIdx.take j->(p,i)∈ao.toList.zipIdx/\i<j)
 (oe:∀i,i<j->(bX pl i=.alloc\/bX pl i=.effect\/(bX pl i=.load/\bX pl j=.effect))->RD (pl.dp.getD j 0) i=ab)
 (hx:nb P U ro e o G=aa (v,aG))(nV:aG.t.WF)(hn:G.n<=aG.n):∃d1,c8 P U pl ro ao o j d=aa d1/\DY pl (j+1) d1 (e.put o.dst v) aG:=by
 have⟨i,b,aE,dL,fD,fq,ng⟩:=hs.bs;have qM:=Rf (ao:=ao) hs fq λi hi h=>oe i hi (h.imp id .inl);have bI:(⟨d.n,seen d.bz (pl.dp.getD j 0) b⟩:St)=G:=by rw[qM,hs.n]
 refine⟨⟨e.put o.dst v,aG.n,(j,aG.t)::d.bs,d.bz.filter λp=> !RD (pl.dp.getD j 0) p.j⟩,?_,⟨rfl,rfl,⟨j,aG.t,d.bs,rfl,.inr ⟨ak,hk⟩,?_,nV⟩,λp hp=>?_⟩⟩
 .unfold c8;rw[dL];simp only;rw[hs.e,hw,aW rfl];have er:pl.kinds.getD j .effect=.effect:=hk;rw[er];rw[bI,hx];simp only;rw[aW];unfold recheck;rw[US];rintro⟨p,q⟩ DZ;have⟨h5,h6⟩:=kL p q DZ;simp only;split
  .rename_i yf;rw[oe q h6 (.inr (.inr ⟨yf,hk⟩))];rfl
  .rfl
 .refine Fg _ _ λp hp hf=>?_;rcases(hs.bz p hp).1 with h|⟨h1,h2⟩
  all_goals grind
 .have xY:=(Qz.1 hp).1;have⟨h1,h2⟩:=hs.bz p xY
  grind
def aHK{uh:Nat->Self}:∀{l:aj (YX×Nat)} {d:DS},(∀o i,(o,i)∈l->SF i=uh i)->mq P SF pl ro ao l d=mq P uh pl ro ao l d
 |[],_,_=>rfl
 |(o,j)::l,d,h=>by
  unfold mq;rw[h o j (W_ ..)];split
  .exact aHK λo' i hi=>h o' i (Ys _ hi)
  .rfl
variable{l:aj (YX×Nat)}
def pT{d1 d':DS}(hU:pS P U)(hS:∀i,pS P (SF i))(h1:c8 P U pl ro ao o j d=aa d1)
 (h3:mq P SF pl ro ao l d1=aa d')(hl:∀o' i,(o',i)∈l->i≠j):∃uh,(∀i,pS P (uh i))/\mq P uh pl ro ao ((o,j)::l) d=aa d':=by
 refine⟨λi=>if i=j then U else SF i,λi=>?_,?_⟩
 .grind
 .unfold mq;simp only[if_true];rw[h1];rw[<-h3];exact aHK λo' i hi=>by grind
theorem acA(bM:Ff ao pl=ab)(h:jb P ro ao pl af l e G e' aB):
 ∀(k:Nat) (d:DS),ao.toList.zipIdx.drop k=l->DY pl k d e G->∃SF:Nat->Self,(∀i,pS P (SF i))/\∃d',mq P SF pl ro ao l d=aa d'/\d'.e=e'/\d'.n=aB.n/\∃i b aE,d'.bs=(i,b)::aE/\d'.bz.foldl e_ b=aB.t:=by
 have dE:∀{o:YX} {j:Nat} {l:aj (YX×Nat)} {k:Nat},ao.toList.zipIdx.drop k=(o,j)::l->(o,j)∈ao.toList.zipIdx/\j=k/\ao.toList.zipIdx.drop (k+1)=l/\
  (∀p i,(p,i)∈ao.toList.zipIdx.take j->(p,i)∈ao.toList.zipIdx/\i<j)/\(∀i,i<j->∃p,(p,i)∈ao.toList.zipIdx)/\∀o' i,(o',i)∈l->i≠j:=by
  intro o j l k h;have h1:(ao.toList.zipIdx.drop k)[0]?=aa (o,j):=aI;rw[Uv,T3]at h1;have h2:=ZU h1;have aq:=(Z5.1 h1).1;rw[aJT]at h1
  have hj:j=k:=by
   grind
  have E5:ao.toList.zipIdx.drop (k+1)=l:=by rw[<-UF (i:=1) (j:=k),h];rfl
  refine⟨h2,hj,E5,λp i hp=>⟨TC hp,?_⟩,λi hi=>?_,λo' i hi=>?_⟩
  .obtain⟨m,hm,he⟩:=S_ hp
   grind
  .rw[List.length_zipIdx]at aq;refine⟨ao.toList[i],ZU (i:=i) ?_⟩;simp
  .rw[<-E5]at hi;obtain⟨m,hm,he⟩:=S_ hi
   grind
 induction h with
 |nil e G=>
  intro k d _ hs;obtain⟨i,b,aE,h1,_,h3,_⟩:=hs.bs;exact⟨λ_=>Self.none,λ_=>sX,d,rfl,hs.e,hs.n,i,b,aE,h1,h3⟩
 | @skip o j l e G e' aB hw h ih=>
   intro k d hl hs;obtain⟨hm,rfl,hd,kL,cQ,aq⟩:=dE hl;obtain⟨jM,kW,oe⟩:=Ih bM hm;obtain⟨i,b,aE,dL,fD,fq,ng⟩:=hs.bs;have mV:∀p∈d.bz,(p.hi<=p.lo\/(p.j<j+1/\bX pl p.j=.alloc))/\p.hi<=d.n:=λp hp=>⟨(hs.bz p hp).1.imp id (λh=>⟨ak,h.2⟩),(hs.bz p hp).2⟩
   have key:∃U,pS P U/\∃d1,c8 P U pl ro ao o j d=aa d1/\DY pl (j+1) d1 (e.put o.dst .undef) G:=by
    refine⟨Self.none,sX,?_⟩;by_cases hk:bX pl j=.effect
    .refine⟨⟨d.e.put o.dst .undef,d.n,(j,b)::d.bs,d.bz⟩,?_,⟨by rw[hs.e],hs.n,⟨j,b,d.bs,rfl,.inr ⟨ak,hk⟩,fq,ng⟩,mV⟩⟩;unfold c8;rw[dL];simp only;rw[hs.e,hw,aY az];have er:pl.kinds.getD j .effect=.effect:=hk;rw[er];simp only;rw[aW];unfold recheck;rw[US];rintro⟨p,q⟩ DZ;obtain⟨h5,h6⟩:=kL p q DZ;simp only;split
     .rename_i yf;rw[oe (by rw[hk];simp) p q h5 h6 (.inr (.inr ⟨yf,hk⟩))];rfl
     .rfl
    .refine⟨{d with e:=d.e.put o.dst .undef},?_,⟨by rw[hs.e],hs.n,⟨i,b,aE,dL,fD.imp id (λh=>⟨ak,h.2⟩),fq,ng⟩,mV⟩⟩;unfold c8;rw[dL];simp only;rw[hs.e,hw,aY az];have er:pl.kinds.getD j .effect≠.effect:=hk;cases hq:pl.kinds.getD j .effect<;>first|contradiction|rfl
   obtain⟨U,hU,d1,h1,h2⟩:=key;obtain⟨SF,kD,d',h3,h4⟩:=ih (j+1) d1 hd h2;obtain⟨uh,h5,h6⟩:=pT hU kD h1 h3 aq;exact⟨uh,h5,d',h6,h4⟩
 | @val o j l e G e' aB v aG hw hv h ih=>
   intro k d hl hs;obtain⟨hm,rfl,hd,kL,cQ,aq⟩:=dE hl;obtain⟨jM,kW,oe⟩:=Ih bM hm;obtain⟨i,b,aE,dL,fD,fq,ng⟩:=hs.bs;have ui:G.t.WF:=fq▸oV _ ng;have mV:∀p∈d.bz,(p.hi<=p.lo\/(p.j<j+1/\bX pl p.j=.alloc))/\p.hi<=d.n:=λp hp=>⟨(hs.bz p hp).1.imp id (λh=>⟨ak,h.2⟩),(hs.bz p hp).2⟩
   have Fi:bX pl j≠.pure->∀i,i<j->(bX pl i=.alloc\/bX pl i=.effect\/(bX pl i=.load/\bX pl j=.effect))->RD (pl.dp.getD j 0) i=ab:=by
    intro hp i hi hk;obtain⟨p,qF⟩:=cQ i hi;exact oe hp p i qF hi hk
   have key:∃U,pS P U/\∃d1,c8 P U pl ro ao o j d=aa d1/\DY pl (j+1) d1 (e.put o.dst v) aG:=by
    refine⟨Self.none,sX,?_⟩;cases hk:bX pl j with
    |pure=>
     have lO:dD o=.pure:=by rw[jM (by rw[hk];simp) (by rw[hk];simp),hk]
     obtain⟨rfl,og⟩:=Bc lO hv;refine⟨{d with e:=d.e.put o.dst v},?_,⟨by rw[hs.e],hs.n,⟨i,b,aE,dL,fD.imp id (λh=>⟨ak,h.2⟩),fq,ng⟩,mV⟩⟩;unfold c8;rw[dL];simp only;rw[hs.e,hw,aW rfl];have er:pl.kinds.getD j .effect=.pure:=hk;rw[er];rw[og 0 ⟨0,.lf⟩];rfl
    |alloc=>
     have lO:dD o=.alloc:=by rw[jM (by rw[hk];simp) (by rw[hk];simp),hk]
     obtain⟨t,og,yb⟩:=aIV lO hv;refine⟨⟨d.e.put o.dst v,aG.n,d.bs,⟨j,d.n,aG.n,t⟩::d.bz⟩,?_,⟨by rw[hs.e],rfl,⟨i,b,aE,dL,fD.imp id (λh=>⟨ak,h.2⟩),?_,ng⟩,λp hp=>?_⟩⟩
     .unfold c8;rw[dL];simp only;rw[hs.e,hw,aW rfl];have er:pl.kinds.getD j .effect=.alloc:=hk;rw[er];rw[hs.n,og 0]
     .simp only[Zv];rcases yb with⟨rfl,rfl⟩|⟨ob,rfl,rfl⟩
      .rw[oU _ _ (by simp[hs.n]),fq]
      .refine T.WF.ext (oV _ (CB ng _)) (ui.set _ _) λid=>?_
       have:=Fh (n:=G.n) (ob:=ob) d.bz (e_ b ⟨j,d.n,(G.add ob).n,T.lf.set G.n ob⟩) b (λp hp=>by rw[<-hs.n];exact(hs.bz p hp).2) (λid=>by
        rw[oJ,T.jS,T.jS];simp only[hs.n,St.uY];by_cases hid:G.n=id
        .subst hid;simp
        .rw[aY ak,aY hid]) id
       rw[this,fq];rfl
     .rcases ZP.1 hp with rfl|hp
      .exact⟨.inr ⟨az,hk⟩,XS _⟩
      .obtain⟨h1,h2⟩:=mV p hp;exact⟨h1,by have:=oS hv;rw[hs.n]at h2;exact YE h2 this⟩
    |load=>
     have lO:dD o=.load:=by rw[jM (by rw[hk];simp) (by rw[hk];simp),hk]
     obtain⟨rfl,og⟩:=Be lO hv;have qM:=Rf (ao:=ao) hs fq λi hi h=>Fi (by rw[hk];simp) i hi (h.imp id .inl);have bI:(⟨d.n,seen d.bz (pl.dp.getD j 0) b⟩:St)=aG:=by rw[qM,hs.n]
     refine⟨{d with e:=d.e.put o.dst v},?_,⟨by rw[hs.e],hs.n,⟨i,b,aE,dL,fD.imp id (λh=>⟨ak,h.2⟩),fq,ng⟩,mV⟩⟩;unfold c8;rw[dL];simp only;rw[hs.e,hw,aW rfl];have er:pl.kinds.getD j .effect=.load:=hk;rw[er];rw[bI,og d.n];simp only;rw[aW];refine⟨hs.n.symm,?_⟩;rcases fD with rfl|⟨h1,h2⟩
     .simp[qn]
     .rw[Fi (by rw[hk];simp) i h1 (.inr (.inl h2))];rfl
    |call=>exact(aIl (kW hk) hv).elim
    |effect=>
     refine NV hs hk hw kL (λi hi h=>Fi (by rw[hk];simp) i hi h) ?_ (acL hv ui) (oS hv);unfold nb;rw[hv]
   obtain⟨U,hU,d1,h1,h2⟩:=key;have⟨SF,kD,d',h3,h4⟩:=ih (j+1) d1 hd h2;have⟨uh,h5,h6⟩:=pT hU kD h1 h3 aq;exact⟨uh,h5,d',h6,h4⟩
 | @UZ o j l e G e' aB f av v hw hv hc h ih=>
   intro k d hl hs;obtain⟨hm,rfl,hd,kL,cQ,aq⟩:=dE hl;have⟨jM,kW,oe⟩:=Ih bM hm;have⟨i,b,aE,dL,fD,fq,ng⟩:=hs.bs;have ui:=fq▸oV _ ng;have mV:∀p∈d.bz,(p.hi<=p.lo\/(p.j<j+1/\bX pl p.j=.alloc))/\p.hi<=d.n:=λp hp=>⟨(hs.bz p hp).1.imp id (λh=>⟨ak,h.2⟩),(hs.bz p hp).2⟩
   have Fi:bX pl j≠.pure->∀i,i<j->(bX pl i=.alloc\/bX pl i=.effect\/(bX pl i=.load/\bX pl j=.effect))->RD (pl.dp.getD j 0) i=ab:=by
    intro hp i hi hk;have⟨p,qF⟩:=cQ i hi;exact oe hp p i qF hi hk
   have Bg:∀ja,nb P (vP ah f av G v G) ja e o G=aa (v,G):=by
    intro ja;unfold nb;rw[Ig hv ja G];simp[vP]
   have qM:=Rf (ao:=ao) hs fq
   have key:∃U,pS P U/\∃d1,c8 P U pl ro ao o j d=aa d1/\DY pl (j+1) d1 (e.put o.dst v) G:=by
    refine⟨vP ah f av G v G,yq λja _=>hc ja,?_⟩
    have ub:bX pl j=.call\/bX pl j=.effect:=by
     by_cases sK:bX pl j=.call
     .exact .inl sK
     .by_cases he:bX pl j=.effect
      .exact .inr he
      .have:=jM sK he;rcases u5 hv with h|h
       .rw[h]at this;exact bH this.symm sK
       .rw[h]at this;exact bH this.symm he
    rcases ub with hk|hk
    .refine⟨⟨d.e.put o.dst v,d.n,d.bs,⟨j,d.n,d.n,seen d.bz (pl.dp.getD j 0) b⟩::d.bz⟩,?_,⟨by rw[hs.e],hs.n,⟨i,b,aE,dL,fD.imp id (λh=>⟨ak,h.2⟩),?_,ng⟩,λp hp=>?_⟩⟩
     .unfold c8;rw[dL];simp only;rw[hs.e,hw,aW rfl];have er:pl.kinds.getD j .effect=.call:=hk;rw[er];have q_:=qM λi hi h=>Fi (by rw[hk];simp) i hi (h.imp id .inl);have bI:(⟨d.n,seen d.bz (pl.dp.getD j 0) b⟩:St)=G:=by rw[q_,hs.n]
      rw[bI,Bg,q_];simp only[hs.n]
     .simp only[Zv];rw[oU _ _ az,fq]
     .rcases ZP.1 hp with rfl|hp
      .simp
      .exact mV p hp
    .exact NV hs hk hw kL (λi hi h=>Fi (by rw[hk];simp) i hi h) (Bg ro) ui (XS _)
   have⟨U,hU,d1,h1,h2⟩:=key;have⟨SF,kD,d',h3,h4⟩:=ih (j+1) d1 hd h2;have⟨uh,h5,h6⟩:=pT hU kD h1 h3 aq;exact⟨uh,h5,d',h6,h4⟩
 | @call o j l e G e' aB f av v aG hk hw hv hc nV h ih=>
   intro k d hl hs;obtain⟨hm,rfl,hd,kL,cQ,aq⟩:=dE hl;have⟨jM,kW,oe⟩:=Ih bM hm;have⟨i,b,aE,dL,fD,fq,ng⟩:=hs.bs;have ui:=fq▸oV _ ng
   have Fi:bX pl j≠.pure->∀i,i<j->(bX pl i=.alloc\/bX pl i=.effect\/(bX pl i=.load/\bX pl j=.effect))->RD (pl.dp.getD j 0) i=ab:=by
    intro hp i hi hk;have⟨p,qF⟩:=cQ i hi;exact oe hp p i qF hi hk
   obtain⟨d1,h1,h2⟩:=NV (U:=vP (aa ro) f av G v aG) (v:=v) (aG:=aG) hs hk hw kL (λi hi h=>Fi (by rw[hk];simp) i hi h) (by unfold nb;rw[hv];simp[vP]) (nV ui) hc.1;have⟨SF,kD,d',h3,h4⟩:=ih (j+1) d1 hd h2;obtain⟨uh,h5,h6⟩:=pT (yq (R:=aa ro) λja hR=>by rcases hR with hR|hR<;>cases hR;omega) kD h1 h3 aq;exact⟨uh,h5,d',h6,h4⟩
 | @acM o j l e G e' aB f av v ob hq hw hv hc h ih=>grind
def jn.draw(fG:P.follows .mixedOrders=ab)(iv:(cU ao).ok=ab)(bM:Ff ao (cU ao)=ab)(nV:G.t.WF)
 (h:jb P ro ao (cU ao) af ao.toList.zipIdx e G e' aB):jn P ro rd fn (.region id ao ab) e df G ⟨.normal,e',df,aB⟩:=by
 obtain⟨SF,kD,d',h1,h2,h3,i,b,aE,h4,h5⟩:=acA bM h 0 ⟨e,G.n,[(0,G.t)],[]⟩ az ⟨rfl,rfl,⟨0,G.t,[],rfl,.inl rfl,rfl,nV⟩,λp hp=>aI⟩
 have gC:nc P SF ro ao e df G=aa ⟨.normal,e',df,aB⟩:=by
  unfold nc;rw[aW iv,h1];have⟨de,dn,dbs,Y1⟩:=d'
  simp_all
 refine .mk (H9 (λi=>(kD i).2.2.1) (λi=>(kD i).2.2.2) gC) az λN hN F Z a w Q hF hi he hd hQ=>?_;exact NU fG (λi=>(kD i).1) (λi=>(kD i).2.1) (λi=>(kD i).2.2.1) (λi=>(kD i).2.2.2) N ro rd ao e df G _ gC hN F Z a w Q id hF hi he hd hQ
end Go.Ev
namespace Go.Ev
abbrev Rs:=Nat->aF Nat
variable{G:St}
inductive bZ(fr:Bool)(R:Rs)(G:St):IV->IV->Prop
 |raw (v:ZQ):bZ fr R G (.raw v) (.raw v)
 |nil (s:Nat) (hs:0<s):bZ fr R G (.raw (.slice ah 0 0)) (.tree s [])
 |emp (s:Nat) (hs:0<s):bZ fr R G .emp (.tree s [])
 |eT (t:VK) (x y:IV) (h:bZ fr R G x y):bZ fr R G (.eT t x) (.eT t y)
 |agg (cs ds:List IV) (hl:cs.length=ds.length) (h:∀(i:Nat) c d,cs[i]?=aa c->ds[i]?=aa d->bZ fr R G c d):bZ fr R G (.agg cs) (.agg ds)
 |aU (cs ds:List IV) (hl:cs.length=ds.length) (h:∀(i:Nat) c d,cs[i]?=aa c->ds[i]?=aa d->bZ fr R G c d):bZ fr R G (.aU cs) (.aU ds)
 |pure (x:IV) (hf:fr=ab) (hp:Pure x):bZ fr R G x x
 |sl (id ay len:Nat) (cap:Option Nat) (ep s m:Nat) (cs:List IV) (aV mn:Nat) (es:List IV) (hR:R id=aa m) (bx:G.at id=aa (.cells cs aV mn)) (h1:mn<=ep) (h2:ep<=aV) (hs:0<s) (hl:es.length=len)
   (hb:ay+len*s<=m) (hm:m<=cs.length)
   (cD:∀e∈es,(aD e).length=s) (h:∀(i:Nat) e (j:Nat) c d,es[i]?=aa e->(aD e)[j]?=aa d->cs[ay+i*s+j]?=aa c->bZ fr R G c d):bZ fr R G (.sl id ay len cap ep s) (.tree s es)
variable{R R':Rs}{fr:Bool}{x z:IV}{aB:St}{d s k:Nat}{bad:Nat->Prop}
def bZ.can(h:bZ fr R G x z):Can fr G x z:=by
 induction h with
 |raw v=>exact .raw v
 |nil s hs=>exact .nil s hs
 |emp s hs=>exact .emp s hs
 |eT t x y _ ih=>exact .eT t x y ih
 |agg cs ds hl _ ih=>exact .agg cs ds hl ih
 |aU cs ds hl _ ih=>exact .aU cs ds hl ih
 |pure x hf hp=>exact .pure x hf hp
 |sl id ay len cap ep s m cs aV mn es hR bx h1 h2 hs hl hb hm cD _ ih=>exact .sl id ay len cap ep s cs aV mn es bx h1 h2 hl ak cD ih
def bZ.dI(h:bZ fr R G x z):bZ ab R G x z:=by
 induction h with
 |raw v=>exact .raw v
 |nil s hs=>exact .nil s hs
 |emp s hs=>exact .emp s hs
 |eT t x y _ ih=>exact .eT t x y ih
 |agg cs ds hl _ ih=>exact .agg cs ds hl ih
 |aU cs ds hl _ ih=>exact .aU cs ds hl ih
 |pure x hf hp=>exact .pure x rfl hp
 |sl id ay len cap ep s m cs aV mn es hR bx h1 h2 hs hl hb hm cD _ ih=>exact .sl id ay len cap ep s m cs aV mn es hR bx h1 h2 hs hl hb hm cD ih
def bZ.wide{eP:Bool}(h:bZ fr R G x z)(hle:fr=ab->eP=ab):bZ eP R G x z:=by
 cases eP
 .grind
 .exact h.dI
structure lq(R:Rs)(G:St)(R':Rs)(aB:St):Prop where
 le:∀id m,R id=aa m->∃m',R' id=aa m'/\m<=m'
 keep:∀id m cs aV mn,R id=aa m->G.at id=aa (.cells cs aV mn)->∃cL oi,aB.at id=aa (.cells cL oi mn)/\aV<=oi/\∀j,j<m->cL[j]?=cs[j]?
 fits:∀id m cs aV mn,R' id=aa m->aB.at id=aa (.cells cs aV mn)->m<=cs.length
def aqj{es:aj IV}{i len:Nat}{e d:IV}{j:Nat}(he:es[i]?=aa e)(hd:(aD e)[j]?=aa d)(cD:∀e∈es,(aD e).length=s)(hl:es.length=len):i*s+j<len*s:=by
 have hi:=(Z5.1 he).1;have hj:j<s:=aI;have:=XX s hi
 grind
def bZ.mono(hg:lq R G R' aB)(h:bZ fr R G x z):bZ fr R' aB x z:=by
 induction h with
 |raw v=>exact .raw v
 |nil s hs=>exact .nil s hs
 |emp s hs=>exact .emp s hs
 |eT t x y _ ih=>exact .eT t x y ih
 |agg cs ds hl _ ih=>exact .agg cs ds hl ih
 |aU cs ds hl _ ih=>exact .aU cs ds hl ih
 |pure x hf hp=>exact .pure x hf hp
 |sl id ay len cap ep s m cs aV mn es hRi bx h1 h2 hs hl hb hm cD _ ih=>
  have⟨cL,oi,Wt,hle,U0⟩:=hg.keep id m cs aV mn hRi bx;have⟨m',Wu,hmm⟩:=hg.le id m hRi;refine .sl id ay len cap ep s m' cL oi mn es Wu Wt h1 (YE h2 hle) hs hl (YE hb hmm) (hg.fits id m' cL oi mn Wu Wt) cD λi e j c d he hd hc=>?_;have:=aqj he hd cD hl
  grind
def lq.refl(hf:∀id m cs aV mn,R id=aa m->G.at id=aa (.cells cs aV mn)->m<=cs.length):lq R G R G:=
 ⟨λ_ m h=>⟨m,h,XS _⟩,λ_ _ cs aV _ _ h=>⟨cs,aV,h,XS _,λ_ _=>rfl⟩,hf⟩
def All2{B β:Type}(r:B->β->Prop):aj B->aj β->Prop
 |[],[]=>True
 |a::as,b::bs=>r a b/\All2 r as bs
 |_,_=>False
namespace All2
variable{B β:Type}{r r':B->β->Prop}
theorem len:∀{as:aj B} {bs:aj β},All2 r as bs->as.length=bs.length
 |[],[],_=>rfl
 |_::_,_::_,h=>by simp[len h.2]
 |[],_::_,h=>h.elim
 |_::_,[],h=>h.elim
theorem get:∀{as:aj B} {bs:aj β},All2 r as bs->∀{i:Nat} {a:B} {b:β},as[i]?=aa a->bs[i]?=aa b->r a b
 |[],[],_,i,a,b,h1,_=>by grind
 |_::as,_::bs,h,i,a,b,h1,h2=>by
  cases i with
  |zero=>simp at h1 h2;subst h1 h2;exact h.1
  |succ i=>simp at h1 h2;exact get h.2 h1 h2
 |[],_::_,h,_,_,_,_,_=>h.elim
 |_::_,[],h,_,_,_,_,_=>h.elim
def Gz{as:aj B}{bs:aj β}(h:All2 r as bs){i:Nat}{b:β}(hb:bs[i]?=aa b):∃a,as[i]?=aa a/\r a b:=by
 have hi:i<as.length:=by grind [h.len]
 exact⟨_,UN hi,h.get (UN hi) hb⟩
def mk:∀{as:aj B} {bs:aj β},as.length=bs.length->(∀(i:Nat) a b,as[i]?=aa a->bs[i]?=aa b->r a b)->All2 r as bs
 |[],[],_,_=>trivial
 |a::as,b::bs,hl,h=>⟨h 0 a b rfl rfl,mk aI λi a b h1 h2=>h (i+1) a b aI aI⟩
 |[],_::_,hl,_=>by grind
 |_::_,[],hl,_=>by grind
def mono(hr:∀a b,r a b->r' a b):∀{as:aj B} {bs:aj β},All2 r as bs->All2 r' as bs
 |[],[],_=>trivial
 |_::_,_::_,h=>⟨hr _ _ h.1,mono hr h.2⟩
 |[],_::_,h=>h.elim
 |_::_,[],h=>h.elim
def Dx:∀{as:aj B} {bs:aj β},(∀a b,b∈bs->r a b->r' a b)->All2 r as bs->All2 r' as bs
 |[],[],_,_=>trivial
 |_::_,_::_,hr,h=>⟨hr _ _ az h.1,Dx (λa b hb=>hr a b aI) h.2⟩
 |[],_::_,_,h=>h.elim
 |_::_,[],_,h=>h.elim
def app{as as':aj B}{bs bs':aj β}(h:All2 r as bs)(k:All2 r as' bs'):All2 r (as++as') (bs++bs'):=by
 refine mk (by simp[h.len,k.len]) λi a b h1 h2=>?_;by_cases hi:i<as.length
 .rw[VJ hi]at h1;rw[VJ (h.len▸hi)]at h2;exact h.get h1 h2
 .rw[Ub ak]at h1;rw[Ub (by have:=h.len;omega),<-h.len]at h2;exact k.get h1 h2
def take(n:Nat){as:aj B}{bs:aj β}(h:All2 r as bs):All2 r (as.take n) (bs.take n):=by
 refine mk (by simp[h.len]) λi a b h1 h2=>?_;rw[List.getElem?_take]at h1 h2;split at h1
 .rename_i hi;rw[aW hi]at h2;exact h.get h1 h2
 grind
def drop(n:Nat){as:aj B}{bs:aj β}(h:All2 r as bs):All2 r (as.drop n) (bs.drop n):=
 mk (by simp[h.len]) λi a b h1 h2=>h.get (i:=n+i) aI aI
def map{γ:Type}{f:β->γ}{q:B->γ->Prop}(hf:∀a b,r a b->q a (f b)):∀{as:aj B} {bs:aj β},All2 r as bs->All2 q as (bs.map f)
 |[],[],_=>trivial
 |_::_,_::_,h=>⟨hf _ _ h.1,map hf h.2⟩
 |[],_::_,h=>h.elim
 |_::_,[],h=>h.elim
end All2
inductive Cl(B:Type) where
 |un
 |v (z:B)
 |w (fr:Bool) (z:B)
 |pt (k ay ext:Nat)
 |tp (cs:List B)
 |tw (fr:Bool) (cs:List B)
 |sr (k:Nat)
 |sv (k:Nat) (lo:B)
 |pr (k:Nat) (i:B) (ay ext:Nat)
 |mp (k:Nat)
 |nl (b:Bool) (s:Nat)
 |fn (f:V4) (bs:List (Nat×Nat))
 |yl (k:Nat)
 deriving Inhabited
inductive PV(B:Type) where
 |one (x:Cl B)
 |ag (cs:List (Cl B))
 |tu (vs:List (Bool×List (Cl B)))
 deriving Inhabited
inductive LO(B:Type) where
 |var (cs:List (Cl B))
 |row (s:Nat) (st cut fr:Bool) (es:B)
 |mp (kt:VK) (es:B)
 |lp (c st:Nat) (snap:List (Nat×PV B))
 |dead
structure ald where
 ps:aj Tmp
 jz:Code
 bd:Code
 n:Nat
abbrev Cs:=aj ald
def Cl.uj{B:Type}:Cl B->Bool
 |.sr _|.sv _ _|.pr _ _ _ _=>af
 |_=>ab
def PV.uj{B:Type}:PV B->Bool
 |.one c=>c.uj
 |.ag cs=>cs.all Cl.uj
 |.tu vs=>vs.all λp=>p.2.all Cl.uj
def ZD(st:Nat)(s:LoopState)(p:aF Code):Prop:=
 match st with
 |0=>s=.ready/\p=ah
 |1=>s=.busy/\p=ah
 |2=>s≠.busy/\p=aa .ret
 |3=>s≠.busy/\p=ah
 |i+4=>s≠.busy/\p=aa (.exit i)
abbrev Ph:=Nat->aF Nat
def Rg(X:Ph)(G:St)(k s:Nat)(cut:Bool)(lo len:Nat)(x:IV):Prop:=
 (X k=ah/\len=0/\(x=.raw (.slice ah 0 0)\/x=.emp))\/
 ∃id cs aV mn cap,X k=aa id/\G.at id=aa (.cells cs aV mn)/\x=.sl id (lo*s) (len- lo) cap aV s/\lo<=len/\(cap=ah->cut=af->len*s=cs.length)/\
  ∀c,cap=aa c->mn=aV/\lo*s+c*s<=cs.length/\len- lo<=c
abbrev lr:IV->IV->Prop:=bZ ab (λ_=>ah) ⟨0,.lf⟩
def nat?:IV->aF Nat
 |.raw (.int _ n)=>if 0<=n then aa n.toNat else ah
 |_=>ah
def rL(kt:Nat):Bool:=ZW kt 0||Nat.ble 1000000 kt
def Left(ds:aj IV)(seen:aj Nat)(rem:aj IV):Prop:=
 ∃ps:aj (IV×Nat),rem=ps.map (·.1)/\(ps.map (·.2)).Nodup/\(∀p∈ps,ds[p.2]?=aa p.1/\p.2∉seen)/\∀i,i<ds.length->i∉seen->∃p∈ps,p.2=i
section ev
variable{B:Type}(Cx:Cs)(ev:B->aF IV)
def dT(R:Rs)(X:Ph)(L:aj (LO B))(G:St)(x:IV):Cl B->Prop
 |.un=>True
 |.v z=>∃y,ev z=aa y/\lr x y/\aw y=ab
 |.w fr z=>∃y,ev z=aa y/\bZ fr R G x y/\aw y=ab
 |.pt k ay ext=>∃id cs,X k=aa id/\L[k]?=aa (.var cs)/\x=.ptr id ay 0 ext
 |.tp cs=>∃ds,x=.pF ds/\All2 (λd c=>∃y,ev c=aa y/\lr d y/\aw y=ab) ds cs
 |.tw fr cs=>(∀c∈cs,∃y,ev c=aa y/\aw y=ab)/\((fr=ab/\∃ds,x=.pF ds/\All2 (λd c=>∃y,ev c=aa y/\lr d y) ds cs)\/
   ∃id ay ep m dR aV mn,R id=aa m/\G.at id=aa (.cells dR aV mn)/\mn<=ep/\ep<=aV/\x=.ptr id ay ep cs.length/\ay+cs.length<=m/\m<=dR.length/\
    ∀(j:Nat) c d,cs[j]?=aa d->dR[ay+j]?=aa c->∃y,ev d=aa y/\bZ fr R G c y)
 |.sr k=>∃s st cut fr z es,L[k]?=aa (.row s st cut fr z)/\ev z=aa (.tree s es)/\Rg X G k s cut 0 es.length x
 |.sv k lo=>∃s st cut fr z es y n,L[k]?=aa (.row s st cut fr z)/\ev z=aa (.tree s es)/\ev lo=aa y/\nat? y=aa n/\n<=es.length/\(Rg X G k s cut n es.length x\/(n=es.length/\x=.emp))
 |.pr k i ay ext=>∃s st cut fr z es y n id cs aV mn,L[k]?=aa (.row s st cut fr z)/\ev z=aa (.tree s es)/\ev i=aa y/\nat? y=aa n/\n<es.length/\ay+ext<=s/\X k=aa id/\G.at id=aa (.cells cs aV mn)/\x=.ptr id (n*s+ay) aV ext
 |.mp k=>∃id kt es,X k=aa id/\L[k]?=aa (.mp kt es)/\x=if rL kt=ab then .ptr id 0 0 1 else .map id
 |.nl b s=>0<s/\x=if b then .raw (.slice ah 0 0)else .emp
 |.yl k=>∃id c st snap,X k=aa id/\L[k]?=aa (.lp c st snap)/\x=.vA id
 |.fn f bs=>(bs=[]/\x=.raw (.func (.func f) #[] #[]))\/∃ys,x=.fn (.func f) [] ys/\All2 (λy (p:Nat×Nat)=>∃id cs,X p.1=aa id/\L[p.1]?=aa (.var cs)/\y=.ptr id 0 0 p.2) ys bs
def zA(R:Rs)(X:Ph)(L:aj (LO B))(G:St)(x:IV)(p:Bool×aj (Cl B)):Prop:=
 if p.1 then∃xs,x=.agg xs/\All2 (dT ev R X L G) xs p.2 else∃c,p.2=[c]/\dT ev R X L G x c
def VR(R:Rs)(X:Ph)(L:aj (LO B))(G:St)(x:IV):PV B->Prop
 |.one c=>dT ev R X L G x c
 |.ag cs=>∃xs,x=.agg xs/\All2 (dT ev R X L G) xs cs
 |.tu vs=>∃xs,x=.aU xs/\All2 (zA ev R X L G) xs vs
def flat(es:aj IV):aj IV:=es.flatMap aD
def Mb(R:Rs)(G:St)(es:aj (ZQ×IV×Nat))(ds:aj IV):Prop:=
 All2 (λ(e:ZQ×IV×Nat) d=>∃z,d=.aU [lift e.1,z]/\bZ ab R G e.2.1 z) es ds
def Canon(es:aj (ZQ×IV×Nat))(clock:Nat):Prop:=clock=es.length/\∀(i:Nat) (e:ZQ×IV×Nat),es[i]?=aa e->e.2.2=i
variable{clock:Nat}{es:aj (ZQ×IV×Nat)}
theorem Canon.app(h:Canon es clock)(k:ZQ)(x:IV):Canon (es++[(k,x,clock)]) (clock+1):=by
 refine⟨by simp[h.1],λi e he=>?_⟩;by_cases hi:i<es.length
 .rw[VJ hi]at he;exact h.2 i e he
 .rw[Ub ak]at he
  have h0:i- es.length=0:=by
   grind
  rw[h0]at he;simp at he;have:=h.1
  grind
theorem Canon.set{q:Nat}{e:ZQ×IV×Nat}(h:Canon es clock)(hq:es[q]?=aa e)(k:ZQ)(x:IV):Canon (es.set q (k,x,e.2.2)) clock:=by
 refine⟨by simp[h.1],λi e' he=>?_⟩;rw[List.getElem?_set]at he;split at he<;>try exact h.2 i e' he
 rename_i hh;subst hh;split at he
 .cases he;exact h.2 q e hq
 grind
def OIt(R:Rs)(X:Ph)(L:aj (LO B))(G:St)(k:Nat)(kt:Nat)(z:B):Prop:=
 (kt=0/\∃id ba p,ev z=aa (.aU [.raw (.string ba),.raw (.int .i64 (p:Nat))])/\X k=aa id/\R id=ah/\G.at id=aa (.uW ba p))\/
 (1000000<=kt/\∃id m ds seen rem aE,ev z=aa (.aU (.aU ds::.aU rem::aE))/\X k=aa id/\R id=ah/\(∃uo z',L[kt % 1000000]?=aa (.mp uo z'))/\X (kt % 1000000)=aa m/\
  G.at id=aa (.na (aa m) ds.length seen ds.length)/\(∀s∈seen,s<ds.length)/\Left ds seen rem/\(aE=[]\/∃i last,aE=[last]/\seen.getLast?=aa i/\ds[i]?=aa last))
def OR(R:Rs)(X:Ph)(L:aj (LO B))(G:St)(k:Nat):LO B->Prop
 |.var cs=>∃id dR,X k=aa id/\R id=ah/\G.at id=aa (.cells dR 0 0)/\All2 (dT ev R X L G) dR cs
 |.row s st cut fr z=>0<s/\∃es,ev z=aa (.tree s es)/\(∀e∈es,(aD e).length=s)/\
   ((X k=ah/\es=[])\/∃id cs aV mn,X k=aa id/\G.at id=aa (.cells cs aV mn)/\mn<=aV/\es.length*s<=cs.length/\R id=(if st then aa (es.length*s)else ah)/\
     cs.all aw=ab/\∀(j:Nat) x d,cs[j]?=aa x->(flat es)[j]?=aa d->bZ fr R G x d)
 |.mp kt z=>if rL kt=ab then OIt ev R X L G k kt z
  else∃id es clock ds,ev z=aa (.aU ds)/\X k=aa id/\R id=ah/\G.at id=aa (.map es clock)/\Mb R G es ds/\Canon es clock
 |.lp c st snap=>∃id rc tm iN s p f,X k=aa id/\R id=ah/\(st<2->Cx[c]?=aa rc)/\G.at id=aa (.loop s p f tm rc.n rc.ps rc.jz rc.bd iN)/\ZD st s p/\
   ∀q∈snap,q.2.uj=ab/\VR ev R X L G ((⟨rc.n,tm⟩:aK).at q.1) q.2
 |.dead=>True
theorem oj{Cx:Cs}{X:Ph}{L:aj (LO B)}{kt:VK}{z:B}:OR Cx ev R X L G k (.mp kt z)=if rL kt=ab then OIt ev R X L G k kt z
 else∃id es clock ds,ev z=aa (.aU ds)/\X k=aa id/\R id=ah/\G.at id=aa (.map es clock)/\Mb R G es ds/\Canon es clock:=rfl
abbrev Gm(B:Type):=aj (Nat×Nat×PV B)
def dk(d t:Nat):aj (Nat×Nat×PV B)->aF (PV B)
 |[]=>ah
 |(d',t',pv)::g=>if(ZW d d'&&ZW t t')=ab then aa pv else dk d t g
structure J(R:Rs)(X:Ph)(Γ:Gm B)(L:aj (LO B))(E:Nat->aK)(G:St):Prop where
 slot:∀d t pv,dk d t Γ=aa pv->VR ev R X L G ((E d).at t) pv
 obj:∀k ob,L[k]?=aa ob->OR Cx ev R X L G k ob
 inj:∀k k' id,X k=aa id->X k'=aa id->k=k'
 lt:∀k id,X k=aa id->k<L.length/\id<G.n
 tC:∀id m,R id=aa m->id<G.n
 fits:∀id m cs aV mn,R id=aa m->G.at id=aa (.cells cs aV mn)->m<=cs.length
 wf:G.t.WF
 top:∀id,G.n<=id->G.at id=ah
structure ni(ev lP:B->aF IV)(R:Rs)(X:Ph)(L:aj (LO B))(G:St)(R':Rs)(bA:Ph)(L':aj (LO B))(aB:St)(bad:Nat->Prop):Prop where
 up:∀e z,ev e=aa z->lP e=aa z
 grow:lq R G R' aB
 var:∀k cs,L[k]?=aa (.var cs)->(∃cL,L'[k]?=aa (.var cL))/\bA k=X k
 map:∀k kt es,L[k]?=aa (.mp kt es)->(∃bF,L'[k]?=aa (.mp kt bF))/\bA k=X k
 row:∀k s st cut fr z,L[k]?=aa (.row s st cut fr z)->¬bad k->(∃eX eP z',L'[k]?=aa (.row s eX cut eP z')/\∀es,ev z=aa (.tree s es)->∃bF,lP z'=aa (.tree s bF)/\bF.length=es.length)/\bA k=X k/\
  ∀id cs aV mn,X k=aa id->G.at id=aa (.cells cs aV mn)->∃cL wg,aB.at id=aa (.cells cL aV wg)/\cL.length=cs.length/\(mn=aV->wg=aV)
 lp:∀k c st snap,L[k]?=aa (.lp c st snap)->(∃c' eX Ii,L'[k]?=aa (.lp c' eX Ii))/\bA k=X k
end ev
variable{B:Type}{ev lP:B->aF IV}
def Cl.ok(bad:Nat->Prop):Cl B->Prop
 |.sr k|.sv k _|.pr k _ _ _=>¬bad k
 |_=>True
def Cl.Bh{c:Cl B}(h:c.uj=ab):c.ok bad:=by cases c<;>first|trivial|cases h
variable{L L':aj (LO B)}
variable{X bA:Ph}{Cx:Cs}{t:Nat}
def ni.mk'(h0:∀e z,ev e=aa z->lP e=aa z)(h1:lq R G R' aB)(h2:∀k cs,L[k]?=aa (.var cs)->(∃cL,L'[k]?=aa (.var cL))/\bA k=X k)
 (h3:∀k kt es,L[k]?=aa (.mp kt es)->(∃bF,L'[k]?=aa (.mp kt bF))/\bA k=X k)
 (h4:∀k s st cut fr z,L[k]?=aa (.row s st cut fr z)->¬bad k->(∃eX,L'[k]?=aa (.row s eX cut fr z))/\bA k=X k/\∀id,X k=aa id->aB.at id=G.at id)
 (h5:∀k c st snap,L[k]?=aa (.lp c st snap)->(∃c' eX Ii,L'[k]?=aa (.lp c' eX Ii))/\bA k=X k):ni ev lP R X L G R' bA L' aB bad:=
 ⟨h0,h1,h2,h3,λk s st cut fr z hk hb=>by
  grind,h5⟩
def Rg.step{lo len:Nat}{cut:Bool}(h1:bA k=X k)(h2:∀id cs aV mn,X k=aa id->G.at id=aa (.cells cs aV mn)->∃cL wg,aB.at id=aa (.cells cL aV wg)/\cL.length=cs.length/\(mn=aV->wg=aV))
 (h:Rg X G k s cut lo len x):Rg bA aB k s cut lo len x:=by
 rcases h with⟨a,b,c⟩|⟨id,cs,aV,mn,cap,a,b,c,d,e,f⟩
 .exact .inl ⟨by rw[h1];exact a,b,c⟩
 .have⟨cL,wg,g1,g2,g3⟩:=h2 id cs aV mn a b;exact .inr ⟨id,cL,aV,wg,cap,by rw[h1];exact a,g1,c,d,λx y=>by rw[g2];exact e x y,λc hc=>by rw[g2];exact⟨g3 (f c hc).1,(f c hc).2⟩⟩
def dT.step(hs:ni ev lP R X L G R' bA L' aB bad){c:Cl B}(bM:c.ok bad)(h:dT ev R X L G x c):dT lP R' bA L' aB x c:=by
 cases c with
 |un=>trivial
 |v z=>have⟨y,h1,h2⟩:=h;exact⟨y,hs.up _ _ h1,h2⟩
 |w fr z=>have⟨y,h1,h2,h3⟩:=h;exact⟨y,hs.up _ _ h1,h2.mono hs.grow,h3⟩
 |pt k ay ext=>
  have⟨id,cs,h1,h2,h3⟩:=h;have⟨⟨cL,h4⟩,h5⟩:=hs.var k cs h2;exact⟨id,cL,aI,h4,h3⟩
 |tp cs=>
  have⟨ds,h1,h2⟩:=h;exact⟨ds,h1,h2.mono λd c ⟨y,h3,h4⟩=>⟨y,hs.up _ _ h3,h4⟩⟩
 |tw fr cs=>
  obtain⟨h0,h|⟨id,ay,ep,m,dR,aV,mn,h1,h2,h3,h4,h5,h6,h7,h8⟩⟩:=h
  .have⟨hf,ds,h1,h2⟩:=h;exact⟨λc hc=>(h0 c hc).imp λy hy=>⟨hs.up _ _ hy.1,hy.2⟩,.inl ⟨hf,ds,h1,h2.mono λd c ⟨y,h3,h4⟩=>⟨y,hs.up _ _ h3,h4⟩⟩⟩
  .have⟨cL,oi,Wt,hle,U0⟩:=hs.grow.keep id m dR aV mn h1 h2;have⟨m',Wu,hmm⟩:=hs.grow.le id m h1;refine⟨λc hc=>(h0 c hc).imp λy hy=>⟨hs.up _ _ hy.1,hy.2⟩,.inr ⟨id,ay,ep,m',cL,oi,mn,Wu,Wt,h3,YE h4 hle,h5,ak,hs.grow.fits id m' cL oi mn Wu Wt,λj c d hd hc=>?_⟩⟩;have hj:=(Z5.1 hd).1;rw[U0 _ ak]at hc;have⟨y,Bi,JV⟩:=h8 j c d hd hc;exact⟨y,hs.up _ _ Bi,JV.mono hs.grow⟩
 |sr k=>
  have⟨s,st,cut,fr,z,es,h1,he,h2⟩:=h;have⟨⟨eX,eP,z',h3,h6⟩,h4,h5⟩:=hs.row k _ _ _ _ _ h1 bM;have⟨bF,h7,h8⟩:=h6 es he;exact⟨s,eX,cut,eP,z',bF,h3,h7,h8▸h2.step h4 h5⟩
 |sv k lo=>
  have⟨s,st,cut,fr,z,es,y,n,h1,he,hy,hn,hl,h2⟩:=h;have⟨⟨eX,eP,z',h3,h6⟩,h4,h5⟩:=hs.row k _ _ _ _ _ h1 bM;have⟨bF,h7,h8⟩:=h6 es he;exact⟨s,eX,cut,eP,z',bF,y,n,h3,h7,hs.up _ _ hy,hn,ak,h2.elim (λh2=>.inl (h8▸h2.step h4 h5)) λh2=>.inr ⟨ak,h2.2⟩⟩
 |pr k i ay ext=>
  have⟨s,st,cut,fr,z,es,y,n,id,cs,aV,mn,h1,he,hy,hn,hl,hx,h6,h7,h8⟩:=h;have⟨⟨eX,eP,z',h3,h9⟩,h4,h5⟩:=hs.row k _ _ _ _ _ h1 bM;have⟨bF,Wv,Ww⟩:=h9 es he;have⟨cL,wg,g1,g2,g3⟩:=h5 id cs aV mn h6 h7;exact⟨s,eX,cut,eP,z',bF,y,n,id,cL,aV,wg,h3,Wv,hs.up _ _ hy,hn,ak,hx,aI,g1,h8⟩
 |mp k=>
  have⟨id,kt,es,h1,h2,h3⟩:=h;have⟨⟨bF,h4⟩,h5⟩:=hs.map k kt es h2;exact⟨id,kt,bF,aI,h4,h3⟩
 |nl b s=>exact h
 |yl k=>
  have⟨id,c,st,snap,h1,h2,h3⟩:=h;have⟨⟨c',eX,Ii,h4⟩,h5⟩:=hs.lp k c st snap h2;exact⟨id,c',eX,Ii,aI,h4,h3⟩
 |fn f bs=>
  rcases h with h|⟨ys,h1,h2⟩
  .exact .inl h
  .refine .inr ⟨ys,h1,h2.mono λy p ⟨id,cs,h3,h4,h5⟩=>?_⟩;have⟨⟨cL,h6⟩,h7⟩:=hs.var p.1 cs h4
   grind
def PV.ok(bad:Nat->Prop):PV B->Prop
 |.one c=>c.ok bad
 |.ag cs=>∀c∈cs,c.ok bad
 |.tu vs=>∀p∈vs,∀c∈p.2,c.ok bad
def VR.step(hs:ni ev lP R X L G R' bA L' aB bad){c:PV B}(bM:c.ok bad)(h:VR ev R X L G x c):VR lP R' bA L' aB x c:=by
 cases c with
 |one c=>exact dT.step hs bM h
 |ag cs=>
  have⟨xs,h1,h2⟩:=h;exact⟨xs,h1,h2.Dx λa b hb di=>dT.step hs (bM b hb) di⟩
 |tu vs=>
  have⟨xs,h1,h2⟩:=h;refine⟨xs,h1,h2.Dx λa p hp di=>?_⟩;unfold zA at di⊢;split at di
  .rename_i hb;rw[aW hb];have⟨ys,h3,h4⟩:=di;exact⟨ys,h3,h4.Dx λa b hb di=>dT.step hs (bM p hp b hb) di⟩
  .rename_i hb;rw[aY hb];have⟨c,h3,h4⟩:=di;exact⟨c,h3,dT.step hs (bM p hp c aI) h4⟩
def PV.Bh{p:PV B}(h:p.uj=ab):p.ok bad:=by
 cases p with
 |one c=>exact Cl.Bh h
 |ag cs=>exactλc hc=>Cl.Bh (US.1 h c hc)
 |tu vs=>exactλp hp c hc=>Cl.Bh (US.1 (US.1 h p hp) c hc)
def LO.ok(bad:Nat->Prop):LO B->Prop
 |.var cs=>∀c∈cs,c.ok bad
 |_=>True
def OR.step(hs:ni ev lP R X L G R' bA L' aB bad){o:LO B}(mE:bA k=X k)(bx:∀id,X k=aa id->aB.at id=G.at id/\R' id=R id)(bM:o.ok bad)(h:OR Cx ev R X L G k o):OR Cx lP R' bA L' aB k o:=by
 cases o with
 |var cs=>
  have⟨id,dR,h1,h2,h3,h4⟩:=h;have⟨h6,h7⟩:=bx id h1;exact⟨id,dR,by rw[mE];exact h1,by rw[h7];exact h2,by rw[h6];exact h3,h4.Dx λa b hb di=>dT.step hs (bM b hb) di⟩
 |row s st cut fr z=>
  have⟨h1,es,h2,h3,h4⟩:=h;exists h1,es,hs.up _ _ h2,h3;rcases h4 with⟨h4,h5⟩|⟨id,cs,aV,mn,h4,h5,h6,h7,h8,h9,Wv⟩
  .exact .inl ⟨by rw[mE];exact h4,h5⟩
  .have⟨ha,hb⟩:=bx id h4;exact .inr ⟨id,cs,aV,mn,by rw[mE];exact h4,by rw[ha];exact h5,h6,h7,by rw[hb];exact h8,h9,λj x d hx hd=>(Wv j x d hx hd).mono hs.grow⟩
 |mp kt z=>
  rw[oj]at h⊢;by_cases hk:rL kt=ab
  .rw[aW hk]at h⊢;rcases h with⟨h0,id,ba,p,h1,h2,h3,h4⟩|⟨h0,id,m,ds,seen,rem,aE,h1,h2,h3,⟨uo,z',h8⟩,h9,h4,h5⟩
   .have⟨h6,h7⟩:=bx id h2;exact .inl ⟨h0,id,ba,p,hs.up _ _ h1,by rw[mE];exact h2,by rw[h7];exact h3,by rw[h6];exact h4⟩
   .have⟨h6,h7⟩:=bx id h2;have⟨⟨bF,g1⟩,g2⟩:=hs.map _ _ _ h8;exact .inr ⟨h0,id,m,ds,seen,rem,aE,hs.up _ _ h1,by rw[mE];exact h2,by rw[h7];exact h3,⟨uo,bF,g1⟩,by rw[g2];exact h9,by rw[h6];exact h4,h5⟩
  .rw[aY hk]at h⊢;have⟨id,es,clock,ds,h1,h2,h3,h4,h5⟩:=h;have⟨h6,h7⟩:=bx id h2;exact⟨id,es,clock,ds,hs.up _ _ h1,by rw[mE];exact h2,by rw[h7];exact h3,by rw[h6];exact h4,h5.1.mono λa d ⟨z,h8,h9⟩=>⟨z,h8,h9.mono hs.grow⟩,h5.2⟩
 |lp c st snap=>
  have⟨id,rc,tm,iN,s,p,f,h1,h2,h3,h4,h5,h6⟩:=h;have⟨h7,h8⟩:=bx id h1;exact⟨id,rc,tm,iN,s,p,f,by rw[mE];exact h1,by rw[h8];exact h2,h3,by rw[h7];exact h4,h5,λq hq=>⟨(h6 q hq).1,(h6 q hq).2.step hs (PV.Bh (h6 q hq).1)⟩⟩
 |dead=>trivial
variable{Γ Nd:Gm B}
def nM(E:Nat->aK)(d:Nat)(e:aK):Nat->aK:=λj=>if j=d then e else E j
@[simp] theorem cI(E:Nat->aK)(d:Nat)(e:aK):nM E d e d=e:=by simp[nM]
def afz(E:Nat->aK)(d:Nat)(e e':aK):nM (nM E d e) d e'=nM E d e':=by
 grind [nM]
def Ij(d t:Nat):aj (Nat×Nat×PV B)->aj (Nat×Nat×PV B)
 |[]=>[]
 |(d',t',pv)::g=>if(ZW d d'&&ZW t t')=ab then Ij d t g else(d',t',pv)::Ij d t g
def NW{d' t':Nat}{pv:PV B}:∀(g:aj (Nat×Nat×PV B)),dk d' t' (Ij d t g)=aa pv->¬(d'=d/\t'=t)/\dk d' t' g=aa pv:=by
 intro g;induction g with
 |nil=>intro h;cases h
 |cons p g ih=>
  have⟨a,b,q⟩:=p;intro h;unfold Ij at h;split at h
  .simp_all[dk]
  .rename_i di;simp only[VM,ZT]at di;unfold dk at h⊢;split at h
   .rename_i hc;rw[aW hc];simp only[VM,ZT]at hc
    grind
   grind
def Rh(d t:Nat)(pv:PV B)(g:aj (Nat×Nat×PV B)):aj (Nat×Nat×PV B):=(d,t,pv)::Ij d t g
def oK{a b:Nat}{q pv:PV B}{g:aj (Nat×Nat×PV B)}(h:dk d t ((a,b,q)::g)=aa pv):(d=a/\t=b/\pv=q)\/(¬(d=a/\t=b)/\dk d t g=aa pv):=by
 unfold dk at h;split at h
 all_goals simp_all
def aF4(e:aK)(dst:aF Nat)(x:IV)(t:Nat)(h:dst≠aa t):(e.put dst x).at t=e.at t:=by
 cases dst with
 |none=>rfl
 |some d=>simp_all[aK.eF]
variable{E:Nat->aK}
def J.Y4(h:J Cx ev R X Γ L E G)(d:Nat)(dst:aF Nat)(x:IV)(gh:∀t,dst=aa t->Nd=Ij d t Γ)(hn:dst=ah->Nd=Γ):J Cx ev R X Nd L (nM E d ((E d).put dst x)) G:=by
 refine{h with slot:=λd' t' pv hg=>?_}
 have hold:¬(d'=d/\dst=aa t')/\dk d' t' Γ=aa pv:=by
  cases hd:dst with
  |none=>rw[hn hd]at hg;exact⟨λhh=>(by cases hh.2),hg⟩
  |some t=>
   rw[gh t hd]at hg;have⟨h1,h2⟩:=NW Γ hg;exact⟨λhh=>h1 ⟨hh.1,(by injection hh.2 with hh;exact hh.symm)⟩,h2⟩
 have:=h.slot d' t' pv hold.2;unfold nM;split
 .rename_i hd;subst hd;rw[aF4 _ _ _ _ λhh=>hold.1 ⟨rfl,hh⟩];exact this
 .exact this
theorem J.put(h:J Cx ev R X Γ L E G)(d:Nat)(ht:t<(E d).n){pv:PV B}(hx:VR ev R X L G x pv):J Cx ev R X (Rh d t pv Γ) L (nM E d ((E d).put (aa t) x)) G:=by
 have hb:=h.Y4 (Nd:=Ij d t Γ) d (aa t) x (λt' h=>aI) (λh=>by cases h);refine{hb with slot:=λd' t' JW hg=>?_};rcases oK hg with⟨rfl,rfl,rfl⟩|⟨_,h2⟩
 .simp_all[aK.eF]
 .exact hb.slot d' t' JW h2
def J.less(h:J Cx ev R X Γ L E G)(hs:∀d t pv,dk d t Nd=aa pv->dk d t Γ=aa pv):J Cx ev R X Nd L E G:={h with slot:=λd t pv ht=>h.slot d t pv (hs d t pv ht)}
end Go.Ev
namespace Go.Ev
variable{G aB aG:St}{N d i id j k ro t:Nat}{P:V5}{Q:Exit->Act->Z0->Prop}{Z:Io}{a:Act}{ao:Array YX}{df:aj Df}{e e':aK}{fn:V4}{l:aj YX}{o:YX}{rd:aF Nat}{v:IV}{w:Z0}
section
variable{B:Type}{ev lP:B->aF IV}{L L':aj (LO B)}{Γ Nd:Gm B}
variable{Cx:Cs}{E:Nat->aK}{R R':Rs}{X:Ph}{bad:Nat->Prop}{x:IV}{gO:Ob}{br:Io}{w':Z0}{α:Nat}
def J.ur(h:J Cx ev R X Γ L E G):R G.n=ah:=by
 cases hr:R G.n with
 |none=>rfl
 |some m=>exact bH (h.tC _ _ hr) (aK0 _)
def gr{B:Type}{l:aj B}{a:B}(h:l[i]?=aa a):i<l.length:=(Z5.1 h).1
def cY(X:Ph)(k id:Nat):Ph:=λj=>if j=k then aa id else X j
def aIW(h:J Cx ev R X Γ L E G)(ob:Ob):lq R G R (G.add ob):=by
 refine⟨λ_ m h=>⟨m,h,XS _⟩,λid m cs aV mn hR bx=>⟨cs,aV,?_,XS _,λ_ _=>rfl⟩,λid m cs aV mn hR bx=>?_⟩
 .have:=h.tC _ _ hR
  grind [St.kB]
 .have:=h.tC _ _ hR;rw[St.kB,aY ak]at bx;exact h.fits _ _ _ _ _ hR bx
def He(h:J Cx ev R X Γ L E G)(ob:Ob)(lo:LO B):ni ev ev R X L G R (cY X L.length G.n) (L++[lo]) (G.add ob) (λ_=>False):=by
 have hL:∀k o,L[k]?=aa o->(L++[lo])[k]?=aa o/\cY X L.length G.n k=X k:=λk o hk=>by
  have:=gr hk;exact⟨by rw[VJ this];exact hk,by simp[cY,show k≠L.length by omega]⟩
 refine .mk' (λ_ _ h=>h) (aIW h ob) (λk cs hk=>⟨⟨cs,(hL k _ hk).1⟩,(hL k _ hk).2⟩) (λk kt es hk=>⟨⟨es,(hL k _ hk).1⟩,(hL k _ hk).2⟩) (λk s st cut fr z hk _=>⟨⟨st,(hL k _ hk).1⟩,(hL k _ hk).2,λid hid=>?_⟩) λk c st snap hk=>⟨⟨c,st,snap,(hL k _ hk).1⟩,(hL k _ hk).2⟩;have:=(h.lt _ _ hid).2;rw[St.kB,aY ak]
def Cl.bP(c:Cl B):c.ok (λ_=>False):=by cases c<;>simp[Cl.ok]
theorem PV.bP(c:PV B):c.ok (λ_=>False):=by
 cases c with
 |one c=>exact c.bP
 |ag cs=>exactλc _=>c.bP
 |tu vs=>exactλ_ _ c _=>c.bP
theorem LO.bP(o:LO B):o.ok (λ_=>False):=by
 cases o with
 |var cs=>exactλc _=>c.bP
 |_=>trivial
def J.oW(h:J Cx ev R X Γ L E G)(ob:Ob)(lo:LO B)(ho:OR Cx ev R (cY X L.length G.n) (L++[lo]) (G.add ob) L.length lo):J Cx ev R (cY X L.length G.n) Γ (L++[lo]) E (G.add ob):=by
 have hs:=He h ob lo;refine⟨λd t pv hg=>(h.slot d t pv hg).step hs pv.bP,λk o hk=>?_,λk k' id h1 h2=>?_,λk id hk=>?_,λid m hR=>?_,hs.grow.fits,h.wf.set _ _,λid hid=>?_⟩
 .by_cases gR:k<L.length
  .rw[VJ gR]at hk;refine(h.obj k o hk).step hs (by grind [cY]) (λid hid=>⟨?_,rfl⟩) o.bP;have:=(h.lt _ _ hid).2
   grind [St.kB]
  grind
 .unfold cY at h1 h2;split at h1<;>split at h2
  .omega
  .cases h1;have:=(h.lt _ _ h2).2;omega
  .cases h2;have:=(h.lt _ _ h1).2;omega
  .exact h.inj k k' id h1 h2
 .unfold cY at hk;split at hk
  .simp_all
  .have:=h.lt _ _ hk;grind [St.add]
 .have:=h.tC _ _ hR;grind [St.add]
 .have mv:G.n+1<=id:=hid;rw[St.kB,aY ak];exact h.top id ak
def J.up(h:J Cx ev R X Γ L E G)(gC:∀e z,ev e=aa z->lP e=aa z):J Cx lP R X Γ L E G:=by
 have hs:ni ev lP R X L G R X L G (λ_=>False):=(.mk' gC (lq.refl h.fits) (λk cs hk=>⟨⟨cs,hk⟩,rfl⟩) (λk kt es hk=>⟨⟨es,hk⟩,rfl⟩) (λk s st cut fr z hk _=>⟨⟨st,hk⟩,rfl,λ_ _=>rfl⟩) λk c st snap hk=>⟨⟨c,st,snap,hk⟩,rfl⟩);exact{h with slot:=λd t pv hg=>(h.slot d t pv hg).step hs pv.bP,obj:=λk o hk=>(h.obj k o hk).step hs rfl (λ_ _=>⟨rfl,rfl⟩) o.bP}
def VR.up{pv:PV B}(h:J Cx ev R X Γ L E G)(hx:VR ev R X L G x pv)(gC:∀e z,ev e=aa z->lP e=aa z):VR lP R X L G x pv:=
 hx.step (bad:=λ_=>False) (.mk' gC (lq.refl h.fits) (λk cs hk=>⟨⟨cs,hk⟩,rfl⟩) (λk kt es hk=>⟨⟨es,hk⟩,rfl⟩) (λk s st cut fr z hk _=>⟨⟨st,hk⟩,rfl,λ_ _=>rfl⟩) λk c st snap hk=>⟨⟨c,st,snap,hk⟩,rfl⟩) pv.bP
def Cl.drop(k:Nat):Cl B->Cl B
 |.sr k'=>if ZW k' k=ab then .un else .sr k'
 |.sv k' lo=>if ZW k' k=ab then .un else .sv k' lo
 |.pr k' i ay ext=>if ZW k' k=ab then .un else .pr k' i ay ext
 |c=>c
def PV.drop(k:Nat):PV B->PV B
 |.one c=>.one (c.drop k)
 |.ag cs=>.ag (cs.map (Cl.drop k))
 |.tu vs=>.tu (vs.map λp=>(p.1,p.2.map (Cl.drop k)))
def LO.drop(k:Nat):LO B->LO B
 |.var cs=>.var (cs.map (Cl.drop k))
 |o=>o
def Po(k:Nat):aj (Nat×Nat×PV B)->aj (Nat×Nat×PV B)
 |[]=>[]
 |(d,t,pv)::g=>(d,t,pv.drop k)::Po k g
def Cl.ra(k:Nat)(c:Cl B):(c.drop k).ok (·=k):=by
 cases c<;>simp only[Cl.drop]<;>first|trivial|grind [Cl.ok,ZT]
theorem PV.ra(k:Nat)(c:PV B):(c.drop k).ok (·=k):=by
 cases c with
 |one c=>exact c.ra k
 |ag cs=>intro c hc;simp at hc;obtain⟨a,_,rfl⟩:=hc;exact a.ra k
 |tu vs=>intro p hp c hc;obtain⟨q,_,rfl⟩:=List.mem_map.1 hp;simp at hc;obtain⟨a,_,rfl⟩:=hc;exact a.ra k
theorem LO.ra(k:Nat)(o:LO B):(o.drop k).ok (·=k):=by
 cases o with
 |var cs=>intro c hc;simp at hc;obtain⟨a,_,rfl⟩:=hc;exact a.ra k
 |_=>trivial
theorem dT.drop{c:Cl B}(k:Nat)(h:dT ev R X L G x c):dT ev R X L G x (c.drop k):=by
 cases c<;>simp only[Cl.drop]<;>first|exact h|(split<;>first|trivial|exact h)
theorem VR.drop{c:PV B}(k:Nat)(h:VR ev R X L G x c):VR ev R X L G x (c.drop k):=by
 cases c with
 |one c=>exact dT.drop k h
 |ag cs=>
  have⟨xs,h1,h2⟩:=h;exact⟨xs,h1,h2.map λa b di=>di.drop k⟩
 |tu vs=>
  have⟨xs,h1,h2⟩:=h;refine⟨xs,h1,h2.map λa p di=>?_⟩;unfold zA at di⊢;split at di
  .rename_i hb;rw[aW hb];have⟨ys,h3,h4⟩:=di;exact⟨ys,h3,h4.map λa b di=>di.drop k⟩
  .rename_i hb;rw[aY hb];have⟨c,h3,h4⟩:=di;exact⟨c.drop k,aI,h4.drop k⟩
def NX(h:J Cx ev R X Γ L E G)(k:Nat):ni ev ev R X L G R X (L.map (LO.drop k)) G (λ_=>False):=by
 refine .mk' (λ_ _ h=>h) (lq.refl h.fits) (λj cs hj=>⟨⟨cs.map (Cl.drop k),?_⟩,rfl⟩) (λj kt es hj=>⟨⟨es,?_⟩,rfl⟩) (λj s st cut fr z hj _=>⟨⟨st,?_⟩,rfl,λ_ _=>rfl⟩) (λj c st snap hj=>⟨⟨c,st,snap,?_⟩,rfl⟩)<;>simp[hj,LO.drop]
def KB{pv:PV B}:∀(g:Gm B),dk d t (Po k g)=aa pv->∃q,dk d t g=aa q/\pv=q.drop k:=by
 intro g;induction g with
 |nil=>intro h;cases h
 |cons p g ih=>
  have⟨a,b,q⟩:=p;intro h;rcases oK h with⟨rfl,rfl,rfl⟩|⟨h1,h2⟩
  all_goals simp_all[dk,aY]
def J.acP(h:J Cx ev R X Γ L E G)(k:Nat):J Cx ev R X (Po k Γ) (L.map (LO.drop k)) E G:=by
 have hs:=NX h k;refine{h with slot:=λd t pv hg=>?_,obj:=λj o hj=>?_,lt:=λj id hj=>by simpa using h.lt j id hj}
 .obtain⟨q,h1,rfl⟩:=KB Γ hg;exact((h.slot d t q h1).drop k).step hs (PV.bP _)
 .rw[Z7]at hj;obtain⟨o',h1,rfl⟩:=Lq.1 hj;have ho:=(h.obj j o' h1).step hs rfl (λ_ _=>⟨rfl,rfl⟩) (LO.bP _);cases o' with
  |var cs=>
   have⟨id,dR,a,b,c,d⟩:=ho;exact⟨id,dR,a,b,c,d.map λ_ _ di=>di.drop k⟩
  |row=>exact ho
  |mp=>exact ho
  |lp=>exact ho
  |dead=>exact ho
def J.wh(h:J Cx ev R X Γ L E G){lo mW:LO B}(hid:X k=aa id)(hk:L[k]?=aa lo)(hR:∀j,j≠id->R' j=R j)
 (hle:∀m,R id=aa m->∃m',R' id=aa m'/\m<=m')
 (U0:∀m cs aV mn,R id=aa m->G.at id=aa (.cells cs aV mn)->∃cL oi,gO=.cells cL oi mn/\aV<=oi/\∀j,j<m->cL[j]?=cs[j]?)
 (Fj:∀m cs aV mn,R' id=aa m->gO=.cells cs aV mn->m<=cs.length)
 (hv:∀cs,lo=.var cs->∃cL,mW=.var cL)(hm:∀kt es,lo=.mp kt es->∃bF,mW=.mp kt bF)(hr:∀s st cut fr z,lo=.row s st cut fr z->bad k)
 (Tw:∀d t pv,dk d t Γ=aa pv->pv.ok bad)(hL:∀j o,L[j]?=aa o->j≠k->o.ok bad)
 (ho:ni ev ev R X L G R' X (L.set k mW) (G.put id gO) bad->OR Cx ev R' X (L.set k mW) (G.put id gO) k mW)
 (Tx:∀c st snap,lo=.lp c st snap->∃c' eX Ii,mW=.lp c' eX Ii:=by intro _ _ _ h;cases h):
 ni ev ev R X L G R' X (L.set k mW) (G.put id gO) bad/\J Cx ev R' X Γ (L.set k mW) E (G.put id gO):=by
 have gR:=gr hk;have cg:∀j,j≠k->(L.set k mW)[j]?=L[j]? :=λj hj=>YQ λhc=>hj hc.symm;have cH:(L.set k mW)[k]?=aa mW:=aI;have No:∀j bY,j≠k->X j=aa bY->bY≠id:=λj bY hj tj hc=>hj (h.inj j k id aI hid)
 have u6:lq R G R' (G.put id gO):=by
  refine⟨λbY m hm=>?_,λbY m cs aV mn hm bx=>?_,λbY m cs aV mn hm bx=>?_⟩
  .grind
  .by_cases hc:bY=id
   .simp_all
   grind [St.eF]
  .by_cases hc:bY=id
   .simp_all
   .rw[St.eF,aY λhh=>hc hh.symm]at bx;exact h.fits bY m cs aV mn aI bx
 have hs:ni ev ev R X L G R' X (L.set k mW) (G.put id gO) bad:=by
  refine .mk' (λ_ _ h=>h) u6 (λj cs hj=>?_) (λj kt es hj=>?_) (λj s st cut fr z hj hb=>?_) λj c st snap hj=>?_
  .grind
  .grind
  .by_cases dg:j=k
   .grind
   grind [St.eF]
  grind
 refine⟨hs,⟨λd t pv hg=>(h.slot d t pv hg).step hs (Tw d t pv hg),λj o hj=>?_,h.inj,λj bY hj=>by simpa using h.lt j bY hj,λbY m hm=>?_,u6.fits,h.wf.set _ _,λbY mv=>?_⟩⟩
 .by_cases dg:j=k
  .grind
  .rw[cg j dg]at hj;exact(h.obj j o hj).step hs rfl (λbY mv=>⟨by grind [St.eF],hR _ (No j bY dg mv)⟩) (hL j o hj dg)
 .by_cases hc:bY=id
  .subst hc;exact(h.lt _ _ hid).2
  .rw[hR bY hc]at hm;exact h.tC _ _ hm
 .have:=(h.lt _ _ hid).2;have U1:G.n<=bY:=mv;rw[St.eF,aY ak];exact h.top bY U1
def J.aqk(h:J Cx ev R X Γ L E G){lo mW:LO B}(hk:L[k]?=aa lo)(hR:∀j,j≠G.n->R' j=R j)
 (Fj:∀m cs aV mn,R' G.n=aa m->gO=.cells cs aV mn->m<=cs.length)
 (hr:∃s st cut fr z,lo=.row s st cut fr z)(hb:bad k)
 (Tw:∀d t pv,dk d t Γ=aa pv->pv.ok bad)(hL:∀j o,L[j]?=aa o->j≠k->o.ok bad)
 (ho:ni ev ev R X L G R' (cY X k G.n) (L.set k mW) (G.add gO) bad->OR Cx ev R' (cY X k G.n) (L.set k mW) (G.add gO) k mW):
 ni ev ev R X L G R' (cY X k G.n) (L.set k mW) (G.add gO) bad/\J Cx ev R' (cY X k G.n) Γ (L.set k mW) E (G.add gO):=by
 have gR:=gr hk;have cg:∀j,j≠k->(L.set k mW)[j]?=L[j]? :=λj hj=>YQ λhc=>hj hc.symm;have cH:(L.set k mW)[k]?=aa mW:=by simp[gR]
 have mE:∀j,j≠k->cY X k G.n j=X j:=λj hj=>by simp[cY,hj]
 have u6:lq R G R' (G.add gO):=by
  refine⟨λbY m hm=>?_,λbY m cs aV mn hm bx=>?_,λbY m cs aV mn hm bx=>?_⟩
  .have:=h.tC _ _ hm;exact⟨m,by rw[hR bY ak];exact hm,XS _⟩
  .have:=h.tC _ _ hm;exact⟨cs,aV,by rw[St.kB,aY ak];exact bx,XS _,λ_ _=>rfl⟩
  .by_cases hc:bY=G.n
   .subst hc;rw[St.kB,aW rfl]at bx;exact Fj m cs aV mn hm (by injection bx)
   .rw[St.kB,aY λhh=>hc hh.symm]at bx;exact h.fits bY m cs aV mn (by rw[<-hR bY hc];exact hm) bx
 have hs:ni ev ev R X L G R' (cY X k G.n) (L.set k mW) (G.add gO) bad:=by
  obtain⟨s,st,cut,fr,z,rfl⟩:=hr;refine .mk' (λ_ _ h=>h) u6 (λj cs hj=>?_) (λj kt es hj=>?_) (λj s st cut fr z hj ua=>?_) λj c st snap hj=>?_
  .by_cases dg:j=k
   .subst dg;rw[hk]at hj;cases hj
   .exact⟨⟨cs,by rw[cg j dg];exact hj⟩,mE j dg⟩
  .by_cases dg:j=k
   .subst dg;rw[hk]at hj;cases hj
   .exact⟨⟨es,by rw[cg j dg];exact hj⟩,mE j dg⟩
  .by_cases dg:j=k
   .subst dg;exact bH hb ua
   .exact⟨⟨st,by rw[cg j dg];exact hj⟩,mE j dg,λbY mv=>by have:=(h.lt _ _ mv).2;rw[St.kB,aY ak]⟩
  .by_cases dg:j=k
   .subst dg;rw[hk]at hj;cases hj
   .exact⟨⟨c,st,snap,by rw[cg j dg];exact hj⟩,mE j dg⟩
 refine⟨hs,⟨λd t pv hg=>(h.slot d t pv hg).step hs (Tw d t pv hg),λj o hj=>?_,λj j' bY h1 h2=>?_,λj bY hj=>?_,λbY m hm=>?_,u6.fits,h.wf.set _ _,λbY mv=>?_⟩⟩
 .by_cases dg:j=k
  .subst dg;rw[cH]at hj;cases hj;exact ho hs
  .rw[cg j dg]at hj;refine(h.obj j o hj).step hs (mE j dg) (λbY mv=>?_) (hL j o hj dg);have:=(h.lt _ _ mv).2;exact⟨by rw[St.kB,aY ak],hR _ ak⟩
 .unfold cY at h1 h2;split at h1<;>split at h2
  .omega
  .cases h1;have:=(h.lt _ _ h2).2;omega
  .cases h2;have:=(h.lt _ _ h1).2;omega
  .exact h.inj j j' bY h1 h2
 .unfold cY at hj;split at hj
  .cases hj;simp;omega
  .have:=h.lt _ _ hj;simp;omega
 .by_cases hc:bY=G.n
  .simp;omega
  .rw[hR bY hc]at hm;have:=h.tC _ _ hm;simp;omega
 .have U1:G.n+1<=bY:=mv;rw[St.kB,aY ak];exact h.top bY ak
def Ik(α:Nat)(Z:Io)(w:Z0)(G:St)(id:Nat):Prop:=∃l,Z id 0=aa l/\G.at id=ah/\id<G.n/\α<=l.b/\w.heap[l.b]?=aa (.deferred (aa []))
def Ch(α:Nat)(Z:Io)(w:Z0)(G:St)(df:aj Df)(xs:aj Deferred):Prop:=α<=w.heap.size/\∃ids:aj Nat,oH Z (ids.map .zK++df) xs/\(∀id∈ids,Ik α Z w G id)/\ids.Nodup
def Ik.step(hi:Inv N Z G w)(hl:Le ro Z w G br w' aB)(h:Ik α Z w G id):Ik α br w' aB id:=by
 have⟨l,h1,h2,h3,h4,h5⟩:=h;exists l,hl.ext _ _ _ h1,hl.dead id h2 (.inl h3),Zu h3 hl.BO,h4;rw[hl.frame l.b (Xh.1 h5).1 λbY mv=>.inr ?_]
 .omega
 .rw[hi.inj bY id l.b mv ⟨0,l,h1,rfl⟩];omega
theorem Ch.step{xs:aj Deferred}(hi:Inv N Z G w)(hl:Le ro Z w G br w' aB)(h:Ch α Z w G df xs):Ch α br w' aB df xs:=by
 have⟨h0,ids,h1,h2,h3⟩:=h;exact⟨YE h0 hl.size,ids,h1.mono hl.ext,λid hid=>(h2 id hid).step hi hl,h3⟩
def Ch.start:Ch w.heap.size Z w G [] []:=⟨XS _,[],trivial,λ_ h=>(by cases h),List.nodup_nil⟩
def Aw(α N ro:Nat)(Z:Io)(w:Z0)(G:St)(cr:CR)(Q:Exit->Act->Z0->Prop):Prop:=
 ∀a' w' br ch,Inv N br cr.G w'->Le ro Z w G br w' cr.G->eg br cr.e a'.tmps->Ch α br w' cr.G cr.df a'.defers->V6 br ch cr.ex->Q (Kt ch cr.ex) a' w'
def Aw.from{cr:CR}{cO:Io}{w1:Z0}(h:Aw α N ro Z w G cr Q)(hi:Inv N Z G w)(hl:Le ro Z w G cO w1 aG)(hn:aG.n<=N):Aw α N ro cO w1 aG cr Q:=
 λa' w' br ch h1 h2 h3 h4 h5=>h a' w' br ch h1 (Le.trans (λid h1 h2=>hi.fresh id h1 ak) hl h2) h3 h4 h5
variable{R:Ending->Z0->Prop}{fn:Func}
theorem KC{ts:Array ZQ}{m:aF IV}{u:FrameMode}(hu:rV Z m u):∀{ids:aj Nat} {ds:aj Deferred} {w:Z0},oH Z (ids.map .zK++df) ds->(∀id∈ids,Ik α Z w G id)->ids.Nodup->Inv N Z G w->
 (∀w' sH,oH Z df sH->Inv N Z G w'->(∀ro jj w0 fI,w0.heap.size<=α->Le ro jj w0 fI Z w G->Le ro jj w0 fI Z w' G)->LeavesInM Z9 0 P fn ts R sH u w')->LeavesInM Z9 0 P fn ts R ds u w
 |[],ds,w,hd,_,_,hi,hQ=>hQ w ds hd hi λ_ _ _ _ _ h=>h
 |id::ids,d::ds,w,hd,U2,nj,hi,hQ=>by
  obtain⟨⟨l,hl,rfl⟩,E8⟩:=hd;have⟨l',dq,bx,aq,hB,hh⟩:=U2 id az;rw[hl]at dq;cases dq;have cd:=(Xh.1 hh).1
  have cg:∀b,b≠l.b->(w.heap.setIfInBounds l.b (.deferred ah))[b]?=w.heap[b]? :=λb hb=>by
   grind
  have mu:∀bY b,Own Z bY b->bY≠id->b≠l.b:=λbY b ho cg hb=>cg (hi.inj bY id l.b (hb▸ho) ⟨0,l,hl,rfl⟩)
  have i1:Inv N Z G {w with heap:=w.heap.setIfInBounds l.b (.deferred ah)}:=by
   refine⟨λb c hb=>?_,hi.sep,λbY b ho=>by simpa using hi.iO bY b ho,hi.fresh,hi.inj,λbY o ho=>?_,hi.wf⟩
   .have⟨e,f,h⟩:=hi.mem b c hb
    grind
   .have hid:bY≠id:=λhc=>by grind
    exact(hi.obj bY o ho).keep (Ext.refl _) (λ_=>rfl) λb hb=>cg b (mu bY b hb hid)
  have aql:∀bY∈ids,Ik α Z {w with heap:=w.heap.setIfInBounds l.b (.deferred ah)} G bY:=λbY mv=>by
   have⟨l',a1,a2,a3,a4,a5⟩:=U2 bY aI;have:bY≠id:=λhc=>by grind
   exact⟨l',a1,a2,a3,a4,by rw[cg _ (mu bY l'.b ⟨0,l',a1,rfl⟩ this)];omega⟩
  refine⟨Q3 hu,.inl ⟨l.b,_,rfl,?_,KC hu E8 aql (List.nodup_cons.1 nj).2 i1 λw' sH Hf iw hw=>hQ w' sH Hf iw λro jj w0 fI h0 hle=>hw ro jj w0 fI h0 ?_⟩⟩
  .simp only[Instr.takeDeferred,Z1,dS (P:=P) hh az,Rn,jl (P:=P) hh az,VV]
  .exact{hle with os:=hle.os,tape:=hle.tape,output:=hle.output,size:=aI,frame:=λb hb hc=>by rw[cg b ak];exact hle.frame b hb hc}
 |_::_,[],_,h,_,_,_,_=>h.elim
abbrev nN:=Ex->aK->St->Prop
def dP(P:V5)(N:Nat)(rd:aF Nat)(c:Code)(e:aK)(df:aj Df)(G:St)(CW:nN):Prop:=
 ∀α F Z a w Q,mT F rd Z->Inv N Z G w->eg Z e a.tmps->Ch α Z w G df a.defers->(∀ex e' aB,CW ex e' aB->Aw α N 0 Z w G ⟨ex,e',df,aB⟩ Q)->c.wpIn F 0 P Q a w
def sY(P:V5)(N:Nat)(rd:aF Nat)(j:Nat)(c:Code)(e:aK)(df:aj Df)(G:St)(CW:nN):Prop:=
 ∀α F Z a w Q,mT F rd Z->Inv N Z G w->eg Z e a.tmps->Ch α Z w G df a.defers->(∀ex e' aB,CW ex e' aB->Aw α N 0 Z w G ⟨ex,e',df,aB⟩ Q)->Code.roundsIn F 0 P c Q j a w
def eV(P:V5)(N:Nat)(rd:aF Nat)(ao:Array YX)(l:aj YX)(e:aK)(df:aj Df)(G:St)(CW:nN):Prop:=
 ∀α F Z a w Q k,ao.toList.drop k=l->mT F rd Z->Inv N Z G w->eg Z e a.tmps->Ch α Z w G df a.defers->(∀ex e' aB,CW ex e' aB->Aw α N 0 Z w G ⟨ex,e',df,aB⟩ Q)->
  wpOpsIn F 0 P ao Q (Ln k l.length) a w
def eO(P:V5)(N:Nat)(f:V4)(av:aj IV)(G:St)(RW:IV->St->Prop):Prop:=
 ∀Z us w,Inv N Z G w->bu Z av us->CallsIn Z9 0 P f us.toArray w λed w'=>∃v aB,RW v aB/\Cz N 0 Z w G v aB ed w'
def D0{ex:Ex}(hi:Inv N Z G w)(he:eg Z e a.tmps)(hd:Ch α Z w G df a.defers)(hQ:Aw α N 0 Z w G ⟨ex,e,df,G⟩ Q)(hp:V6 Z [] ex):Q (Kt [] ex) a w:=
 hQ a w Z [] hi (Le.refl _ _ _ _) he hd hp
variable{CW:nN}{x y c:Code}{av:aj IV}{f:V4}
theorem dP.skip(h:CW .normal e G):dP P N rd .skip e df G CW:=
 λ_ _ Z a w _ _ hi he hd hQ=>wpIn_skip (D0 hi he hd (hQ _ _ _ h) trivial)
theorem dP.label{l:Nat}(h:CW .normal e G):dP P N rd (.label l) e df G CW:=
 λ_ _ Z a w _ _ hi he hd hQ=>wpIn_label (D0 hi he hd (hQ _ _ _ h) trivial)
theorem dP.exit(h:CW (.exit id) e G):dP P N rd (.exit id) e df G CW:=
 λ_ _ Z a w _ _ hi he hd hQ=>wpIn_exit (D0 hi he hd (hQ _ _ _ h) trivial)
theorem dP.ret(h:CW .ret e G):dP P N rd .ret e df G CW:=
 λ_ _ Z a w _ _ hi he hd hQ=>wpIn_ret (D0 hi he hd (hQ _ _ _ h) trivial)
def Bj(N:Nat)(next:aK->St->Prop)(CW:nN):nN:=λex e1 aG=>aG.n<=N/\(ex=.normal->next e1 aG)/\(ex≠.normal->CW ex e1 aG)
theorem dP.seq(h:dP P N rd x e df G (Bj N (λe1 aG=>dP P N rd y e1 df aG CW) CW)):dP P N rd (.seq x y) e df G CW:=by
 intro α F Z a w Q hF hi he hd hQ;refine wpIn_seq (h α F Z a w _ hF hi he hd λex e1 aG hc=>?_);have⟨hn,h1,h2⟩:=hc;intro a1 w1 cO gP i1 l1 dt d1 p1;cases ex with
 |normal=>
  refine h1 rfl α F cO a1 w1 Q (hF.mono l1.ext) i1 dt d1 λex e' aB hc=>(hQ ex e' aB hc).from hi l1 hn
 |exit id=>exact hQ _ _ _ (h2 az) a1 w1 cO gP i1 l1 dt d1 p1
 |goto l=>exact hQ _ _ _ (h2 az) a1 w1 cO gP i1 l1 dt d1 p1
 |ret=>exact hQ _ _ _ (h2 az) a1 w1 cO gP i1 l1 dt d1 p1
 |dh v=>exact hQ _ _ _ (h2 az) a1 w1 cO gP i1 l1 dt d1 p1
theorem dP.cond{c:Xs}{t:Bool}(hc:aT e c=.raw (.bool t))(h:dP P N rd (if t then x else y) e df G CW):dP P N rd (.cond c x y) e df G CW:=
 λα F Z a w Q hF hi he hd hQ=>wpIn_cond (NN hc (he.eval c)) (h α F Z a w Q hF hi he hd hQ)
theorem dP.block(h:dP P N rd x e df G λex e1 aG=>CW (match ex with|.exit i=>if i=id then .normal else .exit i|ex=>ex) e1 aG):dP P N rd (.block id x) e df G CW:=by
 intro α F Z a w Q hF hi he hd hQ;refine wpIn_block (h α F Z a w _ hF hi he hd λex e1 aG hc=>?_);intro a1 w1 cO gP i1 l1 dt d1 p1;cases ex with
 |exit i=>
  simp only[Kt,aKZ];simp only at hc;split
  .rename_i hh;rw[aW hh]at hc;exact hQ _ _ _ hc a1 w1 cO gP i1 l1 dt d1 trivial
  .rename_i hh;rw[aY hh]at hc;exact hQ _ _ _ hc a1 w1 cO gP i1 l1 dt d1 trivial
 |normal=>exact hQ _ _ _ hc a1 w1 cO gP i1 l1 dt d1 p1
 |goto l=>exact hQ _ _ _ hc a1 w1 cO gP i1 l1 dt d1 p1
 |ret=>exact hQ _ _ _ hc a1 w1 cO gP i1 l1 dt d1 p1
 |dh v=>exact hQ _ _ _ hc a1 w1 cO gP i1 l1 dt d1 p1
theorem dP.scope(h:dP P N rd x e df G λex e1 aG=>(∀l,ex≠.goto l)/\CW ex e1 aG):dP P N rd (.scope x) e df G CW:=by
 intro α F Z a w Q hF hi he hd hQ;refine aHJ (h α F Z a w _ hF hi he hd λex e1 aG hc=>?_);have⟨hx,hc⟩:=hc;intro a1 w1 cO gP i1 l1 dt d1 p1;have:=hQ _ _ _ hc a1 w1 cO gP i1 l1 dt d1 p1;cases hh:ex<;>rw[hh]at this<;>first|grind|exact this
def sY.succ(h:dP P N rd x e df G (Bj N (λe1 aG=>sY P N rd j x e1 df aG CW) CW)):sY P N rd (j+1) x e df G CW:=by
 intro α F Z a w Q hF hi he hd hQ;rw[roundsIn_succ];refine h α F Z a w _ hF hi he hd λex e1 aG hc=>?_;have⟨hn,h1,h2⟩:=hc;intro a1 w1 cO gP i1 l1 dt d1 p1;cases ex with
 |normal=>
  refine h1 rfl α F cO a1 w1 Q (hF.mono l1.ext) i1 dt d1 λex e' aB hc=>(hQ ex e' aB hc).from hi l1 hn
 |exit id=>exact hQ _ _ _ (h2 az) a1 w1 cO gP i1 l1 dt d1 p1
 |goto l=>exact hQ _ _ _ (h2 az) a1 w1 cO gP i1 l1 dt d1 p1
 |ret=>exact hQ _ _ _ (h2 az) a1 w1 cO gP i1 l1 dt d1 p1
 |dh v=>exact hQ _ _ _ (h2 az) a1 w1 cO gP i1 l1 dt d1 p1
theorem dP.loop(h:sY P N rd j x e df G CW):dP P N rd (.loop x) e df G CW:=
 λα F Z a w Q hF hi he hd hQ=>wpIn_loop_rounds j (h α F Z a w Q hF hi he hd hQ)
theorem dP.region(h:eV P N rd ao ao.toList e df G CW):dP P N rd (.region id ao af) e df G CW:=by
 intro α F Z a w Q hF hi he hd hQ;refine wpIn_region ?_;have:=h α F Z a w Q 0 az hF hi he hd hQ
 simp_all[Yo]
def dP.ofS{fn:V4}{x:Ex}(h:∀df,jn P 0 rd fn c e df G ⟨x,e',df,aB⟩)(hn:aB.n<=N)(hc:CW x e' aB):dP P N rd c e df G CW:=by
 intro α F Z a w Q hF hi he hd hQ;have⟨hB,ids,h1,h2,nj⟩:=hd;refine(h (ids.map .zK++df)).wp hn hF hi he h1 ?_;intro a' w' br ch i1 l1 e1 d1 p1;exact hQ _ _ _ hc a' w' br ch i1 l1 e1 ⟨YE hB l1.size,ids,d1,λid hid=>(h2 id hid).step hi l1,nj⟩ p1
def eV.nil(h:CW .normal e G):eV P N rd ao [] e df G CW:=
 λ_ _ Z a w _ _ _ _ hi he hd hQ=>D0 hi he hd (hQ _ _ _ h) trivial
def eV.cons(hw:bE o ao e=ab)
 (h:∀α F Z a w Q k,ao.toList.drop (k+1)=l->mT F rd Z->Inv N Z G w->eg Z e a.tmps->Ch α Z w G df a.defers->(∀ex e' aB,CW ex e' aB->Aw α N 0 Z w G ⟨ex,e',df,aB⟩ Q)->
  o.wpIn F 0 P a w (wpOpsIn F 0 P ao Q (Ln (k+1) l.length)) Q):eV P N rd ao (o::l) e df G CW:=by
 intro α F Z a w Q k hl hF hi he hd hQ
 have lh:ao.toList.drop (k+1)=l:=by
  rw[<-UF (i:=1) (j:=k),hl];rfl
 have bM:ao[k]?=aa o:=by
  have:(ao.toList.drop k)[0]?=aa o:=aI
  grind
 simp only[Zx,XA];rw[wpOpsIn_cons];unfold wpOpIn;rw[bM];simp only;rw[xI he,aW hw]
 grind
def eV.skip(hw:bE o ao e=af)(h:eV P N rd ao l (e.put o.dst .undef) df G CW):eV P N rd ao (o::l) e df G CW:=by
 intro α F Z a w Q k hl hF hi he hd hQ
 have lh:ao.toList.drop (k+1)=l:=by
  rw[<-UF (i:=1) (j:=k),hl];rfl
 have bM:ao[k]?=aa o:=by
  have:(ao.toList.drop k)[0]?=aa o:=aI
  grind
 simp only[Zx,XA];rw[wpOpsIn_cons];unfold wpOpIn;rw[bM];simp only;rw[xI he,hw,aY az];exact⟨λf _=>hF.fn f,h α F Z _ w Q (k+1) lh hF hi (he.put xg _) (by cases o.dst<;>exact hd) hQ⟩
theorem eV.val{v:IV}{aG:St}(hw:bE o ao e=ab)(hv:aN P 0 (aT e) o G=aa (.val v aG))(hn:aG.n<=N)(h:eV P N rd ao l (e.put o.dst v) df aG CW):eV P N rd ao (o::l) e df G CW:=by
 refine .cons hw λα F Z a w Q k hl hF hi he hd hQ=>?_;exists λf _=>hF.fn f;rw[TU _ _ _ (lj hv az)];have⟨u,w',br,hr,h2,h3,h4⟩:=tx hi he.eval hv hn
 have key:=
  h α F br _ w' Q (k+1) hl (hF.mono h4.ext) h3 ((he.mono h4.ext).put h2 _) (by have:=hd.step hi h4;cases o.dst<;>exact this) λex e' aB hc=>(hQ ex e' aB hc).from hi h4 hn
 rcases hr with hr|⟨hr,rfl⟩
 all_goals simp_all[T9,aKr]
def eV.call{f:V4}{av:aj IV}{RW:IV->St->Prop}(hw:bE o ao e=ab)(hv:aN P 0 (aT e) o G=aa (.enter f av))(hc:eO P N f av G RW)
 (h:∀v aG,RW v aG->aG.n<=N/\eV P N rd ao l (e.put o.dst v) df aG CW):eV P N rd ao (o::l) e df G CW:=by
 refine .cons hw λα F Z a w Q k hl hF hi he hd hQ=>?_;exists λf _=>hF.fn f;rw[TU _ _ _ (lj hv az)];have⟨us,hr,h3⟩:=tx hi he.eval hv;rw[hr,Th];refine⟨hF.depth,(hF.calls (hc Z us w hi h3)).mono λed w' hR=>?_⟩;have⟨v,aG,yu,hR⟩:=hR;have⟨hn,h⟩:=h v aG yu;cases ed with
 |returned u=>
  have⟨br,h2,h3,h4⟩:=hR;exact h α F br _ w' Q (k+1) hl (hF.mono h4.ext) h3 ((he.mono h4.ext).put h2 _) (by have:=hd.step hi h4;cases o.dst<;>exact this) λex e' aB hc=>(hQ ex e' aB hc).from hi h4 hn
 |outgrown=>cases hR
 |panicked chain=>cases hR
def eO.ofS(h:kK P 0 f av G v aB)(hn:aB.n<=N):eO P N f av G (λv1 aG=>v1=v/\aG=aB):=
 λZ us w hi hr=>(h.2 N hn Z us w hi hr).mono λed w' hR=>⟨v,aB,⟨rfl,rfl⟩,hR⟩
variable{RW PW:IV->St->Prop}
theorem eO.body(dX:P.funcs[f]?=aa fn)(hb:fn.body=aa c)(bf:av.length<=fn.ntmps)
 (h:dP P N ah c (fV av fn.ntmps) [] G λex e1 aG=>(ex=.normal\/ex=.ret)/\aG.n<=N/\∃v,fv P fn e1 aG=aa v/\RW v aG):eO P N f av G RW:=by
 intro Z us w hi hr;refine callsIn_of_wp_marks dX hb trivial ?_;refine h w.heap.size Z9 Z {tmps:=us.toArray++Nq (fn.ntmps- us.toArray.size) ZL,defers:=[]} w _ (.inl ⟨rfl,rfl⟩) hi (DW hr bf) Ch.start λex e1 aG hc=>?_;have⟨hex,hn,v,hv,yu⟩:=hc;intro a1 w1 cO gP i1 l1 dt d1 p1;have⟨_,ids,dd1,dd2,dd3⟩:=d1
 have:∀u,rV cO ah u->LeavesInM Z9 0 P fn a1.tmps (λed w'=>∃v aB,RW v aB/\Cz N 0 Z w G v aB ed w') a1.defers u w1:=λu hu=>
  KC hu dd1 dd2 dd3 i1 λw2 Wx M8 i2 l2=>by
   obtain rfl:=M8.nil;rw[show u=_ from hu];have⟨u,k1,k2⟩:=yh hv i2 dt;exact⟨u,k1,v,aG,yu,cO,k2,i2,l2 _ _ _ _ (XS _) l1⟩
 rcases hex with rfl|rfl
 .exact this _ rfl
 .exact this _ rfl
def yv(P:V5)(N:Nat)(f:V4)(av:aj IV)(G:St)(RW PW:IV->St->Prop):Prop:=
 ∀Z us w,Inv N Z G w->bu Z av us->CallsIn Z9 0 P f us.toArray w λed w'=>(∃v aB,RW v aB/\Cz N 0 Z w G v aB ed w')\/(∃v aB,PW v aB/\UW N 0 Z w G v aB ed w')
def eO.toX(h:eO P N f av G RW):yv P N f av G RW PW:=
 λZ us w hi hr=>(h Z us w hi hr).mono λ_ _ hR=>.inl hR
theorem yv.toW(h:yv P N f av G RW PW)(hp:∀v aB,¬PW v aB):eO P N f av G RW:=
 λZ us w hi hr=>(h Z us w hi hr).mono λ_ _ hR=>hR.elim id λ⟨v,aB,h,_⟩=>bH h (hp v aB)
def eV.panic(hw:bE o ao e=ab)(hv:aN P 0 (aT e) o G=aa (.dh v))(h:CW (.dh v) e G):eV P N rd ao (o::l) e df G CW:=by
 refine .cons hw λα F Z a w Q k hl hF hi he hd hQ=>?_;exists λf _=>hF.fn f;rw[TU _ _ _ (lj hv az)];have⟨u,hr,h3⟩:=tx hi he.eval hv;rw[hr,Oper.uponIn_panic];exact hQ _ _ _ h a w Z [{v:=u,recovered:=af}] hi (Le.refl _ _ _ _) he hd ⟨u,rfl,h3⟩
def eV.acR(hw:bE o ao e=ab)(hv:aN P 0 (aT e) o G=aa (.enter f av))(hc:yv P N f av G RW PW)
 (h:∀v aG,RW v aG->aG.n<=N/\eV P N rd ao l (e.put o.dst v) df aG CW)(hp:∀v aG,PW v aG->CW (.dh v) e aG):eV P N rd ao (o::l) e df G CW:=by
 refine .cons hw λα F Z a w Q k hl hF hi he hd hQ=>?_;exists λf _=>hF.fn f;rw[TU _ _ _ (lj hv az)];have⟨us,hr,h3⟩:=tx hi he.eval hv;rw[hr,Th];refine⟨hF.depth,(hF.calls (hc Z us w hi h3)).mono λed w' hR=>?_⟩;rcases hR with⟨v,aG,yu,hR⟩|⟨v,aG,hpw,hR⟩
 .have⟨hn,h⟩:=h v aG yu;cases ed with
  |returned u=>
   have⟨br,h2,h3,h4⟩:=hR;exact h α F br _ w' Q (k+1) hl (hF.mono h4.ext) h3 ((he.mono h4.ext).put h2 _) (by have:=hd.step hi h4;cases o.dst<;>exact this) λex e' aB hc=>(hQ ex e' aB hc).from hi h4 hn
  |outgrown=>cases hR
  |panicked chain=>cases hR
 .cases ed with
  |returned u=>cases hR
  |outgrown=>cases hR
  |panicked chain=>
   have⟨br,h4,h5,h6⟩:=hR;exact hQ _ _ _ (hp v aG hpw) a w' br chain h5 h6 (he.mono h6.ext) (hd.step hi h6) h4
def Dy(G:St)(id:Nat)(x:IV):St:=((G.add (.cells [.int 0] 0 0)).put G.n (.cells [x] 0 0)).put id (.cells [x] 0 0)
def KD(P:V5)(g:V4)(t:VK):Prop:=
 ∀(N:Nat) (cl:IV) (f:V4) (as:aj IV) (G:St) (RW PW RW0:IV->St->Prop),kA P cl []=aa (.enter f as)->G.n+1<=N->yv P N f as (G.add (.cells [.int 0] 0 0)) RW PW->
  (∀v dJ,RW v dJ->dJ.at G.n=aa (.cells [.int 0] 0 0)/\dJ.n<=N/\RW0 (.int 0) (dJ.put G.n (.cells [.int 0] 0 0)))->
  (∀v dJ,PW v dJ->∃u,v=.eT t (.agg [.raw u])/\aw (.raw u)=ab/\dJ.at G.n=aa (.cells [.int 0] 0 0)/\dJ.n+1<=N/\G.n<dJ.n/\RW0 (.raw u) (Dy dJ G.n (.raw u)))->eO P N g [cl] G RW0
theorem yv.body(dX:P.funcs[f]?=aa fn)(hb:fn.body=aa c)(bf:av.length<=fn.ntmps)
 (h:dP P N ah c (fV av fn.ntmps) [] G λex e1 aG=>aG.n<=N/\(((ex=.normal\/ex=.ret)/\∃v,fv P fn e1 aG=aa v/\RW v aG)\/∃v,ex=.dh v/\PW v aG)):yv P N f av G RW PW:=by
 intro Z us w hi hr;refine callsIn_of_wp_marks dX hb trivial ?_;refine h w.heap.size Z9 Z {tmps:=us.toArray++Nq (fn.ntmps- us.toArray.size) ZL,defers:=[]} w _ (.inl ⟨rfl,rfl⟩) hi (DW hr bf) Ch.start λex e1 aG hc=>?_;have⟨hn,hc⟩:=hc;intro a1 w1 cO gP i1 l1 dt d1 p1;have⟨_,ids,dd1,dd2,dd3⟩:=d1;rcases hc with⟨hex,v,hv,yu⟩|⟨v,rfl,hpw⟩
 .have:∀u,rV cO ah u->LeavesInM Z9 0 P fn a1.tmps (λed w'=>(∃v aB,RW v aB/\Cz N 0 Z w G v aB ed w')\/(∃v aB,PW v aB/\UW N 0 Z w G v aB ed w')) a1.defers u w1:=λu hu=>
   KC hu dd1 dd2 dd3 i1 λw2 Wx M8 i2 l2=>by
    obtain rfl:=M8.nil;rw[show u=_ from hu];have⟨u,k1,k2⟩:=yh hv i2 dt;exact⟨u,k1,.inl ⟨v,aG,yu,cO,k2,i2,l2 _ _ _ _ (XS _) l1⟩⟩
  rcases hex with rfl|rfl
  .exact this _ rfl
  .exact this _ rfl
 .have:∀u,rV cO (aa v) u->LeavesInM Z9 0 P fn a1.tmps (λed w'=>(∃v aB,RW v aB/\Cz N 0 Z w G v aB ed w')\/(∃v aB,PW v aB/\UW N 0 Z w G v aB ed w')) a1.defers u w1:=λu hu=>
   KC hu dd1 dd2 dd3 i1 λw2 Wx M8 i2 l2=>by
    obtain rfl:=M8.nil;obtain⟨x,rfl,hx⟩:=hu;exact .inr ⟨v,aG,hpw,cO,⟨x,rfl,hx⟩,i2,l2 _ _ _ _ (XS _) l1⟩
  obtain⟨u,rfl,hu⟩:=p1;exact this _ ⟨u,rfl,hu⟩
def fe.Ty{aH:Bool}{xs:aj IV}{z:IV}(h:eO P N f xs ⟨0,.lf⟩ RW)(hc:∀v aB,RW v aB->Can (!aH) aB v z):fe P af aH f xs z:=by
 intro M w us hM hr;refine(h (ll M) us w (Ra hM) hr).mono λe w' hR=>?_;have⟨v,aB,yu,hR⟩:=hR;cases e with
 |returned u=>
  have⟨br,h1,h2,h3⟩:=hR;exact⟨rfl,aan hM (hc v aB yu) h1 h2 h3⟩
 |panicked ch=>cases hR
 |outgrown=>assumption
end
variable{m n kt clock:Nat}{bO:Array Bool}{F:Fence}{Q':Exit->Act->Z0->Prop}{CW:nN}{ds rem:aj IV}
section
attribute [local instance] aqi
structure gS where
 nt:Nat
 dI:aj Nat
 emp:aj Nat
 tg:aj (Nat×Nat):=[]
 ld:aj (Nat×Nat×Nat×Nat):=[]
 os:aj Nat:=[]
 ox:aj Nat:=[]
 fr:aj Nat:=[]
 lo:aj (Nat×Nat×Nat):=[]
 mg:aj (Nat×Nat):=[]
 pv:aj Nat:=[]
def gT(l:aj Nat)(t:Nat):Bool:=l.any (ZW t)
def Fk(l:aj Nat):Xs->Bool
 |.tmp t=>gT l t
 |_=>af
def gS.del(T:gS):aF Nat->gS
 |some d=>⟨T.nt,T.dI.filter λt=> !ZW t d,T.emp.filter λt=> !ZW t d,T.tg.filter λp=> !ZW p.1 d,T.ld.filter λp=> !ZW p.2.1 d&& !ZW p.2.2.1 d,T.os.filter λt=> !ZW t d,T.ox.filter λt=> !ZW t d,T.fr.filter λt=> !ZW t d,T.lo.filter λp=> !ZW p.2.1 d&& !ZW p.2.2 d,T.mg.filter λp=> !ZW p.1 d,T.pv.filter λt=> !ZW t d⟩
 |none=>T
def Bl(o:YX):aF Xs:=
 match o.op with
 |.move x=>aa x
 |.nilCheck x=>aa x
 |_=>ah
def Wy(T:gS)(o:YX):gS:=
 let D:=T.del o.dst
 match o.dst with
 |some d=>if !UO d T.nt then D else match o.op with
  |.fieldAddr _ x _=>if Fk T.dI x then{D with dI:=d::D.dI}else D
  |.buildSlice _ 0 _=>if o.guard.isNone then{D with emp:=d::D.emp}else D
  |_=>match Bl o with
   |some x=>if Fk T.dI x then{D with dI:=d::D.dI}else D
   |none=>D
 |_=>D
def CE(l:aj (Nat×Nat))(t:Nat):aF Nat:=
 match l with
 |[]=>ah
 |(a,h)::l=>if ZW a t then aa h else CE l t
def Wz(T:gS)(o:YX):aj (Nat×Nat):=
 match o.guard,o.dst,o.op with
 |none,aa d,.fieldAddr _ (.tmp x) _=>(match CE T.tg x with
  |some h=>if UO d T.nt then(d,h)::(T.del o.dst).tg else(T.del o.dst).tg
  |none=>(T.del o.dst).tg)
 |none,aa d,_=>(match Bl o with
  |some (.tmp x)=>(match CE T.tg x with
   |some h=>if UO d T.nt then(d,h)::(T.del o.dst).tg else(T.del o.dst).tg
   |none=>(T.del o.dst).tg)
  |_=>(T.del o.dst).tg)
 |_,_,_=>(T.del o.dst).tg
def WA(T:gS)(o:YX)(j:Nat):aj (Nat×Nat×Nat×Nat):=
 match dD o with
 |.pure=>(T.del o.dst).ld
 |.load=>(match o.guard,o.dst,o.op with
  |none,aa d,.load _ (.tmp a)=>(match CE T.tg a with
   |some h=>if UO d T.nt&& !ZW a d then(j,a,d,h)::(T.del o.dst).ld else(T.del o.dst).ld
   |none=>(T.del o.dst).ld)
  |_,_,_=>(T.del o.dst).ld)
 |_=>[]
def acS(T:gS)(o:YX):aj Nat:=
 match o.dst,Bl o with
 |some d,aa x=>if Fk T.os x&&UO d T.nt then d::(T.del o.dst).os else(T.del o.dst).os
 |_,_=>(T.del o.dst).os
def WB(T:gS)(o:YX):aj Nat:=
 match o.guard,o.dst,o.op with
 |none,aa d,.load _ (.tmp a)=>if gT T.pv a&&UO d T.nt then d::(T.del o.dst).os else(T.del o.dst).os
 |_,_,_=>acS T o
def WC(T:gS)(o:YX):aj Nat:=
 match dD o with
 |.pure=>(match o.guard,o.dst,o.op with
  |none,aa d,.fieldAddr _ (.tmp x) _=>if gT T.pv x&&UO d T.nt then d::(T.del o.dst).pv else(T.del o.dst).pv
  |_,_,_=>(T.del o.dst).pv)
 |.load=>(T.del o.dst).pv
 |.alloc=>(match o.op with
  |.alloc _=>(T.del o.dst).pv
  |_=>[])
 |_=>[]
def WD(T:gS)(o:YX):aj Nat:=
 match o.dst,o.op with
 |some d,.indexAddr _ x _=>if Fk T.os x&&UO d T.nt then d::(T.del o.dst).ox else(T.del o.dst).ox
 |_,_=>(T.del o.dst).ox
def WE(T:gS)(o:YX):aj Nat:=
 match o.guard,o.dst,o.op with
 |none,aa d,.alloc _=>if UO d T.nt then d::(T.del o.dst).fr else(T.del o.dst).fr
 |_,_,_=>(T.del o.dst).fr
def WG(T:gS)(o:YX)(j:Nat):aj (Nat×Nat×Nat):=
 match dD o with
 |.pure=>(T.del o.dst).lo
 |.load=>(match o.guard,o.dst,o.op with
  |none,aa d,.load _ (.tmp a)=>if(gT T.ox a||gT T.dI a)&&UO d T.nt&& !ZW a d then(j,a,d)::(T.del o.dst).lo else(T.del o.dst).lo
  |_,_,_=>(T.del o.dst).lo)
 |.alloc=>(match o.op with
  |.alloc _=>(T.del o.dst).lo
  |_=>[])
 |_=>[]
def WH(T:gS)(o:YX):aj (Nat×Nat):=
 match o.guard,o.dst,Bl o with
 |none,aa d,aa (.tmp x)=>(match CE T.mg x with
  |some h=>if UO d T.nt then(d,h)::(T.del o.dst).mg else(T.del o.dst).mg
  |none=>(T.del o.dst).mg)
 |_,_,_=>(T.del o.dst).mg
def JX(T:gS)(o:YX)(j:Nat):gS:={Wy T o with tg:=Wz T o,ld:=WA T o j,os:=WB T o,ox:=WD T o,fr:=WE T o,lo:=WG T o j,mg:=WH T o,pv:=WC T o}
def Il(pl:fK)(j:Nat):Bool:=
 (YF j).all λi=>RD (pl.dp.getD j 0) i||(match pl.kinds.getD i .effect with|.alloc|.effect|.call=>af|_=>ab)
def aqm(pl:fK)(j:Nat):Bool:=
 (YF j).all λi=>RD (pl.dp.getD j 0) i||(match pl.kinds.getD i .effect with|.effect=>af|_=>ab)
def Im(pl:fK)(j:Nat):Bool:=
 (YF j).all λi=>RD (pl.dp.getD j 0) i||(match pl.kinds.getD i .effect with|.pure=>ab|_=>af)
def Ri(o:YX):aF Xs:=
 match o.op with
 |.call {callee:=.builtin .append,args,.. }=>args.toList.head?
 |_=>ah
def Rj(P:V5)(o:YX):Bool:=
 match o.op with
 |.call {callee:=.builtin .len,argTypes,.. }=>match(argTypes[0]?).bind P.underlying with
  |some (.slice _)|some .string=>ab
  |_=>af
 |_=>af
def KE(pl:fK)(T:gS)(o:YX)(j:Nat):Bool:=
 match o.guard,o.op with
 |none,.store _ (.tmp a) _=>(match CE T.tg a with
  |some g=>Il pl j&&(YF j).all λi=>RD (pl.dp.getD j 0) i||(match pl.kinds.getD i .effect with
   |.load=>T.ld.any λp=>ZW p.1 i&& !ZW p.2.2.2 g
   |.effect=>af
   |_=>ab)
  |none=>gT T.fr a&&(Il pl j&&(YF j).all λi=>RD (pl.dp.getD j 0) i||(match pl.kinds.getD i .effect with
   |.load=>T.lo.any λp=>ZW p.1 i
   |.effect=>af
   |_=>ab)))
 |none,.mapUpdate _ (.tmp a) _ _=>(match CE T.mg a with
  |some g=>Il pl j&&(YF j).all λi=>RD (pl.dp.getD j 0) i||(match pl.kinds.getD i .effect with
   |.load=>T.ld.any λp=>ZW p.1 i&& !ZW p.2.2.2 g
   |.effect=>af
   |_=>ab)
  |none=>af)
 |_,_=>af
def pe(P:V5)(pl:fK)(T:gS)(o:YX)(j:Nat):Bool:=
 match pl.kinds.getD j .effect with
 |.pure=>dD o==.pure
 |.alloc=>dD o==.alloc&&ab
 |.load=>dD o==.load&&(Il pl j||(aqm pl j&&(Rj P o||match o.op with|.load _ a=>Fk T.dI a|_=>af)))
 |.call=>dD o==.call&&Il pl j&&(Hd o||(match Ri o with|some a=>Fk T.emp a|none=>af))
 |.effect=>Im pl j||KE pl T o j
def lu(P:V5)(pl:fK):aj (YX×Nat)->gS->Bool
 |[],_=>ab
 |(o,j)::l,T=>pe P pl T o j&&lu P pl l (JX T o j)
def Ip(n0:Nat)(x:IV):Prop:=(∃id ay ep ext,x=.ptr id ay ep ext/\id<n0)\/(∃cs,x=.pF cs)\/x=.undef
structure om(n0:Nat)(e:aK)(T:gS):Prop where
 n:e.n=T.nt
 dI:∀t,gT T.dI t=ab->Ip n0 (e.at t)
 emp:∀t,gT T.emp t=ab->e.at t=.emp
variable{l:aj Nat}{n0 ay ep h:Nat}{x a:Xs}{Y:Xs->IV}{p:YX}{ty:VK}{dst:aF Nat}
def Ax(h:gT (l.filter λt=> !ZW t d) t=ab):gT l t=ab/\t≠d:=by
 simp only[gT,UC]at h⊢;have⟨x,hx,hxt⟩:=h;have⟨h1,h2⟩:=Qz.1 hx;have:=ZR hxt
 grind
def kE(h:gT (d::l) t=ab):t=d\/gT l t=ab:=by
 simp_all[gT]
def iz(h:t≠d):(e.put (aa d) v).at t=e.at t:=by
 grind [aK.put,aK.at,T.jS]
def dm(h:d<e.n):(e.put (aa d) v).at d=v:=by
 simp_all[aK.put,aK.at,T.jS]
def aqn(e:aK)(d:aF Nat)(v:IV):(e.put d v).n=e.n:=by
 unfold aK.put
 grind
theorem om.del{T:gS}(h:om n0 e T)(d:aF Nat)(v:IV):om n0 (e.put d v) (T.del d):=by
 cases d with
 |none=>exact h
 |some d=>
  refine⟨by rw[aqn];exact h.n,λt ht=>?_,λt ht=>?_⟩
  .have⟨h1,h2⟩:=Ax ht;rw[iz h2];exact h.dI t h1
  .have⟨h1,h2⟩:=Ax ht;rw[iz h2];exact h.emp t h1
def KF{T:gS}(h:om n0 e T)(hx:Fk T.dI x=ab):Ip n0 (aT e x):=by
 cases x with
 |tmp t=>exact h.dI t hx
 |_=>cases hx
def afA{T:gS}(h:om n0 e T)(hx:Fk T.emp x=ab):aT e x=.emp:=by
 cases x with
 |tmp t=>exact h.emp t hx
 |_=>cases hx
def Ay(h:Bl o=aa x):dD o=.pure:=by
 unfold Bl at h;unfold dD
 grind
def Mc(h:Bl o=aa x)(hv:aN P ro Y o G=aa (.val v aG)):v=Y x:=by
 unfold Bl at h;unfold aN at hv;split at h<;>try (cases h;done)
 .rename_i ho;cases h;rw[ho]at hv;have:=bK hv
  grind
 .rename_i ho;cases h;rw[ho]at hv
  repeat' split at hv
  all_goals try grind
  all_goals (have:=bK hv;grind)
def om.avP{T:gS}(h:om n0 e T)(hv:aN P ro (aT e) o G=aa (.val v aG)):om n0 (e.put o.dst v) (Wy T o):=by
 have hd:=h.del o.dst v;unfold Wy;split<;>try exact hd
 rename_i d gh;split<;>try omega
 have jV:d<e.n:=by simp_all[h.n]
 split
 .split
  .rename_i hx;refine⟨hd.n,λt ht=>?_,hd.emp⟩;rcases kE ht with rfl|ht
   .rw[gh,dm jV];have ho:=KF h hx;simp only[aN,‹o.op=_›]at hv
    repeat' split at hv
    all_goals try grind
    .rename_i he _;rcases ho with⟨bY,H4,ep',ext',h1,h2⟩|⟨cs,h1⟩|h1
     .rw[he]at h1;cases h1;have:=bK hv;cases this;exact .inl ⟨_,_,_,_,rfl,h2⟩
     .grind
     .rw[he]at h1;cases h1
    .have:=bK hv;cases this;exact .inr (.inl ⟨_,rfl⟩)
   .exact hd.dI t ht
  omega
 .rename_i t0 parts ho;split<;>try exact hd
  refine⟨hd.n,hd.dI,λt ht=>?_⟩;rcases kE ht with rfl|ht
  .rw[gh,dm jV];simp only[aN]at hv
   repeat' split at hv
   all_goals try grind
   all_goals first|(have:=bK hv;grind)|omega|skip
  .exact hd.emp t ht
 .split<;>try exact hd
  rename_i x hp;split<;>try exact hd
  rename_i hx;refine⟨hd.n,λt ht=>?_,hd.emp⟩;rcases kE ht with rfl|ht
  .rw[gh,dm jV,Mc hp hv];exact KF h hx
  .exact hd.dI t ht
def om.avQ{T:gS}(h:om n0 e T)(hw:(bE o ao e=af/\v=.undef)\/dD o=.call\/dD o=.effect):om n0 (e.put o.dst v) (Wy T o):=by
 have hd:=h.del o.dst v;unfold Wy;split
 .rename_i d gh;split<;>try omega
  have jV:d<e.n:=by simp_all[h.n]
  rcases hw with⟨hw,rfl⟩|hw
  .split
   .split
    .refine⟨hd.n,λt ht=>?_,hd.emp⟩;rcases kE ht with rfl|ht
     .rw[gh,dm jV];exact .inr (.inr rfl)
     .exact hd.dI t ht
    omega
   .grind [bE]
   .split
    .split
     .refine⟨hd.n,λt ht=>?_,hd.emp⟩;rcases kE ht with rfl|ht
      .rw[gh,dm jV];exact .inr (.inr rfl)
      .exact hd.dI t ht
     omega
    omega
  .unfold dD at hw;split<;>try grind
   split
   .rename_i hp;have hk:=Ay hp
    simp_all[dD]
   omega
 omega
def acT{t:VK}(ho:o.op=.load t a)(ha:Ip n0 (aT e a))(hv:aN P ro (aT e) o G=aa (.val v aG))(Cg:∀id,id<n0->aB.at id=G.at id)(ja:Nat):
 aN P ja (aT e) o aB=aa (.val v aB):=by
 simp only[aN,ho]at hv⊢;rcases ha with⟨id,ay,ep,ext,h1,h2⟩|⟨cs,h1⟩|h1
 .simp only[h1]at hv⊢;rw[Cg id h2]
  repeat' split at hv
  all_goals simp_all[ret]
 .rw[h1]at hv⊢
  repeat' split at hv
  all_goals simp_all[ret]
 simp_all[IV.undef]
def aiC(h:Rj P o=ab)(hv:aN P ro (aT e) o G=aa (.val v aG))(ja:Nat)(aB:St):aN P ja (aT e) o aB=aa (.val v aB):=by
 unfold Rj at h;split at h<;>try grind
 rename_i av ats ho
 have hl:∀x τ τ' u,s9 P ats x τ=aa u->s9 P ats x τ'=aa u:=by
  intro x τ τ' u hu;unfold s9 at hu⊢
  grind
 simp only[aN,ho,gI]at hv⊢;split at hv<;>try grind
 have⟨u,hu,hv⟩:=Lq.1 hv
 grind
def aqo(hb:Ri o=aa a)(ha:aT e a=.emp)(hv:aN P ro (aT e) o G=aa (.val v aG)):(∀ja,aN P ja (aT e) o G=aa (.val v aG))/\(aG=G\/∃ob,aG=G.add ob):=by
 unfold Ri at hb;split at hb<;>try (cases hb;done)
 rename_i av ats fU;simp only[aN,fU]at hv⊢;unfold gI at hv⊢;split at hv
 .split at hv<;>try (cases hv;done)
  rename_i s x cj
  have hs:s=.emp:=by
   cases hl:av.toList with
   |nil=>rw[hl]at hb;cases hb
   |cons y l=>
    rw[hl]at hb cj;simp only[List.head?_cons,ZY]at hb;subst hb;simp only[List.map_cons,Tg]at cj;rw[<-cj.1,ha]
  subst hs;unfold oP at hv⊢
  repeat' split at hv
  all_goals try (cases hv;done)
  simp only[gH]at hv⊢;split at hv
  .have:=bK hv;cases this;refine⟨λ_=>?_,.inl rfl⟩
   simp_all
  .exists λ_=>jw;unfold iY at hv
   repeat' split at hv
   all_goals try (cases hv;done)
   have:=bK hv;cases this;exact .inr ⟨_,rfl⟩
 all_goals (first|(exfalso;simp_all;done)|(simp_all;done))
def om.step{T:gS}(j:Nat)(h:om n0 e T)(hv:aN P ro (aT e) o G=aa (.val v aG)):om n0 (e.put o.dst v) (JX T o j):=
 have:=h.avP hv
 ⟨this.n,this.dI,this.emp⟩
def om.skip{n0:Nat}{e:aK}{T:gS}{v:IV}{ao:Array YX}(j:Nat)(h:om n0 e T)(hw:(bE o ao e=af/\v=.undef)\/dD o=.call\/dD o=.effect):om n0 (e.put o.dst v) (JX T o j):=
 have:=h.avQ hw
 ⟨this.n,this.dI,this.emp⟩
structure uu(P:V5)(ao:Array YX)(θ:Nat->aF Nat)(e:aK)(G:St)(T:gS):Prop where
 tg:∀t h,(t,h)∈T.tg->∃id ay ep ext,θ h=aa id/\e.at t=.ptr id ay ep ext
 ld:∀i a d h,(i,a,d,h)∈T.ld->∃p ty id ay ep ext,ao[i]?=aa p/\p.op=.load ty (.tmp a)/\p.dst=aa d/\θ h=aa id/\e.at a=.ptr id ay ep ext/\aN P 0 (aT e) p G=aa (.val (e.at d) G)
 mg:∀t h,(t,h)∈T.mg->∃id,θ h=aa id/\e.at t=.map id
theorem uw:∀{l:aj (Nat×Nat)} {t h:Nat},CE l t=aa h->(t,h)∈l
 |[],_,_,h=>by cases h
 |(a,q)::l,t,h,hh=>by
  unfold CE at hh;split at hh
  .simp_all
  .exact Ys _ (uw hh)
def Iq(hp:p.op=.load ty a){E9:Xs->IV}(h:Y a=E9 a)(ro:Nat)(G:St):aN P ro Y p G=aN P ro E9 p G:=by
 simp only[aN,hp,h]
def NY(hp:p.op=.load ty a){ext:Nat}(ha:Y a=.ptr id ay ep ext)(hv:aN P ro Y p G=aa (.val v aG))(Cg:aB.at id=G.at id)(ja:Nat):aN P ja Y p aB=aa (.val v aB):=by
 simp only[aN,hp,ha]at hv⊢;rw[Cg]
 repeat' split at hv
 all_goals simp_all[ret]
def aqp{T:gS}(hm:(t,h)∈(T.del dst).tg):(t,h)∈T.tg/\dst≠aa t:=by
 cases dst with
 |none=>exact⟨hm,az⟩
 |some d=>
  have⟨h1,h2⟩:=Qz.1 hm;exact⟨h1,λhe=>jw⟩
def aqq{T:gS}{a:Nat}(hm:(i,a,d,h)∈(T.del dst).ld):(i,a,d,h)∈T.ld/\dst≠aa a/\dst≠aa d:=by
 cases dst with
 |none=>exact⟨hm,az,az⟩
 |some q=>
  have⟨h1,h2⟩:=Qz.1 hm;exact⟨h1,λhe=>by cases he;simp at h2,λhe=>by cases he;simp at h2⟩
def lQ(h:dst≠aa t):(e.put dst v).at t=e.at t:=by
 cases dst with
 |none=>rfl
 |some d=>exact iz λhe=>h (by rw[he])
variable{θ:Nat->aF Nat}
def uu.GA{T:gS}(h:uu P ao θ e G T)(dst:aF Nat)(v:IV):∀t q,(t,q)∈(T.del dst).tg->∃id ay ep ext,θ q=aa id/\(e.put dst v).at t=.ptr id ay ep ext:=by
 intro t q hm;have⟨h1,h2⟩:=aqp hm;rw[lQ h2];exact h.tg t q h1
def uu.vQ{T:gS}(h:uu P ao θ e G T)(dst:aF Nat)(v:IV):∀i a d q,(i,a,d,q)∈(T.del dst).ld->∃p ty id ay ep ext,ao[i]?=aa p/\p.op=.load ty (.tmp a)/\p.dst=aa d/\θ q=aa id/\(e.put dst v).at a=.ptr id ay ep ext/\aN P 0 (aT (e.put dst v)) p G=aa (.val ((e.put dst v).at d) G):=by
 intro i a d q hm;have⟨h1,h2,h3⟩:=aqq hm;have⟨p,ty,id,ay,ep,ext,g1,g2,g3,g4,g5,g6⟩:=h.ld i a d q h1;refine⟨p,ty,id,ay,ep,ext,g1,g2,g3,g4,by rw[lQ h2];omega,?_⟩;rw[lQ h3,<-g6];exact Iq g2 (by show(e.put dst v).at a=e.at a;exact lQ h2) _ _
def uu.WI{T:gS}(h:uu P ao θ e G T)(dst:aF Nat)(v:IV):∀t q,(t,q)∈(T.del dst).mg->∃id,θ q=aa id/\(e.put dst v).at t=.map id:=by
 intro t q hm
 have Tz:(t,q)∈T.mg/\dst≠aa t:=by
  cases dst with
  |none=>exact⟨hm,az⟩
  |some d=>
   have⟨h1,h2⟩:=Qz.1 hm;exact⟨h1,λhe=>jw⟩
 rw[lQ Tz.2];exact h.mg t q Tz.1
def uu.step{T:gS}(hj:ao[j]?=aa o)(h:uu P ao θ e G T)(hT:om n0 e T)(hv:aN P ro (aT e) o G=aa (.val v aG)):uu P ao θ (e.put o.dst v) aG (JX T o j):=by
 refine⟨λt q hm=>?_,λi a d q hm=>?_,λt q hm=>?_⟩
 .have hm:(t,q)∈Wz T o:=hm;unfold Wz at hm;split at hm
  .rename_i d s x f hg gh fU;split at hm<;>try exact h.GA _ _ t q hm
   rename_i hh D2;split at hm<;>try exact h.GA _ _ t q hm
   rcases ZP.1 hm with he|hm
   .cases he;have⟨id,ay,ep,ext,g1,g2⟩:=h.tg _ _ (uw D2);have hx:aT e (.tmp x)=.ptr id ay ep ext:=g2;have jV:t<e.n:=by simp_all[hT.n]
    rw[gh,dm jV];simp only[aN,fU]at hv
    repeat' split at hv
    all_goals try (cases hv;done)
    .rename_i he _;rw[hx]at he;cases he;have:=bK hv
     grind
    grind
   .exact h.GA _ _ t q hm
  .rename_i d hg gh fU;split at hm<;>try exact h.GA _ _ t q hm
   rename_i x hp;split at hm<;>try exact h.GA _ _ t q hm
   rename_i hh D2;split at hm<;>try exact h.GA _ _ t q hm
   rcases ZP.1 hm with he|hm
   .cases he;have⟨id,ay,ep,ext,g1,g2⟩:=h.tg _ _ (uw D2);have jV:t<e.n:=by simp_all[hT.n]
    rw[gh,dm jV,Mc hp hv];exact⟨id,ay,ep,ext,g1,g2⟩
   .exact h.GA _ _ t q hm
  .exact h.GA _ _ t q hm
 .have hm:(i,a,d,q)∈WA T o j:=hm;unfold WA at hm;split at hm
  .rename_i hk;obtain⟨rfl,_⟩:=Bc hk hv;exact h.vQ _ _ i a d q hm
  .rename_i hk;obtain⟨rfl,og⟩:=Be hk hv;split at hm<;>try exact h.vQ _ _ i a d q hm
   rename_i d' ty a' hg gh fU;split at hm<;>try exact h.vQ _ _ i a d q hm
   rename_i hh D2;split at hm<;>try exact h.vQ _ _ i a d q hm
   rcases ZP.1 hm with he|hm
   .cases he;have cg:a≠d:=λhe=>by simp_all
    have jV:d<e.n:=by simp_all[hT.n]
    have⟨id,ay,ep,ext,g1,g2⟩:=h.tg _ _ (uw D2);have ha:(e.put o.dst v).at a=e.at a:=by rw[gh];exact iz cg
    exists o,ty,id,ay,ep,ext,hj,fU,gh,g1,aI;rw[Iq fU (E9:=aT e) (show(e.put o.dst v).at a=e.at a from ha),og 0,gh,dm jV]
   .exact h.vQ _ _ i a d q hm
  grind
 .have hm:(t,q)∈WH T o:=hm;unfold WH at hm;split at hm<;>try exact h.WI _ _ t q hm
  rename_i d x hg gh hp;split at hm<;>try exact h.WI _ _ t q hm
  rename_i hh D2;split at hm<;>try exact h.WI _ _ t q hm
  rcases ZP.1 hm with he|hm
  .cases he;have⟨id,g1,g2⟩:=h.mg _ _ (uw D2);have jV:t<e.n:=by simp_all[hT.n]
   rw[gh,dm jV,Mc hp hv];exact⟨id,g1,g2⟩
  .exact h.WI _ _ t q hm
theorem uu.skip{ao:Array YX}{θ:Nat->aF Nat}{e:aK}{T:gS}{v:IV}{aG:St}{j:Nat}(h:uu P ao θ e G T)(hw:(bE o ao e=af/\aG=G)\/dD o=.call\/dD o=.effect):uu P ao θ (e.put o.dst v) aG (JX T o j):=by
 have hgd:(bE o ao e=af/\aG=G)->o.guard≠ah:=λhw hg=>by
  simp_all[bE]
 refine⟨λt q hm=>?_,λi a d q hm=>?_,λt q hm=>?_⟩
 .have hm:(t,q)∈Wz T o:=hm;unfold Wz at hm;split at hm
  .rename_i d s x f hg gh fU
   simp_all[dD]
  .split at hm<;>try exact h.GA _ _ t q hm
   rename_i x hp;rcases hw with hw|hw
   .grind
   .rw[Ay hp]at hw;grind
  .exact h.GA _ _ t q hm
 .have hm:(i,a,d,q)∈WA T o j:=hm;unfold WA at hm;split at hm
  .rcases hw with⟨_,rfl⟩|hw
   .exact h.vQ _ _ i a d q hm
   grind
  .rcases hw with hw|hw
   .obtain⟨_,rfl⟩:=id hw;split at hm
    .grind
    .exact h.vQ _ _ i a d q hm
   grind
  grind
 .have hm:(t,q)∈WH T o:=hm;unfold WH at hm;split at hm<;>try exact h.WI _ _ t q hm
  rename_i d x hg gh hp;rcases hw with hw|hw
  .grind
  .rw[Ay hp]at hw;grind
def acU{m k:Xs}(ho:o.op=.mapUpdate ty m k x)(hm:Y m=.map id)(hv:aN P ro Y o G=aa (.val v aG)):∀bY,bY≠id->aG.at bY=G.at bY:=by
 simp only[aN,ho]at hv;split at hv<;>try grind
 split at hv<;>try grind
 rename_i hs;have:=bK hv;cases this;simp only[sB]at hs
 repeat' split at hs
 all_goals grind [St.eF]
def ae3(ho:o.op=.store ty a x){ext:Nat}(ha:Y a=.ptr id ay ep ext)(hv:aN P ro Y o G=aa (.val v aG)):aG.n=G.n/\∀bY,bY≠id->aG.at bY=G.at bY:=by
 unfold aN at hv
 repeat' split at hv
 all_goals try grind
 all_goals
  have:=bK hv;cases this;exact⟨rfl,λbY cg=>by grind [St.eF]⟩
def Rk(n0:Nat)(x:IV):Prop:=(∀id ay len cap ep s,x=.sl id ay len cap ep s->id<n0)/\∀id ay ep ext,x=.ptr id ay ep ext->id<n0
def WJ(n0:Nat)(G:St)(x:IV):Prop:=∃id ay ep ext,x=.ptr id ay ep ext/\id<n0/\∀cs a b,G.at id=aa (.cells cs a b)->∀c∈cs,Rk n0 c
structure qq(P:V5)(ao:Array YX)(n0:Nat)(e:aK)(G:St)(T:gS):Prop where
 n:n0<=G.n
 os:∀t,gT T.os t=ab->Rk n0 (e.at t)
 ox:∀t,gT T.ox t=ab->Ip n0 (e.at t)
 fr:∀t,gT T.fr t=ab->∃id ay ep ext,n0<=id/\e.at t=.ptr id ay ep ext
 lo:∀i a d,(i,a,d)∈T.lo->∃p ty,ao[i]?=aa p/\p.op=.load ty (.tmp a)/\p.dst=aa d/\Ip n0 (e.at a)/\aN P 0 (aT e) p G=aa (.val (e.at d) G)
 pv:∀t,gT T.pv t=ab->WJ n0 G (e.at t)
def anL(hp:p.op=.load ty a)(ha:WJ n0 G (Y a))(hv:aN P ro Y p G=aa (.val v aG)):Rk n0 v:=by
 have⟨id,ay,ep,ext,ha,_,hc⟩:=ha;simp only[aN,hp,ha]at hv;split at hv<;>try grind
 rename_i cs c1 c2 _ bx;split at hv<;>try grind
 split at hv<;>try grind
 rename_i w hw;have:=bK hv;cases this;unfold partOf at hw;split at hw
 .split at hw<;>cases hw;exact⟨(λ_ _ _ _ _ _ h=>(by cases h)),(λ_ _ _ _ h=>(by cases h))⟩
 .split at hw<;>try grind
  exact hc _ _ _ bx _ (ZU hw)
 grind
def aqr{f:Nat}(ho:o.op=.fieldAddr ty a f){ext:Nat}(ha:Y a=.ptr id ay ep ext)(hv:aN P ro Y o G=aa (.val v aG)):∃H4 ext',v=.ptr id H4 ep ext':=by
 simp only[aN,ho,ha]at hv
 repeat' split at hv
 all_goals try (cases hv;done)
 .rename_i he _;cases he;have:=bK hv
  grind
 grind
def WJ.keep{x:IV}(h:WJ n0 G x)(Cg:∀id,id<n0->aB.at id=G.at id):WJ n0 aB x:=by
 have⟨id,ay,ep,ext,h1,h2,h3⟩:=h;exact⟨id,ay,ep,ext,h1,h2,aI⟩
def aew(hp:p.op=.load ty a)(ha:Ip n0 (Y a))(hv:aN P ro Y p G=aa (.val v aG))(Cg:∀id,id<n0->aB.at id=G.at id)(ja:Nat):aN P ja Y p aB=aa (.val v aB):=by
 rcases ha with⟨id,ay,ep,ext,ha,aq⟩|⟨cs,ha⟩|ha
 .exact NY hp ha hv (Cg id aq) ja
 .simp only[aN,hp,ha]at hv⊢;split at hv<;>try grind
  simp_all[ret]
 .simp only[aN,hp,ha]at hv;cases hv
def NZ(ho:o.op=.alloc ty)(hv:aN P ro Y o G=aa (.val v aG)):(∃ay ep ext,v=.ptr G.n ay ep ext)/\∀id,id<G.n->aG.at id=G.at id:=by
 simp only[aN,ho]at hv;split at hv<;>try grind
 have:=bK hv
 grind [St.kB]
def Md{f:gS->aj Nat}{T:gS}(hf:∀d,f (T.del (aa d))=(f T).filter λt=> !ZW t d)(hm:gT (f (T.del dst)) t=ab):gT (f T) t=ab/\dst≠aa t:=by
 cases dst with
 |none=>exact⟨hm,az⟩
 |some d=>
  rw[hf]at hm;have⟨h1,h2⟩:=Ax hm
  grind
variable{a:Nat}{pl:fK}
def aqs{T:gS}(hm:(i,a,d)∈(T.del dst).lo):(i,a,d)∈T.lo/\dst≠aa a/\dst≠aa d:=by
 cases dst with
 |none=>exact⟨hm,az,az⟩
 |some q=>
  have⟨h1,h2⟩:=Qz.1 hm;exact⟨h1,λhe=>by cases he;simp at h2,λhe=>by cases he;simp at h2⟩
section
variable{T:gS}
def qq.KG(h:qq P ao n0 e G T)(hm:gT (T.del dst).os t=ab):Rk n0 ((e.put dst v).at t):=by
 obtain⟨h1,h2⟩:=Md (f:=gS.os) (λ_=>rfl) hm;rw[lQ h2];exact h.os t h1
def qq.KH(h:qq P ao n0 e G T)(Cg:∀id,id<n0->aG.at id=G.at id)(hm:gT (T.del dst).pv t=ab):WJ n0 aG ((e.put dst v).at t):=by
 obtain⟨h1,h2⟩:=Md (f:=gS.pv) (λ_=>rfl) hm;rw[lQ h2];exact(h.pv t h1).keep Cg
def qq.Rm(h:qq P ao n0 e G T)(hm:gT (T.del dst).ox t=ab):Ip n0 ((e.put dst v).at t):=by
 obtain⟨h1,h2⟩:=Md (f:=gS.ox) (λ_=>rfl) hm;rw[lQ h2];exact h.ox t h1
def qq.J1(h:qq P ao n0 e G T)(hm:gT (T.del dst).fr t=ab):∃id ay ep ext,n0<=id/\(e.put dst v).at t=.ptr id ay ep ext:=by
 obtain⟨h1,h2⟩:=Md (f:=gS.fr) (λ_=>rfl) hm;rw[lQ h2];exact h.fr t h1
def qq.vQ(h:qq P ao n0 e G T)(Cg:∀id,id<n0->aG.at id=G.at id)(hm:(i,a,d)∈(T.del dst).lo):∃p ty,ao[i]?=aa p/\p.op=.load ty (.tmp a)/\p.dst=aa d/\Ip n0 ((e.put dst v).at a)/\aN P 0 (aT (e.put dst v)) p aG=aa (.val ((e.put dst v).at d) aG):=by
 have⟨h1,h2,h3⟩:=aqs hm;have⟨p,ty,g1,g2,g3,g4,g5⟩:=h.lo i a d h1;refine⟨p,ty,g1,g2,g3,by rw[lQ h2];omega,?_⟩;rw[lQ h3,Iq g2 (show aT (e.put dst v) (.tmp a)=aT e (.tmp a)from lQ h2)];exact aew g2 g4 g5 Cg 0
def qq.step(hj:ao[j]?=aa o)(h:qq P ao n0 e G T)(hT:om n0 e T)(hv:aN P ro (aT e) o G=aa (.val v aG))(hn:G.n<=aG.n):qq P ao n0 (e.put o.dst v) aG (JX T o j):=by
 refine⟨YE h.n hn,λt hm=>?_,λt hm=>?_,λt hm=>?_,λi a d hm=>?_,λt hm=>?_⟩
 .have hm:gT (WB T o) t=ab:=hm;unfold WB at hm;split at hm
  .rename_i d ty a hg hd fU;split at hm
   .rename_i hc;rcases kE hm with rfl|hm
    .simp only[VM]at hc;have aq:t<e.n:=by simp_all[hT.n]
     rw[hd,dm aq];exact anL fU (h.pv a hc.1) hv
    .exact h.KG hm
   .exact h.KG hm
  unfold acS at hm;split at hm
  .rename_i d x hd hp;split at hm
   .rename_i hc;rcases kE hm with rfl|hm
    .simp only[VM]at hc;have aq:t<e.n:=by simp_all[hT.n]
     rw[hd,dm aq,Mc hp hv];cases x with
     |tmp t'=>exact h.os t' hc.1
     |_=>cases hc.1
    .exact h.KG hm
   .exact h.KG hm
  .exact h.KG hm
 .have hm:gT (WD T o) t=ab:=hm;unfold WD at hm;split at hm
  .rename_i d ty x ix hd fU;split at hm
   .rename_i hc;rcases kE hm with rfl|hm
    .simp only[VM]at hc;have aq:t<e.n:=by simp_all[hT.n]
     have hx:Rk n0 (aT e x):=by
      cases x with
      |tmp t'=>exact h.os t' hc.1
      |_=>cases hc.1
     rw[hd,dm aq];unfold aN at hv;rw[fU]at hv;dsimp only at hv
     repeat' split at hv
     all_goals try grind
     all_goals
      have:=bK hv;cases this
      first
       |exact .inr (.inl ⟨_,rfl⟩)
       |(rename_i JY _;exact .inl ⟨_,_,_,_,rfl,hx.1 _ _ _ _ _ _ JY⟩)
       |(rename_i JY _ _;exact .inl ⟨_,_,_,_,rfl,hx.2 _ _ _ _ JY⟩)
       |(exact .inl ⟨_,_,_,_,rfl,hx.1 _ _ _ _ _ _ JY⟩)
    .exact h.Rm hm
   .exact h.Rm hm
  .exact h.Rm hm
 .have hm:gT (WE T o) t=ab:=hm;unfold WE at hm;split at hm<;>try exact h.J1 hm
  rename_i d ty hg hd fU;split at hm<;>try exact h.J1 hm
  rcases kE hm with rfl|hm
  .have aq:t<e.n:=by simp_all[hT.n]
   obtain⟨⟨ay,ep,ext,rfl⟩,_⟩:=NZ fU hv;rw[hd,dm aq];exact⟨_,_,_,_,h.n,rfl⟩
  .exact h.J1 hm
 .have hm:(i,a,d)∈WG T o j:=hm;unfold WG at hm;split at hm
  .rename_i hk;obtain⟨rfl,_⟩:=Bc hk hv;exact h.vQ (λ_ _=>rfl) hm
  .rename_i hk;obtain⟨rfl,og⟩:=Be hk hv;split at hm<;>try exact h.vQ (λ_ _=>rfl) hm
   rename_i d' ty a' hg gh fU;split at hm<;>try exact h.vQ (λ_ _=>rfl) hm
   rename_i hc;rcases ZP.1 hm with he|hm
   .cases he;simp only[VM,P6]at hc;have cg:a≠d:=λhe=>by simp_all
    have jV:d<e.n:=by simp_all[hT.n]
    have ha:(e.put o.dst v).at a=e.at a:=by rw[gh];exact iz cg
    refine⟨o,ty,hj,fU,gh,by rw[ha];exact hc.1.1.elim (h.ox a) (hT.dI a),?_⟩;rw[Iq fU (E9:=aT e) (show(e.put o.dst v).at a=e.at a from ha),og 0,gh,dm jV]
   .exact h.vQ (λ_ _=>rfl) hm
  .split at hm
   .rename_i fU;exact h.vQ (λid hid=>(NZ fU hv).2 id (Zu hid h.n)) hm
   grind
  grind
 .have hm:gT (WC T o) t=ab:=hm;unfold WC at hm;split at hm
  .rename_i hk;obtain⟨rfl,_⟩:=Bc hk hv;split at hm<;>try exact h.KH (λ_ _=>rfl) hm
   rename_i d ty x f hg hd fU;split at hm<;>try exact h.KH (λ_ _=>rfl) hm
   rename_i hc;rcases kE hm with rfl|hm
   .simp only[VM]at hc;have aq:t<e.n:=by simp_all[hT.n]
    have⟨id,ay,ep,ext,h1,h2,h3⟩:=h.pv x hc.1;obtain⟨H4,ext',rfl⟩:=aqr fU (show aT e (.tmp x)=_ from h1) hv;rw[hd,dm aq];exact⟨_,_,_,_,rfl,h2,h3⟩
   .exact h.KH (λ_ _=>rfl) hm
  .rename_i hk;obtain⟨rfl,_⟩:=Be hk hv;exact h.KH (λ_ _=>rfl) hm
  .split at hm
   .rename_i fU;exact h.KH (λid hid=>(NZ fU hv).2 id (Zu hid h.n)) hm
   .cases hm
  .cases hm
theorem qq.skip(h:qq P ao n0 e G T)(hT:om n0 e T)(hn:n0<=aG.n)(hw:(bE o ao e=af/\aG=G/\v=.undef)\/dD o=.call\/dD o=.effect):qq P ao n0 (e.put o.dst v) aG (JX T o j):=by
 have hgd:(bE o ao e=af/\aG=G/\v=.undef)->o.guard≠ah:=λhw hg=>by
  simp_all[bE]
 refine⟨hn,λt hm=>?_,λt hm=>?_,λt hm=>?_,λi a d hm=>?_,λt hm=>?_⟩
 .have hm:gT (WB T o) t=ab:=hm;unfold WB at hm;split at hm
  .rename_i d ty a hg hd fU
   simp_all[dD]
  unfold acS at hm;split at hm<;>try exact h.KG hm
  rename_i d x hd hp;split at hm<;>try exact h.KG hm
  rcases kE hm with rfl|hm
  .rcases hw with⟨_,_,rfl⟩|hw
   .have aq:t<e.n:=by simp_all[hT.n]
    rw[hd,dm aq];exact⟨(λ_ _ _ _ _ _ h=>(by cases h)),(λ_ _ _ _ h=>(by cases h))⟩
   .rw[Ay hp]at hw;grind
  .exact h.KG hm
 .have hm:gT (WD T o) t=ab:=hm;unfold WD at hm;split at hm<;>try exact h.Rm hm
  rename_i d ty x ix hd fU;split at hm<;>try exact h.Rm hm
  rcases kE hm with rfl|hm
  .rcases hw with⟨_,_,rfl⟩|hw
   .have aq:t<e.n:=by simp_all[hT.n]
    rw[hd,dm aq];exact .inr (.inr rfl)
   simp_all[dD]
  .exact h.Rm hm
 .have hm:gT (WE T o) t=ab:=hm;unfold WE at hm;split at hm
  .rename_i d ty hg hd fU
   simp_all[dD]
  .exact h.J1 hm
 .have hm:(i,a,d)∈WG T o j:=hm;unfold WG at hm;split at hm
  .rcases hw with⟨_,rfl,_⟩|hw
   .exact h.vQ (λ_ _=>rfl) hm
   grind
  .rcases hw with hw|hw
   .obtain⟨_,rfl,_⟩:=id hw;split at hm
    .grind
    .exact h.vQ (λ_ _=>rfl) hm
   grind
  .rcases hw with⟨_,rfl,_⟩|hw
   .split at hm
    .exact h.vQ (λ_ _=>rfl) hm
    grind
   grind
  grind
 .have hm:gT (WC T o) t=ab:=hm;unfold WC at hm;split at hm
  .rcases hw with⟨hw0,rfl,hv0⟩|hw
   .split at hm
    .grind
    .exact h.KH (λ_ _=>rfl) hm
   grind
  .rcases hw with⟨_,rfl,_⟩|hw
   .exact h.KH (λ_ _=>rfl) hm
   grind
  .rcases hw with⟨_,rfl,_⟩|hw
   .split at hm
    .exact h.KH (λ_ _=>rfl) hm
    .cases hm
   grind
  .cases hm
end
def afB{T:gS}(h:KE pl T o j=ab):Il pl j=ab:=by
 unfold KE at h
 grind
def Me(h:Il pl j=ab)(hi:i<j)(hk:bX pl i=.alloc\/bX pl i=.effect\/bX pl i=.call):RD (pl.dp.getD j 0) i=ab:=by
 have:=US.1 h i (Ua.2 hi);simp only[P6]at this;refine this.resolve_right λhh=>?_;unfold bX at hk
 grind
def anM(h:aqm pl j=ab)(hi:i<j)(hk:bX pl i=.effect):RD (pl.dp.getD j 0) i=ab:=by
 have:=US.1 h i (Ua.2 hi)
 simp_all[bX]
def aar(h:Im pl j=ab)(hi:i<j)(hk:bX pl i≠.pure):RD (pl.dp.getD j 0) i=ab:=by
 have:=US.1 h i (Ua.2 hi)
 simp_all[bX]
theorem KI:∀(l:aj Piece) (b:T Ob),(∀p∈l,p.hi<=p.lo)->l.foldl e_ b=b
 |[],_,_=>rfl
 |p::l,b,h=>by
  rw[Zv,oU b p (h p (W_ ..))];exact KI l b λq hq=>h q (Ys _ hq)
theorem KJ:∀(l:aj Piece) (b:T Ob),(∀p∈l,n0<=p.lo)->∀id,id<n0->(l.foldl e_ b).get id=b.get id
 |[],_,_,_,_=>rfl
 |p::l,b,h,id,hid=>by
  rw[Zv,KJ l _ (λq hq=>h q (Ys _ hq)) id hid,oJ,aY]
  grind
structure rf(pl:fK)(n0 j:Nat)(d:DS)(e:aK)(G:St):Prop where
 e:d.e=e
 n:d.n=G.n
 le:n0<=G.n
 bs:∃i b aE,d.bs=(i,b)::aE/\(aE=[]\/(i<j/\bX pl i=.effect))/\d.bz.foldl e_ b=G.t/\b.WF
 bz:∀p∈d.bz,(p.hi<=p.lo\/(p.j<j/\(bX pl p.j=.alloc\/bX pl p.j=.call)))/\p.hi<=d.n/\n0<=p.lo
variable{d:DS}{l:aj (YX×Nat)}{U:Self}{fr:Bool}
def zP{b:T Ob}(hs:rf pl n0 j d e G)(fq:d.bz.foldl e_ b=G.t)(ho:Il pl j=ab):seen d.bz (pl.dp.getD j 0) b=G.t:=by
 unfold seen;rw[yr _ _ λp hp=>?_,fq];rcases(hs.bz p hp).1 with h|⟨h1,h2⟩
 .omega
 .exact .inl (Me ho h1 (h2.elim .inl λh=>.inr (.inr h)))
def afC(h:Im pl j=ab):Il pl j=ab:=by
 refine US.2 λi hi=>?_;have:=US.1 h i hi
 grind
def aHt{bits:Nat}{bz:aj Piece}{b:T Ob}(h:∀p i,(p,i)∈l->bX pl i=.load->RD bits i=ab):recheck P pl ao bits e n bz b l=ab:=by
 unfold recheck;rw[US];rintro⟨p,q⟩ DZ;simp only;split
 .rename_i yf;rw[h p q DZ yf];rfl
 .rfl
def Fl(hs:rf pl n0 j d e G)(hk:bX pl j=.effect)(hw:bE o ao e=ab)(kL:∀p i,(p,i)∈ao.toList.zipIdx.take j->(p,i)∈ao.toList.zipIdx/\i<j)(hA:Im pl j=ab)
 (hx:nb P U ro e o G=aa (v,aG))(nV:aG.t.WF)(hn:G.n<=aG.n):∃d1,c8 P U pl ro ao o j d=aa d1/\rf pl n0 (j+1) d1 (e.put o.dst v) aG:=by
 have⟨i,b,aE,dL,fD,fq,ng⟩:=hs.bs;have qM:=zP hs fq (afC hA);have bI:(⟨d.n,seen d.bz (pl.dp.getD j 0) b⟩:St)=G:=by rw[qM,hs.n]
 refine⟨⟨e.put o.dst v,aG.n,(j,aG.t)::d.bs,d.bz.filter λp=> !RD (pl.dp.getD j 0) p.j⟩,?_,⟨rfl,rfl,YE hs.le hn,⟨j,aG.t,d.bs,rfl,.inr ⟨ak,hk⟩,?_,nV⟩,λp hp=>?_⟩⟩
 .unfold c8;rw[dL];simp only;rw[hs.e,hw,aW rfl];have er:pl.kinds.getD j .effect=.effect:=hk;rw[er];rw[bI,hx];simp only;rw[aW (aHt λp q DZ yf=>aar hA (kL p q DZ).2 aI)]
 .refine Fg _ _ λp hp hf=>?_;rcases(hs.bz p hp).1 with h|⟨h1,h2⟩
  .exact h
  .rw[Me (afC hA) h1 (h2.elim .inl λh=>.inr (.inr h))]at hf;grind
 .have xY:=(Qz.1 hp).1;have⟨h1,h2,h3⟩:=hs.bz p xY
  grind
def afD{T:gS}(TB:∀k k' id,θ k=aa id->θ k'=aa id->k=k')(hL:uu P ao θ e G T)(hY:qq P ao n0 e G T)(hs:rf pl n0 j d e G)(hk:bX pl j=.effect)(hw:bE o ao e=ab)(kL:∀p i,(p,i)∈ao.toList.zipIdx.take j->(p,i)∈ao.toList.zipIdx/\i<j)(hX:KE pl T o j=ab)
 (hv:aN P ro (aT e) o G=aa (.val v aG))(nV:aG.t.WF)(hn:G.n<=aG.n):∃d1,c8 P U pl ro ao o j d=aa d1/\rf pl n0 (j+1) d1 (e.put o.dst v) aG:=by
 have⟨i,b,aE,dL,fD,fq,ng⟩:=hs.bs;have qM:=zP hs fq (afB hX);have bI:(⟨d.n,seen d.bz (pl.dp.getD j 0) b⟩:St)=G:=by rw[qM,hs.n]
 have hx:nb P U ro e o G=aa (v,aG):=by unfold nb;rw[hv]
 have aim:∀p∈(d.bz.filter λp=> !RD (pl.dp.getD j 0) p.j),p.hi<=p.lo:=λp hp=>by
  have⟨pP,hp2⟩:=Qz.1 hp;rcases(hs.bz p pP).1 with h|⟨h1,h2⟩
  .exact h
  .rw[Me (afB hX) h1 (h2.elim .inl λh=>.inr (.inr h))]at hp2;grind
 refine⟨⟨e.put o.dst v,aG.n,(j,aG.t)::d.bs,d.bz.filter λp=> !RD (pl.dp.getD j 0) p.j⟩,?_,⟨rfl,rfl,YE hs.le hn,⟨j,aG.t,d.bs,rfl,.inr ⟨ak,hk⟩,?_,nV⟩,λp hp=>?_⟩⟩
 .unfold c8;rw[dL];simp only;rw[hs.e,hw,aW rfl];have er:pl.kinds.getD j .effect=.effect:=hk;rw[er];simp only;rw[bI,hx];simp only;rw[aW];unfold recheck;rw[US];rintro⟨p,q⟩ DZ;simp only;split
  .rename_i yf;have⟨aFz,Wp⟩:=kL p q DZ;unfold KE at hX
   have hse:seen (d.bz.filter λp=> !RD (pl.dp.getD j 0) p.j) (pl.dp.getD q 0) aG.t=aG.t:=by
    unfold seen;exact KI _ _ λp hp=>aim p (Qz.1 hp).1
   have ue:ao[q]?=aa p:=by
    grind
   split at hX<;>try (cases hX;done)
   .rename_i ty a x hg fU;split at hX
    .rename_i g D2;simp only[VM,US]at hX;have hq:=hX.2 q (Ua.2 Wp);rw[P6]at hq;rcases hq with hq|hq
     .grind
     .rw[yf]at hq;simp only[UC,VM,VH]at hq;have⟨⟨i',a',d',h'⟩,hm,cX,cg⟩:=hq;have:=ZR cX;simp only at this;subst this;have⟨p',ty',id,ay,ep,ext,g1,g2,g3,g4,g5,g6⟩:=hL.ld _ _ _ _ hm;rw[g1]at ue;cases ue;have⟨WL,aA3,ep2,aA4,f1,f2⟩:=hL.tg _ _ (uw D2);have⟨e1,e2⟩:=ae3 fU (show aT e (.tmp a)=_ from f2) hv
      have acW:id≠WL:=λhe=>by
       subst he;have:=TB _ _ _ g4 f1;subst this;simp at cg
      have Pp:=NY g2 (show aT e (.tmp a')=_ from g5) g6 (e2 id acW) aG.n;rw[g3];simp only;unfold loadAt;rw[hse,Pp];simp[Sm.sm]
    .simp only[VM,US]at hX;have hq:=hX.2.2 q (Ua.2 Wp);rw[P6]at hq;rcases hq with hq|hq
     .grind
     .rw[yf]at hq;simp only[UC]at hq;have⟨⟨i',a',d'⟩,hm,cX⟩:=hq;have:=ZR cX;subst this;have⟨p',ty',g1,g2,g3,g5,g6⟩:=hY.lo _ _ _ hm;rw[g1]at ue;cases ue;have⟨WL,aA3,ep2,aA4,f1,f2⟩:=hY.fr a hX.1;have⟨e1,e2⟩:=ae3 fU (show aT e (.tmp a)=_ from f2) hv;have Pp:=aew g2 (show Ip n0 (aT e (.tmp a'))from g5) g6 (λid hid=>e2 id ak) aG.n;rw[g3];unfold loadAt;rw[hse,Pp];simp[Sm.sm]
   .rename_i ty a mk x hg fU;split at hX<;>try grind
    rename_i g D2;simp only[VM,US]at hX;have hq:=hX.2 q (Ua.2 Wp);rw[P6]at hq;rcases hq with hq|hq
    .grind
    .simp only[yf,UC,VM]at hq;have⟨⟨i',a',d',h'⟩,hm,cX,cg⟩:=hq;have:=ZR cX;subst this;have⟨p',ty',id,ay,ep,ext,g1,g2,g3,g4,g5,g6⟩:=hL.ld _ _ _ _ hm;rw[g1]at ue;cases ue;have⟨WL,f1,f2⟩:=hL.mg _ _ (uw D2);have e2:=acU fU (show aT e (.tmp a)=_ from f2) hv
     have acW:id≠WL:=λhe=>by
      subst he;have:=TB _ _ _ g4 f1
      simp_all
     have Pp:=NY g2 (show aT e (.tmp a')=_ from g5) g6 (e2 id acW) aG.n;rw[g3];unfold loadAt;rw[hse,Pp];simp[Sm.sm]
  .rfl
 .exact KI _ _ aim
 .have xY:=(Qz.1 hp).1;have⟨h1,h2,h3⟩:=hs.bz p xY
  grind
def noX{T:gS}(h:KE pl T o j=ab)(hn:(∃ro Y f av,aN P ro Y o G=aa (.enter f av))\/bE o ao e=af):False:=by
 unfold KE at h;split at h<;>try grind
 .rename_i ty a x hg fU;rcases hn with⟨ro,Y,f,av,hn⟩|hn
  .simp only[aN,fU]at hn
   repeat' split at hn
   all_goals try (cases hn;done)
   all_goals (have:=bK hn;cases this)
  simp_all[bE]
 .rename_i ty a mk x hg fU;rcases hn with⟨ro,Y,f,av,hn⟩|hn
  .simp only[aN,fU]at hn
   repeat' split at hn
   all_goals try (cases hn;done)
   all_goals (have:=bK hn;cases this)
  simp_all[bE]
theorem aGS(TB:∀k k' id,θ k=aa id->θ k'=aa id->k=k')(h:jb P ro ao pl fr l e G e' aB):
 ∀(k:Nat) (d:DS) (T:gS),ao.toList.zipIdx.drop k=l->rf pl n0 k d e G->lu P pl l T=ab->om n0 e T->uu P ao θ e G T/\qq P ao n0 e G T->
  ∃SF:Nat->Self,(∀i,pS P (SF i))/\∃d',mq P SF pl ro ao l d=aa d'/\d'.e=e'/\d'.n=aB.n/\∃i b aE,d'.bs=(i,b)::aE/\d'.bz.foldl e_ b=aB.t:=by
 have dE:∀{o:YX} {j:Nat} {l:aj (YX×Nat)} {k:Nat},ao.toList.zipIdx.drop k=(o,j)::l->j=k/\ao.toList.zipIdx.drop (k+1)=l/\
  (∀p i,(p,i)∈ao.toList.zipIdx.take j->(p,i)∈ao.toList.zipIdx/\i<j)/\(∀o' i,(o',i)∈l->i≠j)/\ao[j]?=aa o:=by
  intro o j l k h;have h1:(ao.toList.zipIdx.drop k)[0]?=aa (o,j):=by rw[h];rfl
  rw[Uv,T3]at h1;rw[aJT]at h1
  have hj:j=k:=by
   cases hk:ao.toList[k]? with
   |none=>rw[hk]at h1;cases h1
   |some o'=>rw[hk]at h1;simp at h1;omega
  have E5:ao.toList.zipIdx.drop (k+1)=l:=by rw[<-UF (i:=1) (j:=k),h];rfl
  have uf:ao[j]?=aa o:=by
   rw[hj];cases hk:ao.toList[k]? with
   |none=>rw[hk]at h1;cases h1
   |some o'=>
    rw[hk]at h1;simp at h1;rw[Array.getElem?_toList]at hk;rw[hk,h1.1]
  refine⟨hj,E5,λp i hp=>⟨TC hp,?_⟩,λo' i hi=>?_,uf⟩
  .obtain⟨m,hm,he⟩:=S_ hp;rw[List.length_take]at hm;rw[List.getElem_take,aJY]at he;cases he;omega
  .rw[<-E5]at hi;obtain⟨m,hm,he⟩:=S_ hi;rw[List.getElem_drop,aJY]at he;cases he;omega
 induction h with
 |nil e G=>
  intro k d T _ hs _ _ _;obtain⟨i,b,aE,h1,_,h3,_⟩:=hs.bs;exact⟨λ_=>Self.none,λ_=>sX,d,rfl,hs.e,hs.n,i,b,aE,h1,h3⟩
 | @skip o j l e G e' aB hw h ih=>
   intro k d T hl hs hc hT tD;obtain⟨rfl,hd,kL,aq,uf⟩:=dE hl;simp only[lu,VM]at hc;obtain⟨dz,oT⟩:=hc;obtain⟨i,b,aE,dL,fD,fq,ng⟩:=hs.bs;have mV:∀p∈d.bz,(p.hi<=p.lo\/(p.j<j+1/\(bX pl p.j=.alloc\/bX pl p.j=.call)))/\p.hi<=d.n/\n0<=p.lo:=λp hp=>⟨(hs.bz p hp).1.imp id (λh=>⟨ak,h.2⟩),(hs.bz p hp).2⟩
   have key:∃U,pS P U/\∃d1,c8 P U pl ro ao o j d=aa d1/\rf pl n0 (j+1) d1 (e.put o.dst .undef) G:=by
    refine⟨Self.none,sX,?_⟩;by_cases hk:bX pl j=.effect
    .refine⟨⟨d.e.put o.dst .undef,d.n,(j,b)::d.bs,d.bz⟩,?_,⟨by rw[hs.e],hs.n,hs.le,⟨j,b,d.bs,rfl,.inr ⟨ak,hk⟩,fq,ng⟩,mV⟩⟩;unfold c8;rw[dL];simp only;rw[hs.e,hw,aY az];have er:pl.kinds.getD j .effect=.effect:=hk;have hA:Im pl j=ab:=by unfold pe at dz;rw[er,P6]at dz;exact dz.elim id λh=>(noX (P:=P) (G:=G) h (.inr hw)).elim
     rw[er];simp only;rw[aW (aHt λp q DZ yf=>aar hA (kL p q DZ).2 (by rw[yf];simp))]
    .refine⟨{d with e:=d.e.put o.dst .undef},?_,⟨by rw[hs.e],hs.n,hs.le,⟨i,b,aE,dL,fD.imp id (λh=>⟨ak,h.2⟩),fq,ng⟩,mV⟩⟩;unfold c8;rw[dL];simp only;rw[hs.e,hw,aY az];have er:pl.kinds.getD j .effect≠.effect:=hk;cases hq:pl.kinds.getD j .effect<;>first|exact bH hq er|simp only
   obtain⟨U,hU,d1,h1,h2⟩:=key;obtain⟨SF,kD,d',h3,h4⟩:=ih (j+1) d1 (JX T o j) hd h2 oT (hT.skip j (.inl ⟨hw,rfl⟩)) ⟨tD.1.skip (.inl ⟨hw,rfl⟩),tD.2.skip hT tD.2.n (.inl ⟨hw,rfl,rfl⟩)⟩;obtain⟨uh,h5,h6⟩:=pT hU kD h1 h3 aq;exact⟨uh,h5,d',h6,h4⟩
 | @val o j l e G e' aB v aG hw hv h ih=>
   intro k d T hl hs hc hT tD;obtain⟨rfl,hd,kL,aq,uf⟩:=dE hl;simp only[lu,VM]at hc;obtain⟨dz,oT⟩:=hc;have⟨i,b,aE,dL,fD,fq,ng⟩:=hs.bs;have ui:G.t.WF:=fq▸oV _ ng;have mV:∀p∈d.bz,(p.hi<=p.lo\/(p.j<j+1/\(bX pl p.j=.alloc\/bX pl p.j=.call)))/\p.hi<=d.n/\n0<=p.lo:=λp hp=>⟨(hs.bz p hp).1.imp id (λh=>⟨ak,h.2⟩),(hs.bz p hp).2⟩
   have one:∀(t:Go.Ev.T Ob),((aG=G)\/∃ob,aG=G.add ob/\t.get G.n=aa ob)->(bX pl j=.alloc\/bX pl j=.call)->
    rf pl n0 (j+1) ⟨d.e.put o.dst v,aG.n,d.bs,⟨j,d.n,aG.n,t⟩::d.bz⟩ (e.put o.dst v) aG:=by
    intro t yb hk;refine⟨by rw[hs.e],rfl,YE hs.le (oS hv),⟨i,b,aE,dL,fD.imp id (λh=>⟨ak,h.2⟩),?_,ng⟩,λp hp=>?_⟩
    .simp only[Zv];rcases yb with rfl|⟨ob,rfl,ht⟩
     .rw[oU _ _ (by simp[hs.n]),fq]
     .refine Go.Ev.T.WF.ext (oV _ (CB ng _)) (ui.set _ _) λid=>?_
      have:=Fh (n:=G.n) (ob:=ob) d.bz (e_ b ⟨j,d.n,(G.add ob).n,t⟩) b (λp hp=>by rw[<-hs.n];exact(hs.bz p hp).2.1) (λid=>by
       rw[oJ,Go.Ev.T.jS];simp only[hs.n,St.uY];by_cases hid:G.n=id
       .subst hid;simp[ht]
       .rw[aY ak,aY hid]) id
      rw[this,fq];rfl
    .rcases ZP.1 hp with rfl|hp
     .exact⟨.inr ⟨az,hk⟩,XS _,by show n0<=d.n;rw[hs.n];exact hs.le⟩
     .have⟨h1,h2,h3⟩:=mV p hp;exact⟨h1,by have:=oS hv;rw[hs.n]at h2;exact YE h2 this,h3⟩
   have key:∃U,pS P U/\∃d1,c8 P U pl ro ao o j d=aa d1/\rf pl n0 (j+1) d1 (e.put o.dst v) aG:=by
    refine⟨Self.none,sX,?_⟩;cases hk:bX pl j with
    |pure=>
     have er:pl.kinds.getD j .effect=.pure:=hk;unfold pe at dz;rw[er]at dz;have lO:dD o=.pure:=by simpa using dz
     obtain⟨rfl,og⟩:=Bc lO hv;refine⟨{d with e:=d.e.put o.dst v},?_,⟨by rw[hs.e],hs.n,hs.le,⟨i,b,aE,dL,fD.imp id (λh=>⟨ak,h.2⟩),fq,ng⟩,mV⟩⟩;unfold c8;rw[dL];simp only;rw[hs.e,hw,aW rfl];rw[er];simp only;rw[og 0 ⟨0,.lf⟩];simp[hs.e,dL]
    |alloc=>
     have er:pl.kinds.getD j .effect=.alloc:=hk;unfold pe at dz;rw[er]at dz;simp only[VM,beq_iff_eq]at dz;have⟨t,og,yb⟩:=aIV dz.1 hv;refine⟨⟨d.e.put o.dst v,aG.n,d.bs,⟨j,d.n,aG.n,t⟩::d.bz⟩,?_,one t (yb.imp (λh=>h.1) λ⟨ob,h1,h2⟩=>⟨ob,h1,by rw[h2,Go.Ev.T.jS,aW rfl]⟩) (.inl hk)⟩;unfold c8;rw[dL];simp only;rw[hs.e,hw,aW rfl];rw[er];simp only;rw[hs.n,og 0]
    |load=>
     have er:pl.kinds.getD j .effect=.load:=hk;unfold pe at dz;rw[er]at dz;simp only[VM,beq_iff_eq,P6]at dz;have⟨lO,dz⟩:=dz;obtain⟨rfl,og⟩:=Be lO hv
     have gC:aN P d.n (aT e) o ⟨d.n,seen d.bz (pl.dp.getD j 0) b⟩=aa (.val v ⟨d.n,seen d.bz (pl.dp.getD j 0) b⟩):=by
      rcases dz with ho|⟨_,ho⟩
      .have qM:=zP hs fq ho;have bI:(⟨d.n,seen d.bz (pl.dp.getD j 0) b⟩:St)=aG:=by rw[qM,hs.n]
       rw[bI];exact og d.n
      .rcases ho with ho|ho
       .exact aiC ho hv _ _
       split at ho<;>try (cases ho;done)
       rename_i t a fU;refine acT fU (KF hT ho) hv (λid hid=>?_) d.n;show(seen d.bz (pl.dp.getD j 0) b).get id=aG.t.get id;unfold seen;rw[<-fq,KJ _ _ (λp hp=>(hs.bz p (Qz.1 hp).1).2.2) id hid,KJ _ _ (λp hp=>(hs.bz p hp).2.2) id hid]
     have V3:(RD (pl.dp.getD j 0) i||qn P e o d.n v d.bz (pl.dp.getD j 0) aE)=ab:=by
      rcases fD with rfl|⟨h1,h2⟩
      .simp[qn]
      .have:RD (pl.dp.getD j 0) i=ab:=by
        rcases dz with ho|⟨ho,_⟩
        .exact Me ho h1 (.inr (.inl h2))
        .exact anM ho h1 h2
       rw[this];rfl
     refine⟨{d with e:=d.e.put o.dst v},?_,⟨by rw[hs.e],hs.n,hs.le,⟨i,b,aE,dL,fD.imp id (λh=>⟨ak,h.2⟩),fq,ng⟩,mV⟩⟩;unfold c8;rw[dL];simp only;rw[hs.e,hw,aW rfl];rw[er];simp only;rw[gC];simp only;rw[aW ⟨trivial,V3⟩]
    |call=>
     have er:pl.kinds.getD j .effect=.call:=hk;unfold pe at dz;rw[er]at dz;simp only[VM,P6]at dz;have⟨⟨_,ho⟩,dz⟩:=dz;rcases dz with dz|dz
     .exact(aIl dz hv).elim
     .split at dz<;>try (cases dz;done)
      rename_i a hb;have⟨og,yb⟩:=aqo hb (afA hT dz) hv;have qM:=zP hs fq ho;have bI:(⟨d.n,seen d.bz (pl.dp.getD j 0) b⟩:St)=G:=by rw[qM,hs.n]
      refine⟨⟨d.e.put o.dst v,aG.n,d.bs,⟨j,d.n,aG.n,aG.t⟩::d.bz⟩,?_,one aG.t (yb.imp id λ⟨ob,h1⟩=>⟨ob,h1,by rw[h1];exact(by simp[St.add,Go.Ev.T.jS])⟩) (.inr hk)⟩;unfold c8;rw[dL];simp only;rw[hs.e,hw,aW rfl];rw[er];simp only;rw[bI];unfold nb;rw[og d.n]
    |effect=>
     have er:pl.kinds.getD j .effect=.effect:=hk;have hA:(Im pl j||KE pl T o j)=ab:=by unfold pe at dz;rw[er]at dz;exact dz
     rw[P6]at hA;rcases hA with hA|hA
     .refine Fl hs hk hw kL hA ?_ (acL hv ui) (oS hv);unfold nb;rw[hv]
     .exact afD TB tD.1 tD.2 hs hk hw kL hA hv (acL hv ui) (oS hv)
   have⟨U,hU,d1,h1,h2⟩:=key;have⟨SF,kD,d',h3,h4⟩:=ih (j+1) d1 (JX T o j) hd h2 oT (hT.step j hv) ⟨tD.1.step uf hT hv,tD.2.step uf hT hv (oS hv)⟩;have⟨uh,h5,h6⟩:=pT hU kD h1 h3 aq;exact⟨uh,h5,d',h6,h4⟩
 | @UZ o j l e G e' aB f av v hw hv kW h ih=>
   intro k d T hl hs hc hT tD;obtain⟨rfl,hd,kL,aq,uf⟩:=dE hl;simp only[lu,VM]at hc;have⟨dz,oT⟩:=hc;have⟨i,b,aE,dL,fD,fq,ng⟩:=hs.bs;have ui:G.t.WF:=fq▸oV _ ng;have mV:∀p∈d.bz,(p.hi<=p.lo\/(p.j<j+1/\(bX pl p.j=.alloc\/bX pl p.j=.call)))/\p.hi<=d.n/\n0<=p.lo:=λp hp=>⟨(hs.bz p hp).1.imp id (λh=>⟨ak,h.2⟩),(hs.bz p hp).2⟩
   have Bg:∀ja,nb P (vP ah f av G v G) ja e o G=aa (v,G):=by
    intro ja;unfold nb;rw[Ig hv ja G];simp[vP]
   have mc:=u5 hv
   have key:∃U,pS P U/\∃d1,c8 P U pl ro ao o j d=aa d1/\rf pl n0 (j+1) d1 (e.put o.dst v) G:=by
    refine⟨vP ah f av G v G,yq λja _=>kW ja,?_⟩;cases hk:bX pl j with
    |pure=>
     have er:pl.kinds.getD j .effect=.pure:=hk;unfold pe at dz;rw[er]at dz;have lO:dD o=.pure:=by simpa using dz
     rw[lO]at mc;rcases mc with mc|mc<;>cases mc
    |alloc=>
     have er:pl.kinds.getD j .effect=.alloc:=hk;unfold pe at dz;rw[er]at dz;simp only[VM,beq_iff_eq]at dz;rw[dz.1]at mc;rcases mc with mc|mc<;>cases mc
    |load=>
     have er:pl.kinds.getD j .effect=.load:=hk;unfold pe at dz;rw[er]at dz;simp only[VM,beq_iff_eq]at dz;rw[dz.1]at mc;rcases mc with mc|mc<;>cases mc
    |call=>
     have er:pl.kinds.getD j .effect=.call:=hk;unfold pe at dz;rw[er]at dz;simp only[VM]at dz;have q_:=zP hs fq dz.1.2;refine⟨⟨d.e.put o.dst v,d.n,d.bs,⟨j,d.n,d.n,seen d.bz (pl.dp.getD j 0) b⟩::d.bz⟩,?_,⟨by rw[hs.e],hs.n,hs.le,⟨i,b,aE,dL,fD.imp id (λh=>⟨ak,h.2⟩),?_,ng⟩,λp hp=>?_⟩⟩
     .unfold c8;rw[dL];simp only;rw[hs.e,hw,aW rfl];rw[er];simp only;have bI:(⟨d.n,seen d.bz (pl.dp.getD j 0) b⟩:St)=G:=by rw[q_,hs.n]
      rw[bI,Bg,q_];simp only[hs.n]
     .simp only[Zv];rw[oU _ _ az,fq]
     .rcases ZP.1 hp with rfl|hp
      .exact⟨.inl (XS _),XS _,by show n0<=d.n;rw[hs.n];exact hs.le⟩
      .exact mV p hp
    |effect=>
     have er:pl.kinds.getD j .effect=.effect:=hk;have hA:Im pl j=ab:=by unfold pe at dz;rw[er,P6]at dz;exact dz.elim id λh=>(noX (ao:=ao) (e:=e) h (.inl ⟨_,_,_,_,hv⟩)).elim
     exact Fl hs hk hw kL hA (Bg ro) ui (XS _)
   have⟨U,hU,d1,h1,h2⟩:=key;obtain⟨SF,kD,d',h3,h4⟩:=ih (j+1) d1 (JX T o j) hd h2 oT (hT.skip (ao:=ao) j (.inr mc)) ⟨tD.1.skip (.inr mc),tD.2.skip hT (by first|exact tD.2.n|(have:=hs.le;have:=h2.le;have:=h2.n;omega)) (.inr mc)⟩;have⟨uh,h5,h6⟩:=pT hU kD h1 h3 aq;exact⟨uh,h5,d',h6,h4⟩
 | @acM o j l e G e' aB f av v ob hq hw hv kW h ih=>
   intro k d T hl hs hc hT tD;obtain⟨rfl,hd,kL,aq,uf⟩:=dE hl;simp only[lu,VM]at hc;have⟨dz,oT⟩:=hc;have⟨i,b,aE,dL,fD,fq,ng⟩:=hs.bs;have ui:G.t.WF:=fq▸oV _ ng;have mV:∀p∈d.bz,(p.hi<=p.lo\/(p.j<j+1/\(bX pl p.j=.alloc\/bX pl p.j=.call)))/\p.hi<=d.n/\n0<=p.lo:=λp hp=>⟨(hs.bz p hp).1.imp id (λh=>⟨ak,h.2⟩),(hs.bz p hp).2⟩
   have Bg:∀ja,nb P (vP ah f av G v (G.add ob)) ja e o G=aa (v,G.add ob):=by
    intro ja;unfold nb;rw[Ig hv ja G];simp[vP]
   have mc:=u5 hv
   have key:∃U,pS P U/\∃d1,c8 P U pl ro ao o j d=aa d1/\rf pl n0 (j+1) d1 (e.put o.dst v) (G.add ob):=by
    refine⟨vP ah f av G v (G.add ob),yq λja _=>kW ja,?_⟩;cases hk:bX pl j with
    |pure=>
     have er:pl.kinds.getD j .effect=.pure:=hk;simp only[pe,er]at dz;have lO:dD o=.pure:=by simpa using dz
     rw[lO]at mc;rcases mc with mc|mc<;>cases mc
    |alloc=>
     have er:pl.kinds.getD j .effect=.alloc:=hk;simp only[pe,er,VM,beq_iff_eq]at dz;rw[dz.1]at mc;rcases mc with mc|mc<;>cases mc
    |load=>
     have er:pl.kinds.getD j .effect=.load:=hk;simp only[pe,er,VM,beq_iff_eq]at dz;rw[dz.1]at mc;rcases mc with mc|mc<;>cases mc
    |call=>
     have er:pl.kinds.getD j .effect=.call:=hk;simp only[pe,er,VM]at dz;have q_:=zP hs fq dz.1.2;refine⟨⟨d.e.put o.dst v,(G.add ob).n,d.bs,⟨j,d.n,(G.add ob).n,(G.add ob).t⟩::d.bz⟩,?_,⟨by rw[hs.e],rfl,YE hs.le az,⟨i,b,aE,dL,fD.imp id (λh=>⟨ak,h.2⟩),?_,ng⟩,λp hp=>?_⟩⟩
     .unfold c8;rw[dL];simp only;rw[hs.e,hw,aW rfl];rw[er];have bI:(⟨d.n,seen d.bz (pl.dp.getD j 0) b⟩:St)=G:=by rw[q_,hs.n]
      rw[bI,Bg]
     .simp only[Zv];refine Go.Ev.T.WF.ext (oV _ (CB ng _)) (ui.set _ _) λid=>?_
      have:=Fh (n:=G.n) (ob:=ob) d.bz (e_ b ⟨j,d.n,(G.add ob).n,(G.add ob).t⟩) b (λp hp=>by rw[<-hs.n];exact(hs.bz p hp).2.1) (λid=>by
       rw[oJ,Go.Ev.T.jS];simp only[hs.n,St.uY];by_cases hid:G.n=id
       .subst hid;rw[aW ak,aW rfl];have:(G.add ob).t.get G.n=aa ob:=by simpa[St.at]using St.kB G ob G.n
        simp[this]
       .rw[aY ak,aY hid]) id
      rw[this,fq];rfl
     .rcases ZP.1 hp with rfl|hp
      .exact⟨.inr ⟨az,.inr hk⟩,XS _,by show n0<=d.n;rw[hs.n];exact hs.le⟩
      .have⟨h1,h2,h3⟩:=mV p hp;exact⟨h1,by rw[hs.n]at h2;simp;omega,h3⟩
    |effect=>
     have er:pl.kinds.getD j .effect=.effect:=hk;have hA:Im pl j=ab:=by simp only[pe,er,P6]at dz;exact dz.elim id λh=>(noX (ao:=ao) (e:=e) h (.inl ⟨_,_,_,_,hv⟩)).elim
     exact Fl hs hk hw kL hA (Bg ro) (ui.set _ _) az
   have⟨U,hU,d1,h1,h2⟩:=key;obtain⟨SF,kD,d',h3,h4⟩:=ih (j+1) d1 (JX T o j) hd h2 oT (hT.skip (ao:=ao) j (.inr mc)) ⟨tD.1.skip (.inr mc),tD.2.skip hT (by first|exact tD.2.n|(have:=hs.le;have:=h2.le;have:=h2.n;omega)) (.inr mc)⟩;have⟨uh,h5,h6⟩:=pT hU kD h1 h3 aq;exact⟨uh,h5,d',h6,h4⟩
 | @call o j l e G e' aB f av v aG hk hw hv kW nV h ih=>
   intro k d T hl hs hc hT tD;obtain⟨rfl,hd,kL,aq,uf⟩:=dE hl;simp only[lu,VM]at hc;have⟨dz,oT⟩:=hc;have⟨i,b,aE,dL,fD,fq,ng⟩:=hs.bs;have ui:=fq▸oV _ ng;have er:pl.kinds.getD j .effect=.effect:=hk;have hA:Im pl j=ab:=by simp only[pe,er,P6]at dz;exact dz.elim id λh=>(noX (ao:=ao) (e:=e) h (.inl ⟨_,_,_,_,hv⟩)).elim
   obtain⟨d1,h1,h2⟩:=Fl (U:=vP (aa ro) f av G v aG) (v:=v) (aG:=aG) hs hk hw kL hA (by unfold nb;rw[hv];simp[vP]) (nV ui) kW.1;obtain⟨SF,kD,d',h3,h4⟩:=ih (j+1) d1 (JX T o j) hd h2 oT (hT.skip (ao:=ao) j (.inr (u5 hv))) ⟨tD.1.skip (.inr (u5 hv)),tD.2.skip hT (by first|exact tD.2.n|(have:=hs.le;have:=h2.le;have:=h2.n;omega)) (.inr (u5 hv))⟩;obtain⟨uh,h5,h6⟩:=pT (yq (R:=aa ro) λja hR=>by rcases hR with hR|hR<;>cases hR;exact kW) kD h1 h3 aq;exact⟨uh,h5,d',h6,h4⟩
def jn.acY{T:gS}(fG:P.follows .mixedOrders=ab)(iv:(cU ao).ok=ab)(bM:lu P (cU ao) ao.toList.zipIdx T=ab)(hT:om G.n e T)(TB:∀k k' id,θ k=aa id->θ k'=aa id->k=k')(tD:uu P ao θ e G T/\qq P ao G.n e G T)(nV:G.t.WF)
 (h:jb P ro ao (cU ao) fr ao.toList.zipIdx e G e' aB):jn P ro rd fn (.region id ao ab) e df G ⟨.normal,e',df,aB⟩:=by
 obtain⟨SF,kD,d',h1,h2,h3,i,b,aE,h4,h5⟩:=aGS (n0:=G.n) TB h 0 ⟨e,G.n,[(0,G.t)],[]⟩ T az ⟨rfl,rfl,XS _,⟨0,G.t,[],rfl,.inl rfl,rfl,nV⟩,λp hp=>aI⟩ bM hT tD
 have gC:nc P SF ro ao e df G=aa ⟨.normal,e',df,aB⟩:=by
  unfold nc;rw[aW iv,h1];have⟨de,dn,dbs,Y1⟩:=d'
  simp_all
 refine .mk (H9 (λi=>(kD i).2.2.1) (λi=>(kD i).2.2.2) gC) az λN hN F Z a w Q hF hi he hd hQ=>?_;exact NU fG (λi=>(kD i).1) (λi=>(kD i).2.1) (λi=>(kD i).2.2.1) (λi=>(kD i).2.2.2) N ro rd ao e df G _ gC hN F Z a w Q id hF hi he hd hQ
def N0(P:V5)(ro:Nat)(rd:aF Nat)(ao:Array YX)(e:aK)(df:aj Df)(G:St)(e':aK)(aB:St):Prop:=
 ∀N,aB.n<=N->∀F Z a w Q,mT F rd Z->Inv N Z G w->eg Z e a.tmps->oH Z df a.defers->xh N ro Z w G ⟨.normal,e',df,aB⟩ Q->wpAnyIn F 0 P .any ao Q ao.size (Nq ao.size af) a {w with drawn:=w.drawn+1}
def N0.draw(iv:(cU ao).ok=ab)(bM:Ff ao (cU ao)=ab)(nV:G.t.WF)
 (h:jb P ro ao (cU ao) af ao.toList.zipIdx e G e' aB):N0 P ro rd ao e df G e' aB:=by
 obtain⟨SF,kD,d',h1,h2,h3,i,b,aE,h4,h5⟩:=acA bM h 0 ⟨e,G.n,[(0,G.t)],[]⟩ az ⟨rfl,rfl,⟨0,G.t,[],rfl,.inl rfl,rfl,nV⟩,λp hp=>aI⟩
 have gC:nc P SF ro ao e df G=aa ⟨.normal,e',df,aB⟩:=by
  unfold nc;rw[aW iv,h1];have⟨de,dn,dbs,Y1⟩:=d'
  simp_all
 exactλN hN F Z a w Q hF hi he hd hQ=>KA (λi=>(kD i).1) (λi=>(kD i).2.1) (λi=>(kD i).2.2.1) (λi=>(kD i).2.2.2) N ro rd ao e df G _ gC hN F Z a w Q hF hi he hd hQ
def N0.acY{T:gS}(iv:(cU ao).ok=ab)(bM:lu P (cU ao) ao.toList.zipIdx T=ab)(hT:om G.n e T)(TB:∀k k' id,θ k=aa id->θ k'=aa id->k=k')(tD:uu P ao θ e G T/\qq P ao G.n e G T)(nV:G.t.WF)
 (h:jb P ro ao (cU ao) fr ao.toList.zipIdx e G e' aB):N0 P ro rd ao e df G e' aB:=by
 obtain⟨SF,kD,d',h1,h2,h3,i,b,aE,h4,h5⟩:=aGS (n0:=G.n) TB h 0 ⟨e,G.n,[(0,G.t)],[]⟩ T az ⟨rfl,rfl,XS _,⟨0,G.t,[],rfl,.inl rfl,rfl,nV⟩,λp hp=>aI⟩ bM hT tD
 have gC:nc P SF ro ao e df G=aa ⟨.normal,e',df,aB⟩:=by
  unfold nc;rw[aW iv,h1];have⟨de,dn,dbs,Y1⟩:=d'
  simp_all
 exactλN hN F Z a w Q hF hi he hd hQ=>KA (λi=>(kD i).1) (λi=>(kD i).2.1) (λi=>(kD i).2.2.1) (λi=>(kD i).2.2.2) N ro rd ao e df G _ gC hN F Z a w Q hF hi he hd hQ
end
def mem_ready(hi:i<ao.size)(hf:bO[i]?=aa af)(h:∀o,ao[i]?=aa o->∀e∈o.after.toList,Tn .any e=ab->jW bO e.on):i∈Pq .any ao bO:=by
 unfold Pq;rw[Qz,Ua];exists hi;rw[Ti,hf,Kr hi];simp only[Tb,Pb,T8,ZO];rw[aI2];intro e he;cases hb:Tn .any e with
 |false=>rfl
 |true=>
  have:=h _ (Kr hi) e aI hb
  simp_all[jW]
def N1(hi:i<bO.size)(h:¬jW bO i):bO[i]?=aa af:=by
 unfold jW at h
 simp_all
abbrev Bf(ao:Array YX)(j i:Nat):Prop:=RD ((QX ao).getD j 0) i=ab
abbrev LA(ao:Array YX):Prop:=∀(j:Nat) (o:YX),ao[j]?=aa o->∀e∈o.after.toList,Tn .any e=ab->e.on<j
def avR(hb:LA ao):∀(j:Nat),j<ao.size->∀i,Bf ao j i->i<j:=by
 intro j;induction j using aJq with
 |_ j ih=>
  intro hj i oe;have ho:=Kr hj;have⟨e,he,JS,h⟩:=(haveI:=A6;Ha ho oe)
  grind
def aiD(hb:LA ao)(ht:∀i,k<=i->i<ao.size->∀i',i'<i->Bf ao i i'):∀(r m fuel:Nat) (bO:Array Bool) (a:Act) (w:Z0),m+r=ao.size->k<=m->r<=fuel->bO.size=ao.size->(∀i,i<ao.size->(jW bO i↔i<m))->
 wpOpsIn F n P ao Q (Ln m r) a w->wpAnyIn F n P .any ao Q fuel bO a w:=by
 intro r;induction r with
 |zero=>
  intro m fuel bO a w hm hk hf cd hl h
  have dw:Pq .any ao bO=[]:=by
   cases hr:Pq .any ao bO with
   |nil=>rfl
   |cons x xs=>
    have⟨h1,h2,_⟩:=ug (show x∈Pq .any ao bO by grind);have:=(hl x h1).2 ak
    simp_all[jW]
  cases fuel with
  |zero=>exact⟨dw,h⟩
  |succ fuel=>exact⟨λ_=>h,λi hi=>aI⟩
 |succ r ih=>
  intro m fuel bO a w hm hk hf cd hl h;cases fuel with
  |zero=>omega
  |succ fuel=>
   have hms:m<ao.size:=ak
   have Ci:=mem_ready hms (N1 ak λhc=>aK0 _ ((hl m hms).1 hc)) λo ho e he JS=>by
    grind
   refine⟨λDL=>aI,λj hj=>?_⟩;have⟨Wj,fQ,o,uf,aiA⟩:=ug hj
   have hjm:=PE λaq=>by
    have:=(hl j Wj).2 aq
    simp_all[jW]
   have hje:j=m:=by
    refine Nat.le_antisymm (PE λaq=>?_) hjm;have⟨e,he,JS,hh⟩:=(haveI:=A6;Ha uf (ht j ak Wj m ak));have hle:=aiA e he JS;have zB:=(hl e.on aI).1 hle;rcases hh with hh|hh
    .omega
    .have:=avR hb e.on ak m hh;omega
   subst hje;rw[XA,wpOpsIn_cons]at h;refine wpOpIn_mono (λa w h=>?_) h;refine ih (j+1) fuel _ a w ak ak ak aI (λi hi=>?_) h;rw[Dw ak]
   grind
def Oper.ac0{K K':Act->Z0->Prop}(h:∀a w,K a w->K' a w)(hq:∀e a w,e≠.normal->Q' e a w->Q e a w)
 (hh:o.wpIn F n P a w K Q'):o.wpIn F n P a w K' Q:=by
 have lets:LetsOut Q'->LetsOut Q:=λ⟨a,w,h⟩=>⟨a,w,hq _ _ _ az h⟩;exists hh.1;have hh:=hh.2;generalize(o.semAt F.round a.eval).run P w=r at*
 cases r with
 |ok x w'=>
  cases x<;>simp only[aK6]at hh⊢<;>
   first
    |grind
    |exact⟨hh.1,CallsIn.mono hh.2 λe w'' he=>aI⟩
    |exact⟨hh.1,RowsIn.mono hh.2 λ_ _ he=>h _ _ he⟩
    |exact⟨hh.1,RoundIn.mono hh.2 λe w'' he=>aI⟩
 |halt x w'=>cases x<;>simp only[aK6]at hh⊢<;>first|exact hh|grind
def anN{pre:Array YX}(hb:LA ao)(hk:k<=ao.size)(ht:∀i,k<=i->i<ao.size->∀i',i'<i->Bf ao i i')(nf:pre.size=k)(Fe:∀i,i<k->pre[i]?=ao[i]?)(ue:sI pre (cU pre))
 (hg:∀i o,i<k->ao[i]?=aa o->∀j want,o.guard=aa (j,want)->j<k)(hqn:∀a w,Q' .normal a w->wpOpsIn F n P ao Q (Ln k (ao.size- k)) a w)(hq:∀e a w,e≠.normal->Q' e a w->Q e a w):
 ∀(fuel:Nat) (lp l:Array Bool) (a:Act) (w:Z0),lp.size=k->l.size=ao.size->(∀i,i<k->(jW l i↔jW lp i))->(∀i,k<=i->i<ao.size->¬jW l i)->(∀i,i<k->jW lp i->∀i',Bf ao i i'->jW lp i')->
  wpAnyIn F n P .any pre Q' fuel lp a w->wpAnyIn F n P .any ao Q (fuel+(ao.size- k)) l a w:=by
 have main:∀(fuel:Nat) (lp l:Array Bool) (a:Act) (w:Z0),lp.size=k->l.size=ao.size->(∀i,i<k->(jW l i↔jW lp i))->(∀i,k<=i->i<ao.size->¬jW l i)->Pq .any pre lp=[]->Q' .normal a w->ao.size- k<=fuel->wpAnyIn F n P .any ao Q fuel l a w:=by
  intro fuel lp l a w h1 h2 h3 h4 h5 h6 h7;have cQ:=aIR ue ak h5;refine aiD hb ht (ao.size- k) k fuel l a w ak (XS _) h7 h2 (λi hi=>⟨λh=>Tp λhc=>h4 i hc hi h,λh=>(h3 i h).2 (cQ i ak)⟩) (hqn _ _ h6)
 intro fuel;induction fuel with
 |zero=>
  intro lp l a w h1 h2 h3 h4 h5 h;exact main _ lp l a w h1 h2 h3 h4 h.1 h.2 ak
 |succ fuel ih=>
  intro lp l a w h1 h2 h3 h4 h5 h;by_cases hr:Pq .any pre lp=[]
  .exact main _ lp l a w h1 h2 h3 h4 hr (h.1 hr) ak
  .rw[Nat.add_right_comm]
   have up:∀j,j∈Pq .any pre lp->j∈Pq .any ao l:=by
    intro j hj;have⟨g1,g2,o,g3,g4⟩:=ug hj;have dg:j<k:=ak;rw[Fe j dg]at g3;refine mem_ready ak (N1 ak λhc=>?_) λo' ho' e he JS=>?_
    .have:=(h3 j dg).1 hc;rw[this]at g2;cases g2
    .rw[g3]at ho';cases ho';have:=hb j o g3 e he JS;exact(h3 e.on ak).2 (g4 e he JS)
   refine⟨λDL=>?_,λj hj=>?_⟩
   .cases hx:Pq .any pre lp with
    |nil=>exact bH hx hr
    |cons x xs=>
     have:=up x (by rw[hx];simp);rw[DL]at this;cases this
   .have⟨g1,g2,o,g3,g4⟩:=ug hj
    have aFA:∀x,x<j->jW l x->x<k/\jW lp x:=λx hx hl=>by
     have:=Tp λhc=>h4 x hc ak hl;exact⟨this,(h3 x this).1 hl⟩
    by_cases dg:j<k
    .have g3':pre[j]?=aa o:=by rw[Fe j dg];exact g3
     have hjp:j∈Pq .any pre lp:=by
      refine mem_ready ak (N1 ak λhc=>?_) λo' ho' e he JS=>?_
      .have:=(h3 j dg).2 hc;unfold jW at this
       grind
      grind
     have hw:=h.2 j hjp
     have hK:∀a w,wpAnyIn F n P .any pre Q' fuel (lp.setIfInBounds j ab) a w->wpAnyIn F n P .any ao Q (fuel+(ao.size- k)) (l.setIfInBounds j ab) a w:=by
      intro a w hh;refine ih _ _ a w aI aI (λi hi=>?_) (λi hi cX=>?_) (λi hi hl i' oe=>?_) hh
      .rw[Dw ak,Dw ak]
       grind
      .rw[Dw ak]
       grind
      .rw[Dw ak]at hl⊢;rcases hl with hl|rfl
       .grind
       .have⟨e,he,JS,hh⟩:=(haveI:=A6;Ha g3 oe)
        grind
     unfold wpOpIn at hw⊢;rw[g3']at hw;rw[g3];simp only at hw⊢
     have hwt:YJ o (yielded pre a.tmps)=YJ o (yielded ao a.tmps):=by
      unfold YJ;cases hgd:o.guard with
      |none=>rfl
      |some p=>
       grind [yielded]
     rw[hwt]at hw;split
     .rename_i hc;rw[aW hc]at hw;exact Oper.ac0 hK hq hw
     grind
    .exfalso;apply hr
     have cQ:∀i,i<k->jW lp i:=by
      intro i hi;have⟨e,he,JS,hh⟩:=(haveI:=A6;Ha g3 (ht j ak g1 i ak))
      grind
     cases hx:Pq .any pre lp with
     |nil=>rfl
     |cons x xs=>
      have⟨q1,q2,_⟩:=ug (show x∈Pq .any pre lp by grind);have:=cQ x ak;unfold jW at this
      grind
def U3(ao:Array YX)(k:Nat):Bool:=
 Nat.ble k ao.size&&(ao.toList.zipIdx.all λp=>(p.1.after.toList.all λe=> !Tn .any e||UO e.on p.2)&&
  (if UO p.2 k then(match p.1.guard with|some (j,_)=>UO j k|none=>ab)else(YF p.2).all λi=>RD ((QX ao).getD p.2 0) i))
def dP.aef(fG:P.follows .mixedOrders=ab)(ht:U3 ao k=ab)(ue:(cU (ao.extract 0 k)).ok=ab)(Q7:∀df,N0 P 0 rd (ao.extract 0 k) e df G e' aB)(hn:aB.n<=N)
 (h:eV P N rd ao (ao.toList.drop k) e' df aB CW):dP P N rd (.region id ao ab) e df G CW:=by
 simp only[U3,VM,Nat.ble_eq,US]at ht;have⟨hk,ht⟩:=ht
 have bx:∀(i:Nat) (o:YX),ao[i]?=aa o->(o,i)∈ao.toList.zipIdx:=λi o ho=>by
  grind
 have V3:LA ao:=λj o ho e he JS=>by
  have:=(ht _ (bx j o ho)).1 e he
  simp_all
 have avS:∀i,k<=i->i<ao.size->∀i',i'<i->Bf ao i i':=λi hi cX i' aq=>by
  have:=(ht _ (bx i _ (Kr cX))).2;rw[aY jw]at this
  grind
 have hg:∀i o,i<k->ao[i]?=aa o->∀j want,o.guard=aa (j,want)->j<k:=λi o hi ho j want hgd=>by
  have:=(ht _ (bx i o ho)).2
  simp_all
 have nf:(ao.extract 0 k).size=k:=aI
 have Fe:∀i,i<k->(ao.extract 0 k)[i]?=ao[i]? :=λi hi=>by
  grind
 intro α F Z a w Q hF hi he hd hQ;have⟨hB,ids,h1,h2,nj⟩:=hd;refine wpIn_region_any fG ?_
 have hz:∀m i,¬jW (Nq m af) i:=by
  simp_all[jW,aJx]
 have hp:=Q7 (ids.map .zK++df) N hn F Z a w (λex a w=>match ex with
  |.normal=>wpOpsIn F 0 P ao Q (Ln k (ao.size- k)) a w
  |ex=>Q ex a w) hF hi he h1 (by
   intro a' w' br ch i1 l1 e1 d1 p1;show wpOpsIn F 0 P ao Q (Ln k (ao.size- k)) a' w';have:=h α F br a' w' Q k rfl (hF.mono l1.ext) i1 e1 ⟨YE hB l1.size,ids,d1,λid hid=>(h2 id hid).step hi l1,nj⟩ λex e' aB hc=>(hQ ex e' aB hc).from hi l1 hn
   grind)
 rw[nf]at hp
 have:=anN (Q:=Q) (n:=0) V3 hk avS nf Fe (haveI:=A6;afr ue) hg (λa w h=>h) (λex a w cg h=>aI) k (Nq k af) (Nq ao.size af) a {w with drawn:=w.drawn+1} az az
  (λi _=>⟨λh=>bH h (hz _ i),λh=>bH h (hz _ i)⟩) (λi _ _=>hz _ i) (λi _ h=>bH h (hz _ i)) hp
 grind
def aqt(t m:Nat)(h:m<1000000):((t+1)*1000000+m) % 1000000=m:=ak
def ale(t m:Nat):1000000<=(t+1)*1000000+m:=ak
def avT(h:1000000<=kt)(h0:kt=0):False:=ak
def KK(h:1000000<=kt):rL kt=ab:=by
 unfold rL;rw[P6];exact .inr (by simpa using h)
def Left.init(ds:aj IV):Left ds [] ds:=by
 refine⟨ds.zipIdx,az,by simp[List.nodup_range'],λp hp=>⟨?_,az⟩,λi hi _=>?_⟩
 .grind
 .exact⟨(ds[i],i),O_.2 (UN hi),rfl⟩
def aII{B β:Type}(f:B->β):∀(l:aj B) (i:Nat),(l.map f).eraseIdx i=(l.eraseIdx i).map f
 |[],_=>rfl
 |_::_,0=>rfl
 |_::l,i+1=>by simp[aII f l i]
def Left.empty{seen:aj Nat}(h:Left ds seen rem)(hs:∀i,i<ds.length->i∈seen):rem=[]:=by
 obtain⟨ps,rfl,_,h3,_⟩:=h;cases ps with
 |nil=>rfl
 |cons p ps=>
  grind
def aJy{p:Nat->Nat->Prop}:∀(n:Nat),(∀i,i<n->∃b,∀N,b<=N->p i N)->∃b,∀i,i<n->∀N,b<=N->p i N
 |0,_=>⟨0,λi hi=>bH hi (aKG _)⟩
 |n+1,h=>by
  have⟨b,hb⟩:=aJy n λi hi=>h i ak;have⟨c,hc⟩:=h n ak;refine⟨max b c,λi hi N hN=>?_⟩
  grind
def Left.has{seen:aj Nat}(h:Left ds seen rem)(hi:i<ds.length)(hn:i∉seen):∃(j:Nat) (y:IV),rem[j]?=aa y/\ds[i]?=aa y/\Left ds (seen++[i]) (rem.eraseIdx j):=by
 obtain⟨ps,rfl,h2,h3,h4⟩:=h;obtain⟨p,hp,rfl⟩:=h4 i hi hn;have⟨j,hj⟩:=aIM.1 hp;refine⟨j,p.1,aI,(h3 p hp).1,ps.eraseIdx j,by rw[aII],?_,λq hq=>?_,λi hi hn=>?_⟩
 .grind
 .have⟨k,hk,hkq⟩:=aJe.1 hq;have ux:=ZU hkq;exists (h3 q ux).1;simp only[ZV,not_or];refine⟨(h3 q ux).2,λhe=>hk ?_⟩;have a1:(ps.map (·.2))[k]?=aa p.2:=aI;have a2:(ps.map (·.2))[j]?=aa p.2:=aI;have lO:=(Z5.1 a1).1;exact(List.getElem?_inj lO h2).1 (a1.trans a2.symm)
 .simp only[ZV,not_or]at hn;obtain⟨q,hq,rfl⟩:=h4 i hi hn.1;have⟨k,hk⟩:=aIM.1 hq;refine⟨q,aJe.2 ⟨k,λhe=>?_,hk⟩,rfl⟩
  grind
def aF3(n:Nat)(hn:0<n)(w:Z0):∃i w',i<n/\(choose (.mapNext n)).run P w=.ok i w'/\(w'=w\/w'={w with drawn:=w.drawn+1}):=by
 by_cases h:n<=1
 .exact⟨0,w,hn,by simp[Y3,Wr,h],.inl rfl⟩
 .exact⟨w.tape w.drawn (.mapNext n) % n,_,Nat.mod_lt _ hn,by simp[Y3,Wr,h,Question.cut],.inr rfl⟩
variable{res:Array MapEntry}{es:aj (ZQ×IV×Nat)}
def aGb{r:Nat}{seen:Array Nat}{t:VK}(hh:w.heap[r]?=aa (.mapIter (aa m) n seen n))(M5:w.heap[m]?=aa (.map res clock))(hn:clock=n)(hb:∀e∈res,e.born<n):
 ∃w0,(w0=w\/w0={w with drawn:=w.drawn+1})/\(((∀e∈res,e.born∈seen)/\(X2 (.pointer (aa ⟨r,0,ah⟩)) af t).run P w=.ok (.tuple #[.bool af]) w0)\/
  ∃e∈res,e.born∉seen/\(X2 (.pointer (aa ⟨r,0,ah⟩)) af t).run P w=.ok (.tuple #[.bool ab,e.key,e.val]) {w0 with heap:=w0.heap.setIfInBounds r (.mapIter (aa m) n (seen.push e.born) n)}):=by
 subst hn
 have dj:¬((!seen.isEmpty&& !res.isEmpty&&res.all λe=>decide (e.born≥clock))=ab):=by
  intro hc;simp only[VM,Array.all_eq_true_iff_forall_mem]at hc;have cg:res.size≠0:=aI;have:=hc.2 (res[0]'ak) az
  grind
 have hold:∀left:Array MapEntry,(∀e∈left,e∈res)->left.filter (λe=>decide (e.born<clock))=left:=λleft hl=>by
  simp_all
 have jk:∀left:Array MapEntry,(∀e∈left,e∈res)->left.filter (λe=>decide (e.born≥clock))= #[]:=λleft hl=>by
  simp_all
 have lk:∀e∈res.filter λe=> !seen.contains e.born,e∈res:=λe he=>(Array.mem_filter.1 he).1;generalize alf:res.filter (λe=> !seen.contains e.born)=left at lk;by_cases hl:left= #[]
 .subst hl;refine⟨w,.inl rfl,.inl ⟨λe he=>?_,?_⟩⟩
  .grind
  .simp only[X2,Z1,dS (P:=P) hh az,Rn,dS (P:=P) M5 az];rw[aY dj];simp only[alf];simp[Y3,Wr]
 .have cd:0<(left.map aa).size:=by
   grind
  have⟨c,w0,hc,jU,hw0⟩:=aF3 (P:=P) (left.map aa).size cd w;have sF:c<left.size:=aI;have pR:left[c]∈left:=az;refine⟨w0,hw0,.inr ⟨left[c],lk _ pR,?_,?_⟩⟩
  .grind
  .have S7:w0.heap[r]?=aa (.mapIter (aa m) clock seen clock):=by
    grind
   have hem:left.isEmpty=af:=aI;simp only[X2,Z1,dS (P:=P) hh az,Rn,dS (P:=P) M5 az];rw[aY dj];simp only[Z1,alf,hold left lk,jk left lk,hem,Bool.false_eq_true,if_false,Array.empty_append,Array.append_empty,jU,Rn];have:(left.map aa)[c]?=aa (aa left[c]):=az;rw[this];simp only[Z1,jl (P:=P) S7 az,Rn,VV]
def eV.avU{it:Xs}{seen:aj Nat}(hw:bE o ao e=ab)(ho:o.op=.next it af)(hit:aT e it=.ptr id 0 0 1)
 (bx:G.at id=aa (.na (aa m) es.length seen es.length))(VY:G.at m=aa (.map es clock))(hc:Canon es clock)(hN:G.n<=N)
 (h0:(∀i,i<es.length->i∈seen)->eV P N rd ao l (e.put o.dst (.aU [.bool af])) df G CW)
 (h1:∀i en,es[i]?=aa en->i∉seen->eV P N rd ao l (e.put o.dst (.aU [.bool ab,lift en.1,en.2.1])) df (G.put id (.na (aa m) es.length (seen++[i]) es.length)) CW):eV P N rd ao (o::l) e df G CW:=by
 refine .cons hw λα F Z a w Q k hl hF hi he hd hQ=>?_;exists λf _=>hF.fn f;rw[TU _ _ _ λc hc=>by rw[ho]at hc;cases hc];have hr:=he.eval it;rw[hit]at hr;generalize hq:a.eval it=q at hr;cases hr with
 |ptr _ _ _ _ lo yd hle=>
  have aq:=hi.iO id _ ⟨_,_,yd,rfl⟩;obtain⟨l',mr,dq,hh,lm,DQ,rfl⟩:=hi.obj id _ bx;rw[yd]at dq;cases dq;have⟨lm',res,Kq,M5,tz⟩:=hi.obj m _ VY;rw[DQ]at Kq;cases Kq;have kW:=hc.1
  have Pf:∀(i:Nat) (r:MapEntry),res[i]?=aa r->i<es.length/\r.born=i:=by
   intro i r hr;have cX:i<es.length:=by have:=(Xh.1 hr).1;rw[tz.1];exact this
   exact⟨cX,((tz.2 i es[i] r (UN cX) hr).2.2).trans (hc.2 i _ (UN cX))⟩
  have EZ:∀r∈res,∃i,res[i]?=aa r:=λr hr=>by
   obtain⟨i,hi,rfl⟩:=Array.mem_iff_getElem.1 hr;exact⟨i,Kr hi⟩
  have⟨w0,hw0,nK⟩:=aGb (P:=P) (t:=o.type) hh M5 kW (λr hr=>by
   have⟨i,hi⟩:=EZ r hr;have:=Pf i r hi;omega)
  have Kw:Inv N Z G w0:=by rcases hw0 with rfl|rfl;exact hi;exact hi.same rfl
  have aiE:Le 0 Z w G Z w0 G:=by rcases hw0 with rfl|rfl;exact Le.refl _ _ _ _;exact Le.same rfl rfl rfl rfl
  rcases nK with⟨cQ,jU⟩|⟨r,J0,hrs,jU⟩
  .have hx:(execOp a.eval o).run P w=.ok (.value (.tuple #[.bool af])) w0:=by
    simp only[execOp,ho,hq];simp only[Z1,jU];rfl
   rw[hx,T9];refine h0 (λi hi=>?_) α F Z _ w0 Q (k+1) hl hF Kw (he.put (uZ (bu.cons (.raw _) bu.nil)) _) (by have:=hd.step hi aiE;cases o.dst<;>exact this) λex e' aB hc=>(hQ ex e' aB hc).from hi aiE hN;have cX:i<res.size:=by rw[<-tz.1];exact hi
   have:=cQ res[i] az;rw[(Pf i res[i] (Kr cX)).2]at this;simpa using this
  .have⟨i,gQ⟩:=EZ r J0;have⟨D3,hbi⟩:=Pf i r gQ
   have hx:(execOp a.eval o).run P w=.ok (.value (.tuple #[.bool ab,r.key,r.val])) {w0 with heap:=w0.heap.setIfInBounds lo.b (.mapIter (aa lm.b) es.length (seen.toArray.push r.born) es.length)}:=by
    simp only[execOp,ho,hq];simp only[Z1,jU];rfl
   rw[hx,T9];have⟨hk,hv,hb⟩:=tz.2 i es[i] r (UN D3) gQ;have vR:lo.b<w0.heap.size:=by rcases hw0 with rfl|rfl<;>exact aq
   obtain⟨r1,r2⟩:=Kw.zO (ro:=0) (gO:=.na (aa m) es.length (seen++[i]) es.length) (go:=.mapIter (aa lm.b) es.length (seen.toArray.push r.born) es.length) bx (UT _) yd ⟨lo,aa lm.b,yd,by simp[vR,hbi],lm,DQ,rfl⟩;have Ro:=Le.then hi hN aiE r2;refine h1 i es[i] (UN D3) (by rw[hbi]at hrs;simpa using hrs) α F Z _ _ Q (k+1) hl hF r1 (he.put ?_ _) (by have:=hd.step hi Ro;cases o.dst<;>exact this) λex e' aB hc=>(hQ ex e' aB hc).from hi Ro hN;rw[<-hk];exact uZ (bu.cons (.raw _) (bu.cons (Rv.lift _) (bu.cons hv bu.nil)))
end Go.Ev

