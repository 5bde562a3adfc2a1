/- Lemmas, a part of the proof; no conditions. -/
import Derived.Test.YtabefplkfkfdfaaGreatPAc
import Derived.KernelRfl
open Go.Ev.SE renaming den->UU
open Go renaming TypeId->VK,Program->V5,FuncId->V4,World->Z0,Oper->YX
open Nat renaming beq->ZW,beq_eq->ZT,blt->UO,sub_self->aK8,lt_succ_of_lt->aKt,ble->ZK
open List renaming length->VT,range->YF,prefix_refl->Y8,prefix_append->aJ5,getElem?_cons_zero->aJF,getElem?_set->aKf,mem_filterMap->aJ6,drop_zero->aKI
open Option renaming map_eq_some_iff->Lq,bind_some->Z8,map_some->ZO
open Go.Fence renaming wide->Z9
open Iff renaming rfl->M3
open Bool renaming and_self->aKS
open Go.ResultVar renaming tmp->aLi,cell->aLj
open Go.Instr renaming yield->Na
open Prod renaming fst->Yd
open Go.IntKind renaming i64->QY
open Go.Op renaming bytesLess->TH,equalIn->NI
open Option renaming some->aa,none->ah
open Bool renaming true->ab,false->af
set_option linter.all false
def Ki:=@List.length_map
def ZX:=@List.drop_of_length_le
def UQ:=@List.drop_eq_getElem_cons
def Qy:=@List.nil_append
def XT:=@List.isEmpty_iff
def To:=@List.singleton_append
def UA:=@List.nodup_cons
def TN:=@Bool.false_and
namespace Go.Ev
namespace T
variable{B:Type}
def of(f:Nat->aF B):Nat->T B
 |0=>.lf
 |n+1=>match f n with
  |some x=>(of f n).set n x
  |none=>of f n
def Mq(f:Nat->aF B):∀n,(of f n).WF
 |0=>WF.lf
 |n+1=>by
  unfold of;split
  .exact(Mq f n).set _ _
  .exact Mq f n
def PM(f:Nat->aF B):∀(n i:Nat),(of f n).get i=if i<n then f i else ah
 |0,i=>by rfl
 |n+1,i=>by
  unfold of;split
  .rw[jS];split
   .grind
   .rw[PM f n i]
    grind
  .rw[PM f n i]
   grind
end T
def St.only(G:St)(eK:Nat->Bool):St:=⟨G.n,T.of (λi=>if eK i then G.at i else ah) G.n⟩
variable{G aG:St}
def RF(eK:Nat->Bool)(NS:∀id,G.n<=id->G.at id=ah)(i:Nat):(G.only eK).at i=if eK i then G.at i else ah:=by
 unfold St.only St.at;simp only[T.PM];split
 .rfl
 .have:=NS i ak
  simp_all[St.at]
def St.back(G aG:St)(eK:Nat->Bool):St:=⟨aG.n,T.of (λi=>if i<G.n/\eK i=af then G.at i else aG.at i) aG.n⟩
def RG(eK:Nat->Bool)(hn:G.n<=aG.n)(NS:∀id,aG.n<=id->aG.at id=ah)(i:Nat):(G.back aG eK).at i=if i<G.n/\eK i=af then G.at i else aG.at i:=by
 unfold St.back St.at;simp only[T.PM];split
 .rfl
 .rw[aY ak];have:=NS i ak
  simp_all[St.at]
variable{N:Nat}{P:V5}{RW:Nat->IV->St->Prop}{Z:Io}{aB:St}{av:aj IV}{f:V4}{w:Z0}
def eO.frame{RW:IV->St->Prop}(eK:Nat->Bool)(NS:∀id,G.n<=id->G.at id=ah)(h:eO P N f av (G.only eK) RW):
 eO P N f av G (λv aB=>∃aG,RW v aG/\aB=G.back aG eK/\G.n<=aG.n/\(∀id,aG.n<=id->aG.at id=ah)/\∀id,id<G.n->eK id=af->aG.at id=ah):=by
 intro Z us w hi hr;have bx:=RF eK NS
 have Kw:Inv N Z (G.only eK) w:=by
  refine⟨hi.mem,hi.sep,hi.iO,hi.fresh,hi.inj,λid o ho=>?_,λid hid=>?_⟩
  .rw[bx]at ho;split at ho
   .exact hi.obj id o ho
   grind
  .rw[bx];split
   .exact hi.wf id hid
   .rfl
 refine(h Z us w Kw hr).mono λed w' hR=>?_;have⟨v,aG,yu,hR⟩:=hR;cases ed with
 |returned u=>
  have⟨br,h1,h2,h3⟩:=hR;have hn:G.n<=aG.n:=h3.BO
  have ID:∀id,id<G.n->eK id=af->aG.at id=ah:=λid hid hv=>by
   refine h3.dead id ?_ (.inl hid)
   grind
  have Hr:=RG (G:=G) (aG:=aG) eK hn h2.wf;refine⟨v,G.back aG eK,⟨aG,yu,rfl,hn,h2.wf,ID⟩,br,h1,⟨h2.mem,h2.sep,h2.iO,h2.fresh,h2.inj,λid o ho=>?_,λid hid=>?_⟩,?_⟩
  .rw[Hr]at ho;split at ho<;>try exact h2.obj id o ho
   rename_i hc;refine(hi.obj id o ho).keep h3.ext (h3.EV id aI (.inl hc.1)) λb hb=>h3.frame b (hi.iO id b hb) λbY ua=>.inr ?_;have:=hi.inj id bY b hb ua
   grind
  .rw[Hr];have mv:aG.n<=id:=hid;rw[aY ak];exact h2.wf id mv
  .refine⟨h3.ext,h3.own,λid hid hr=>h3.EV id aI hr,λid hid hr=>?_,λid hr=>bH hr (Nat.not_lt_zero _),hn,h3.os,h3.tape,h3.output,h3.size,λb hb hc=>h3.frame b hb λid ho=>?_,h3.zM⟩
   .rw[Hr];split
    .omega
    .exact h3.dead id aI hr
   grind
 |outgrown=>cases hR
 |panicked chain=>cases hR
abbrev QO(s:Nat)(es:aj IV)(R:Rs)(X:Ph)(E:Nat->aK)(G:St):Prop:=J (B:=Unit) [] (λ_=>aa (.tree s es)) R X [] [.row s af af af ()] E G
abbrev TG(s:Nat)(es:aj IV)(R:Rs)(X:Ph)(G:St)(x:IV):Prop:=dT (B:=Unit) (λ_=>aa (.tree s es)) R X [.row s af af af ()] G x (.sr 0)
variable{E:Nat->aK}{R R':Rs}{X bA:Ph}
def IE(P:V5)(s:Nat)(f:V4)(es:aj IV)(xs:aj IV)(bF:aj IV):Prop:=
 ∀R X E G x av,QO s es R X E G->TG s es R X G x->All2 lr av xs->∀KW:Nat->IV->St->Prop,(∀R' bA aB v,QO s bF R' bA E aB->TG s bF R' bA aB v->∃b,∀N,b<=N->KW N v aB)->
  ∃b,∀N,b<=N->eO P N f (x::av) G (KW N)
variable{fr:Bool}{x y:IV}
def bZ.move(hm:∀i ob,G.at i=aa ob->aB.at i=aa ob/\R' i=R i)(h:bZ fr R G x y):bZ fr R' aB x y:=by
 induction h with
 |raw v=>exact .raw v
 |nil s hs=>exact .nil s hs
 |emp s hs=>exact .emp s hs
 |eT t x y _ ih=>exact .eT t x y ih
 |agg cs ds hl _ ih=>exact .agg cs ds hl ih
 |aU cs ds hl _ ih=>exact .aU cs ds hl ih
 |pure x hf hp=>exact .pure x hf hp
 |sl id ay len cap ep s m cs aV mn es hR bx h1 h2 hs hl hb Wf cD _ ih=>
  have⟨g1,g2⟩:=hm id _ bx;exact .sl id ay len cap ep s m cs aV mn es aI g1 h1 h2 hs hl hb Wf cD ih
variable{Cx:Cs}{L:aj (LO SE)}{O bF es xs:aj IV}{k s:Nat}{z:IV}{Γ:Gm SE}
def afY{z z':SE}(h:J Cx (aM P O) R X Γ L E G)(hk:L[k]?=aa (.row s af af fr z))(hz:z.den P O=aa (.tree s es))(vF:z'.den P O=aa (.tree s bF))
 (oq:∀e∈es,∀c∈aD e,aZ c=ab)(hx:dT (aM P O) R X L G x (.sr k))(cj:All2 lr av xs)
 (Tw:∀d t pv,dk d t Γ=aa pv->pv.ok (·=k))(hL:∀j o,L[j]?=aa o->j≠k->o.ok (·=k))(hr:IE P s f es xs bF)
 (KW:Nat->IV->St->Prop)(Xu:∀R' bA aB v,J Cx (aM P O) R' bA Γ (L.set k (.row s af af af z')) E aB->dT (aM P O) R' bA (L.set k (.row s af af af z')) aB v (.sr k)->∃b,∀N,b<=N->KW N v aB):
 ∃b,∀N,b<=N->eO P N f (x::av) G (KW N):=by
 have⟨dc,oY,g1,g2,g3⟩:=h.obj k _ hk;have uB:z.den P O=aa (.tree s oY):=g1;rw[hz]at uB;cases uB;have gR:=gr hk
 let eK:Nat->Bool:=λi=>match X k with
  |some id=>ZW i id
  |none=>af
 have KY:∀i,eK i=ab↔X k=aa i:=λi=>by
  simp only[eK];cases X k with
  |none=>simp
  |some id=>simp only[ZT,ZY];exact eq_comm
 have bx:=RF eK h.top
 have av2:∀d∈flat es,aZ d=ab:=λd hd=>by
  have⟨e,he,hc⟩:=XC.1 hd;exact oq e he d hc
 have oL:QO s es (λ_=>ah) (λj=>if j=0 then X k else ah) E (G.only eK):=by
  refine⟨λd t pv hg=>(by cases hg),λj ob hj=>?_,λj j' id h1 h2=>?_,λj id hj=>?_,λid m hm=>(by cases hm),λid m cs aV mn hm=>(by cases hm),T.Mq _ _,λid hid=>?_⟩
  .cases j with
   |succ j=>simp at hj
   |zero=>
    simp at hj;subst hj;exists dc,es,rfl,g2;rcases g3 with⟨a,b⟩|⟨id,cs,aV,mn,a1,a2,a3,a4,a5,a6,a7⟩
    .exact .inl ⟨by simp[a],b⟩
    .refine .inr ⟨id,cs,aV,mn,by simp[a1],?_,a3,a4,rfl,a6,λj u v hu hv=>?_⟩
     .rw[bx,(KY id).2 a1];simpa using a2
     .have hd:=av2 v (ZU hv);have:=a7 j u v hu hv;cases v<;>simp only[aZ]at hd<;>try (cases hd;done)
      rw[dH this];exact .raw _
  .split at h1<;>try (cases h1;done)
   split at h2<;>try (cases h2;done)
   omega
  .split at hj<;>try (cases hj;done)
   rename_i hj0;subst hj0;exact⟨az,(h.lt k id hj).2⟩
  .rw[bx];split
   .exact h.top id hid
   .rfl
 have hX0:TG s es (λ_=>ah) (λj=>if j=0 then X k else ah) (G.only eK) x:=by
  have⟨s1,sM,Ec,Ea,z1,me,b1,b2,b3⟩:=hx;rw[hk]at b1;cases b1;have zF:z.den P O=aa (.tree s me):=b2;rw[hz]at zF;cases zF;exists s,af,af,af,(),es,rfl,rfl;rcases b3 with⟨c1,c2,c3⟩|⟨id,cs,aV,mn,cap,c1,c2,c3,c4,c5,c6⟩
  .exact .inl ⟨by simp[c1],c2,c3⟩
  .exact .inr ⟨id,cs,aV,mn,cap,by simp[c1],by rw[bx,(KY id).2 c1];simpa using c2,c3,c4,c5,c6⟩
 suffices adA:∀R1 fa aG v,QO s bF R1 fa E aG->TG s bF R1 fa aG v->G.n<=aG.n->(∀id,id<G.n->eK id=af->aG.at id=ah)->∃b,∀N,b<=N->KW N v (G.back aG eK) by
  have⟨b,hb⟩:=hr _ _ _ _ x av oL hX0 cj (λN v aG=>G.n<=aG.n->(∀id,id<G.n->eK id=af->aG.at id=ah)->KW N v (G.back aG eK)) λR1 fa aG v h1 h2=>by
   by_cases hc:G.n<=aG.n/\∀id,id<G.n->eK id=af->aG.at id=ah
   .have⟨b,hb⟩:=adA R1 fa aG v h1 h2 hc.1 hc.2;exact⟨b,λN hN _ _=>hb N hN⟩
   .exact⟨0,λN _ h3 h4=>bH ⟨h3,h4⟩ hc⟩
  refine⟨b,λN hN Z us w hi py=>((hb N hN).frame eK h.top Z us w hi py).mono λed w' hR=>?_⟩;obtain⟨v,aB,⟨aG,mf,rfl,hle,_,ID⟩,ai_⟩:=hR;exact⟨v,G.back aG eK,mf hle ID,ai_⟩
 intro R1 fa aG v cC hX1 hle ID;have PN:=cC.top;have Hr:=RG (G:=G) (aG:=aG) eK hle PN;have hold:∀id,id<G.n->eK id=af->(G.back aG eK).at id=G.at id:=λid h1 h2=>by rw[Hr,aW ⟨h1,h2⟩]
 have jk:∀id ob,aG.at id=aa ob->¬(id<G.n/\eK id=af):=λid ob ho hc=>by rw[ID id hc.1 hc.2]at ho;cases ho
 have PO:∀id ob,aG.at id=aa ob->(G.back aG eK).at id=aa ob:=λid ob ho=>by rw[Hr,aY (jk id ob ho)];exact ho
 let R2:Rs:=λi=>if i<G.n/\eK i=af then R i else R1 i
 let Fq:Ph:=λi=>if i=k then fa 0 else X i
 have hRk:∀id,X k=aa id->R id=ah:=λid hid=>by
  rcases g3 with⟨a,_⟩|⟨bY,cs,aV,mn,a1,_,_,_,a5,_⟩
  .rw[hid]at a;cases a
  .rw[hid]at a1;cases a1;simpa using a5
 have Ek:∀id m,R id=aa m->id<G.n/\eK id=af:=λid m hm=>by
  exists h.tC id m hm;cases hv:eK id with
  |false=>rfl
  |true=>rw[hRk id ((KY id).1 hv)]at hm;cases hm
 have xc:∀j id,j≠k->X j=aa id->id<G.n/\eK id=af:=λj id hj hid=>by
  exists (h.lt j id hid).2;cases hv:eK id with
  |false=>rfl
  |true=>exact bH (h.inj j k id hid ((KY id).1 hv)) hj
 have Fj:∀id m cs aV mn,R2 id=aa m->(G.back aG eK).at id=aa (.cells cs aV mn)->m<=cs.length:=λid m cs aV mn hm ha=>by
  simp only[R2]at hm;rw[Hr]at ha;split at hm
  .rename_i hc;rw[aW hc]at ha;exact h.fits id m cs aV mn hm ha
  .rename_i hc;rw[aY hc]at ha;exact cC.fits id m cs aV mn hm ha
 have u6:lq R G R2 (G.back aG eK):=by
  refine⟨λid m hm=>⟨m,by simp only[R2];rw[aW (Ek id m hm)];exact hm,XS _⟩,λid m cs aV mn hm ha=>⟨cs,aV,?_,XS _,λ_ _=>rfl⟩,Fj⟩;rw[hold id (Ek id m hm).1 (Ek id m hm).2];exact ha
 have cg:∀j,j≠k->(L.set k (.row s af af af z'))[j]?=L[j]? :=λj hj=>YQ λhc=>hj hc.symm;have cH:(L.set k (.row s af af af z'))[k]?=aa (.row s af af af z'):=by simp[gR]
 have GF:∀j,j≠k->Fq j=X j:=λj hj=>by simp only[Fq];rw[aY hj]
 have xu:Fq k=fa 0:=by simp[Fq]
 have hs:ni (aM P O) (aM P O) R X L G R2 Fq (L.set k (.row s af af af z')) (G.back aG eK) (·=k):=by
  refine⟨λ_ _ h=>h,u6,λj cs hj=>?_,λj kt me hj=>?_,λj s1 sM Ec Ea z1 hj hb=>?_,λj c sM snap hj=>?_⟩
  .have dg:j≠k:=λhc=>by subst hc;rw[hk]at hj;cases hj
   exact⟨⟨cs,by rw[cg j dg];exact hj⟩,GF j dg⟩
  .have dg:j≠k:=λhc=>by subst hc;rw[hk]at hj;cases hj
   exact⟨⟨me,by rw[cg j dg];exact hj⟩,GF j dg⟩
  .exact⟨⟨sM,Ea,z1,by rw[cg j hb];exact hj,λe he=>⟨e,he,rfl⟩⟩,GF j hb,λid cs aV mn hid ha=>⟨cs,mn,by rw[hold id (xc j id hb hid).1 (xc j id hb hid).2];exact ha,rfl,λh=>h⟩⟩
  .have dg:j≠k:=λhc=>by subst hc;rw[hk]at hj;cases hj
   exact⟨⟨c,sM,snap,by rw[cg j dg];exact hj⟩,GF j dg⟩
 obtain⟨iP,es3,k1,k2,k3⟩:=cC.obj 0 _ rfl;have Cn:=k1;cases Cn
 have RH:∀id,fa 0=aa id->∃ob,aG.at id=aa ob:=λid hid=>by
  rcases k3 with⟨a,_⟩|⟨bY,cs,aV,mn,a1,a2,_⟩
  .rw[hid]at a;cases a
  .rw[hid]at a1;cases a1;exact⟨_,a2⟩
 refine Xu R2 Fq (G.back aG eK) v ⟨λd t pv hg=>(h.slot d t pv hg).step hs (Tw d t pv hg),λj ob hj=>?_,λj j' id h1 h2=>?_,λj id hj=>?_,λid m hm=>?_,Fj,T.Mq _ _,λid hid=>?_⟩ ?_
 .by_cases dg:j=k
  .subst dg;rw[cH]at hj;cases hj;exists iP,bF,vF,k2;rcases k3 with⟨a,b⟩|⟨id,cs,aV,mn,a1,a2,a3,a4,a5,a6,a7⟩
   .exact .inl ⟨by rw[xu];exact a,b⟩
   .refine .inr ⟨id,cs,aV,mn,by rw[xu];exact a1,PO id _ a2,a3,a4,?_,a6,λq u v hu hv=>?_⟩
    .simp only[R2];rw[aY (jk id _ a2)];exact a5
    .refine(a7 q u v hu hv).move λi ob ho=>⟨PO i ob ho,?_⟩;simp only[R2];rw[aY (jk i ob ho)]
  .rw[cg j dg]at hj;exact(h.obj j ob hj).step hs (GF j dg) (λid hid=>⟨hold id (xc j id dg hid).1 (xc j id dg hid).2,by simp only[R2];rw[aW (xc j id dg hid)]⟩) (hL j ob hj dg)
 .by_cases hj:j=k
  .by_cases tj:j'=k
   .rw[hj,tj]
   .exfalso;rw[hj,xu]at h1;rw[GF j' tj]at h2;have⟨ob,ho⟩:=RH id h1;exact jk id ob ho (xc j' id tj h2)
  .by_cases tj:j'=k
   .exfalso;rw[tj,xu]at h2;rw[GF j hj]at h1;have⟨ob,ho⟩:=RH id h2;exact jk id ob ho (xc j id hj h1)
   .rw[GF j hj]at h1;rw[GF j' tj]at h2;exact h.inj j j' id h1 h2
 .by_cases dg:j=k
  .subst dg;rw[xu]at hj;exact⟨by simpa using gR,(cC.lt 0 id hj).2⟩
  .rw[GF j dg]at hj;have:=h.lt j id hj;exact⟨by simpa using this.1,Zu this.2 hle⟩
 .simp only[R2]at hm;split at hm
  .exact Zu (h.tC id m hm) hle
  .exact cC.tC id m hm
 .have mv:aG.n<=id:=hid;rw[Hr,aY ak];exact PN id mv
 .have⟨s1,sM,Ec,Ea,z1,me,b1,b2,b3⟩:=hX1;have Cm:=b1;cases Cm;have zF:=b2;cases zF;exists s,af,af,af,z',bF,cH,vF;rcases b3 with⟨c1,c2,c3⟩|⟨id,cs,aV,mn,cap,c1,c2,c3,c4,c5,c6⟩
  .exact .inl ⟨by rw[xu];exact c1,c2,c3⟩
  .exact .inr ⟨id,cs,aV,mn,cap,by rw[xu];exact c1,PO id _ c2,c3,c4,c5,c6⟩
abbrev adB(ins:aj (aj IV)):aj (LO IV):=ins.map λcs=>.var (cs.map .v)
abbrev Vb(ins:aj (aj IV))(R:Rs)(X:Ph)(E:Nat->aK)(G:St):Prop:=J (B:=IV) [] aa R X [] (adB ins) E G
def KZ(X:Ph)(ins:aj (aj IV))(ps:aj IV):Prop:=
 ps.length=ins.length/\∀i cs p,ins[i]?=aa cs->ps[i]?=aa p->∃id,X i=aa id/\p=.ptr id 0 0 cs.length
def IF(P:V5)(f:V4)(ins:aj (aj IV))(xs:aj IV)(outs:aj (aj IV))(z:IV):Prop:=
 ∀R X E G ps av,Vb ins R X E G->KZ X ins ps->All2 lr av xs->∀KW:Nat->IV->St->Prop,
  (∀R' bA aB v,Vb outs R' bA E aB->KZ bA outs ps->lr v z->∃b,∀N,b<=N->KW N v aB)->∃b,∀N,b<=N->eO P N f (ps++av) G (KW N)
def DG{B:Type}(ev:B->aF IV)(ds:aj (Cl B))(cs:aj IV):Prop:=All2 (λ(c:Cl B) u=>∃e,c=.v e/\ev e=aa u) ds cs
variable{cs:aj (Cl SE)}{i ro:Nat}{ps:aj IV}{w':Z0}
def anY{B:Type}{ev:B->aF IV}{Γ:Gm B}{L:aj (LO B)}(h:J Cx ev R X Γ L E G){ds:aj (Cl B)}{cs:aj IV}(hk:L[k]?=aa (.var ds))(hc:DG ev ds cs):
 ∃id dR,X k=aa id/\R id=ah/\G.at id=aa (.cells dR 0 0)/\dR.length=cs.length/\∀(j:Nat) x u,dR[j]?=aa x->cs[j]?=aa u->lr x u/\aw u=ab:=by
 have⟨id,dR,h1,h2,h3,h4⟩:=h.obj k _ hk;refine⟨id,dR,h1,h2,h3,by rw[h4.len,hc.len],λj x u hx hu=>?_⟩;have hj:j<ds.length:=by grind [hc.len]
 have⟨e,he,S2⟩:=hc.get (UN hj) hu;have:=h4.get hx (UN hj);rw[he]at this;have⟨y,y1,y2,y3⟩:=this
 grind
def getElem?_inj{ks:aj Nat}(nj:ks.Nodup){i':Nat}(h1:ks[i]?=aa k)(h2:ks[i']?=aa k):i=i':=by
 exact(List.getElem?_inj (Z5.1 h1).1 nj).1 (h1.trans h2.symm)
def adD{B:Type}{ev lP:B->aF IV}{Γ:Gm B}{L L':aj (LO B)}(hup:∀e z,ev e=aa z->lP e=aa z)(h:J Cx ev R X Γ L E G){ks:aj Nat}(nj:ks.Nodup)
 {ins outs:aj (aj IV)}(dZ:ks.length=ins.length)(pR:∀(i k:Nat) (cs:aj IV),ks[i]?=aa k->ins[i]?=aa cs->∃ds:aj (Cl B),L[k]?=aa (LO.var ds)/\DG ev ds cs)
 (nf:KZ (λi=>(ks[i]?).bind X) ins ps)(cj:All2 lr av xs)(hr:IF P f ins xs outs z)(ho:outs.length=ins.length)(hlL:L'.length=L.length)
 (hLo:∀j,j∉ks->L'[j]?=L[j]?)(hLk:∀(i k:Nat) (cs:aj IV),ks[i]?=aa k->outs[i]?=aa cs->∃ds:aj (Cl B),L'[k]?=aa (LO.var ds)/\DG lP ds cs)
 (KW:Nat->IV->St->Prop)(Xu:∀R' aB v,J Cx lP R' X Γ L' E aB->lr v z->∃b,∀N,b<=N->KW N v aB):
 ∃b,∀N,b<=N->eO P N f (ps++av) G (KW N):=by
 let eK:Nat->Bool:=λi=>ks.any λk=>match X k with
  |some id=>ZW i id
  |none=>af
 have KY:∀i,eK i=ab↔∃k∈ks,X k=aa i:=λi=>by
  simp only[eK,UC];constructor
  .rintro⟨k,hk,hh⟩;exists k,hk;split at hh
   .rename_i id hid;rw[hid,ZR hh]
   .cases hh
  .rintro⟨k,hk,hh⟩;exact⟨k,hk,by rw[hh];simp⟩
 have bx:=RF eK h.top
 let φ0:Ph:=λi=>(ks[i]?).bind X
 have aja:∀i id,φ0 i=aa id->∃k,ks[i]?=aa k/\X k=aa id:=λi id hi=>by
  exact ZS.1 hi
 have Q9:∀(i:Nat) (cs:aj IV),ins[i]?=aa cs->∃(k id:Nat) (dR:aj IV),ks[i]?=aa k/\X k=aa id/\R id=ah/\G.at id=aa (.cells dR 0 0)/\dR.length=cs.length/\∀(j:Nat) x u,dR[j]?=aa x->cs[j]?=aa u->lr x u/\aw u=ab:=λi cs hi=>by
  have cX:i<ks.length:=by rw[dZ];exact(Z5.1 hi).1
  have hk:=UN cX;have⟨ds,d1,d2⟩:=pR i _ cs hk hi;have⟨id,dR,a⟩:=anY h d1 d2;exact⟨_,id,dR,hk,a⟩
 have oL:Vb ins (λ_=>ah) φ0 E (G.only eK):=by
  refine⟨λd t pv hg=>(by cases hg),λj ob hj=>?_,λj j' id h1 h2=>?_,λj id hj=>?_,λid m hm=>(by cases hm),λid m cs aV mn hm=>(by cases hm),T.Mq _ _,λid hid=>?_⟩
  .rw[Z7]at hj;obtain⟨cs,cD,rfl⟩:=Lq.1 hj;have⟨k,id,dR,k1,k2,k3,k4,k5,k6⟩:=Q9 j cs cD;refine⟨id,dR,by simp[φ0,k1,k2],rfl,?_,.mk (by simp[k5]) λq x c hx hc=>?_⟩
   .rw[bx,(KY id).2 ⟨k,ZU k1,k2⟩];simpa using k4
   .rw[Z7]at hc;obtain⟨u,hu,rfl⟩:=Lq.1 hc;have⟨c1,c2⟩:=k6 q x u hx hu;exact⟨u,rfl,c1,c2⟩
  .have⟨k,k1,k2⟩:=aja j id h1;have⟨k',Cn,k2'⟩:=aja j' id h2;have:=h.inj k k' id k2 k2';subst this;exact getElem?_inj nj k1 Cn
  .have⟨k,k1,k2⟩:=aja j id hj;refine⟨?_,(h.lt k id k2).2⟩;have:=(Z5.1 k1).1;simp;omega
  .rw[bx];split
   .exact h.top id hid
   .rfl
 suffices adA:∀R1 fa aG v,Vb outs R1 fa E aG->KZ fa outs ps->lr v z->G.n<=aG.n->(∀id,id<G.n->eK id=af->aG.at id=ah)->∃b,∀N,b<=N->KW N v (G.back aG eK) by
  have⟨b,hb⟩:=hr _ _ _ _ ps av oL nf cj (λN v aG=>G.n<=aG.n->(∀id,id<G.n->eK id=af->aG.at id=ah)->KW N v (G.back aG eK)) λR1 fa aG v h1 h2 h3=>by
   by_cases hc:G.n<=aG.n/\∀id,id<G.n->eK id=af->aG.at id=ah
   .have⟨b,hb⟩:=adA R1 fa aG v h1 h2 h3 hc.1 hc.2;exact⟨b,λN hN _ _=>hb N hN⟩
   .exact⟨0,λN _ h3 h4=>bH ⟨h3,h4⟩ hc⟩
  refine⟨b,λN hN Z us w hi py=>((hb N hN).frame eK h.top Z us w hi py).mono λed w' hR=>?_⟩;obtain⟨v,aB,⟨aG,mf,rfl,hle,_,ID⟩,ai_⟩:=hR;exact⟨v,G.back aG eK,mf hle ID,ai_⟩
 intro R1 fa aG v cC hP1 hv hle ID;have PN:=cC.top;have Hr:=RG (G:=G) (aG:=aG) eK hle PN;have hold:∀id,id<G.n->eK id=af->(G.back aG eK).at id=G.at id:=λid h1 h2=>by rw[Hr,aW ⟨h1,h2⟩]
 have jk:∀id ob,aG.at id=aa ob->¬(id<G.n/\eK id=af):=λid ob ho hc=>by rw[ID id hc.1 hc.2]at ho;cases ho
 have PO:∀id ob,aG.at id=aa ob->(G.back aG eK).at id=aa ob:=λid ob ho=>by rw[Hr,aY (jk id ob ho)];exact ho
 let R2:Rs:=λi=>if i<G.n/\eK i=af then R i else R1 i
 have hRk:∀k id,k∈ks->X k=aa id->R id=ah:=λk id hk hid=>by
  have⟨i,hi⟩:=YN hk;have cX:i<ins.length:=by rw[<-dZ];exact(Z5.1 hi).1
  have⟨k',bY,dR,k1,k2,k3,_⟩:=Q9 i _ (UN cX);rw[hi]at k1;cases k1;rw[hid]at k2;cases k2;exact k3
 have Ek:∀id m,R id=aa m->id<G.n/\eK id=af:=λid m hm=>by
  exists h.tC id m hm;cases hv:eK id with
  |false=>rfl
  |true=>
   have⟨k,hk,hid⟩:=(KY id).1 hv;rw[hRk k id hk hid]at hm;cases hm
 have xc:∀j id,j∉ks->X j=aa id->id<G.n/\eK id=af:=λj id hj hid=>by
  exists (h.lt j id hid).2;cases hv:eK id with
  |false=>rfl
  |true=>
   have⟨k,hk,mv⟩:=(KY id).1 hv;exact bH (h.inj j k id hid mv▸hk) hj
 have Fj:∀id m cs aV mn,R2 id=aa m->(G.back aG eK).at id=aa (.cells cs aV mn)->m<=cs.length:=λid m cs aV mn hm ha=>by
  simp only[R2]at hm;rw[Hr]at ha;split at hm
  .rename_i hc;rw[aW hc]at ha;exact h.fits id m cs aV mn hm ha
  .rename_i hc;rw[aY hc]at ha;exact cC.fits id m cs aV mn hm ha
 have u6:lq R G R2 (G.back aG eK):=by
  refine⟨λid m hm=>⟨m,by simp only[R2];rw[aW (Ek id m hm)];exact hm,XS _⟩,λid m cs aV mn hm ha=>⟨cs,aV,?_,XS _,λ_ _=>rfl⟩,Fj⟩;rw[hold id (Ek id m hm).1 (Ek id m hm).2];exact ha
 have alr:∀k,k∈ks->∃(i:Nat) (cs:aj IV) (ds:aj (Cl B)),ks[i]?=aa k/\outs[i]?=aa cs/\L'[k]?=aa (.var ds)/\DG lP ds cs:=λk hk=>by
  have⟨i,hi⟩:=YN hk;have cX:i<outs.length:=by rw[ho,<-dZ];exact(Z5.1 hi).1
  have⟨ds,d1,d2⟩:=hLk i k _ hi (UN cX);exact⟨i,_,ds,hi,UN cX,d1,d2⟩
 have Xv:∀k,k∈ks->∃ds:aj (Cl B),L[k]?=aa (.var ds):=λk hk=>by
  have⟨i,hi⟩:=YN hk;have cX:i<ins.length:=by rw[<-dZ];exact(Z5.1 hi).1
  have⟨ds,d1,_⟩:=pR i k _ hi (UN cX);exact⟨ds,d1⟩
 have hs:ni ev lP R X L G R2 X L' (G.back aG eK) (λ_=>False):=by
  refine⟨hup,u6,λj cs hj=>?_,λj kt me hj=>?_,λj s1 sM Ec Ea z1 hj _=>?_,λj c sM snap hj=>?_⟩
  .by_cases dg:j∈ks
   .have⟨_,_,ds,_,_,d1,_⟩:=alr j dg;exact⟨⟨ds,d1⟩,rfl⟩
   .exact⟨⟨cs,by rw[hLo j dg];exact hj⟩,rfl⟩
  .have dg:j∉ks:=λhc=>by have⟨ds,hd⟩:=Xv j hc;rw[hj]at hd;cases hd
   exact⟨⟨me,by rw[hLo j dg];exact hj⟩,rfl⟩
  .have dg:j∉ks:=λhc=>by have⟨ds,hd⟩:=Xv j hc;rw[hj]at hd;cases hd
   exact⟨⟨sM,Ea,z1,by rw[hLo j dg];exact hj,λe he=>⟨e,hup _ _ he,rfl⟩⟩,rfl,λid cs aV mn hid ha=>⟨cs,mn,by rw[hold id (xc j id dg hid).1 (xc j id dg hid).2];exact ha,rfl,λh=>h⟩⟩
  .have dg:j∉ks:=λhc=>by have⟨ds,hd⟩:=Xv j hc;rw[hj]at hd;cases hd
   exact⟨⟨c,sM,snap,by rw[hLo j dg];exact hj⟩,rfl⟩
 refine Xu R2 (G.back aG eK) v ⟨λd t pv hg=>(h.slot d t pv hg).step hs (PV.bP _),λj ob hj=>?_,h.inj,λj id hj=>?_,λid m hm=>?_,Fj,T.Mq _ _,λid hid=>?_⟩ hv
 .by_cases dg:j∈ks
  .have⟨i,cs,ds,i1,i2,i3,i4⟩:=alr j dg;rw[i3]at hj;cases hj;have cX:i<ps.length:=by rw[hP1.1];exact(Z5.1 i2).1
   have⟨id,p1,p2⟩:=hP1.2 i cs _ i2 (UN cX);have Nk:i<ins.length:=by rw[<-ho];exact(Z5.1 i2).1
   have⟨vY,q1,q2⟩:=nf.2 i _ _ (UN Nk) (UN cX);rw[p2]at q2;injection q2 with q2 _ _ _
   subst q2;have Y7:X j=aa id:=by simpa[i1]using q1
   have gp:(adB outs)[i]?=aa (.var (cs.map .v)):=by rw[Z7,i2];rfl
   have⟨bY,dR,o1,o2,o3,o4⟩:=cC.obj i _ gp;rw[p1]at o1;cases o1;refine⟨id,dR,Y7,?_,PO id _ o3,.mk (by rw[o4.len,Ki,i4.len]) λq x c hx hc=>?_⟩
   .simp only[R2];rw[aY (jk id _ o3)];exact o2
   .have hq:q<cs.length:=by rw[<-i4.len];exact(Z5.1 hc).1
    have hcq:(cs.map Cl.v)[q]?=aa (.v cs[q]):=by rw[Z7,UN hq];rfl
    have⟨y,y1,y2,y3⟩:=o4.get hx hcq;cases y1;obtain⟨e,rfl,he⟩:=i4.get hc (UN hq);exact⟨_,he,y2,y3⟩
  .rw[hLo j dg]at hj;exact(h.obj j ob hj).step hs rfl (λid hid=>⟨hold id (xc j id dg hid).1 (xc j id dg hid).2,by simp only[R2];rw[aW (xc j id dg hid)]⟩) (LO.bP _)
 .have:=h.lt j id hj;exact⟨by rw[hlL];exact this.1,Zu this.2 hle⟩
 .simp only[R2]at hm;split at hm
  .exact Zu (h.tC id m hm) hle
  .exact cC.tC id m hm
 .have mv:aG.n<=id:=hid;rw[Hr,aY ak];exact PN id mv
def S9(w:Z0)(s:Nat)(es:aj IV)(u:Value)(w':Z0):Prop:=
 (w'.os=w.os/\w'.tape=w.tape/\w'.output=w.output/\w.heap.size<=w'.heap.size/\∀b,b<w.heap.size->w'.heap[b]?=w.heap[b]?)/\
 ((es=[]/\u=.slice ah 0 0)\/
  es≠[]/\∃b c el cap,w.heap.size<=b/\u=.slice (aa ⟨b,0,ah⟩) es.length cap/\w'.heap[b]?=aa (.cells c el (0,0))/\es.length<=cap/\cap*s<=c.size/\
   ∀(k:Nat) (x:IV),(flat es)[k]?=aa x->∃v,x=.raw v/\c[k]?=aa v)
def aBj(w:Z0)(s:Nat)(es:aj IV):Ending->Z0->Prop
 |.returned u,w'=>S9 w s es u w'
 |_,_=>False
def tE(P:V5)(s:Nat)(f:V4)(xs:aj IV)(es:aj IV):Prop:=
 0<s/\(∀e∈es,(aD e).length=s)/\(∀c∈flat es,(∃v,c=.raw v)/\aw c=ab)/\∀M w us,zz M w->bu (ll M) xs us->CallsIn Z9 0 P f us.toArray w (aBj w s es)
def yG(n s:Nat)(es:aj IV):IV:=if es.isEmpty then .raw (.slice ah 0 0)else .sl n 0 es.length ah 0 s
def sP(es:aj IV):Ob:=.cells (flat es) 0 0
def Ft:∀{es:aj IV},(∀e∈es,(aD e).length=s)->(flat es).length=es.length*s
 |[],_=>by simp[flat]
 |e::es,h=>by
  have:=Ft (es:=es) λe he=>h e aI;have he:=h e az;unfold flat at this⊢
  grind
def Inv.anZ(h:Inv N Z G w)(cd:w.heap.size<=w'.heap.size)(hold:∀b,b<w.heap.size->w'.heap[b]?=w.heap[b]?)
 (t_:w'.os=w.os)(Ka:w'.tape=w.tape)(Kb:w'.output=w.output):∃br,(∀v u,Rv Z v u->Rv br v u)/\Inv N br G w'/\Le ro Z w G br w' G:=by
 have hp:Q_ ab Z.m w (.raw (.int .i64 0)) (.int .i64 0) w':=⟨λ_=>ah,λ_ _ hb=>aI,λ_ _ hb=>aI,λhc=>aI,.raw _,t_,Ka,Kb,cd,hold⟩;have⟨br,h1,h2,h3⟩:=Rb (ro:=ro) h (λhc=>az) hp;exact⟨br,λv u hv=>hv.mono h3.ext,h2,h3⟩
def als(M:Fz)(w:Z0)(s:Nat)(es:aj IV)(u:Value)(w':Z0):Prop:=
 (w'.os=w.os/\w'.tape=w.tape/\w'.output=w.output/\w.heap.size<=w'.heap.size/\∀b,b<w.heap.size->w'.heap[b]?=w.heap[b]?)/\
 ((es=[]/\u=.slice ah 0 0)\/
  es≠[]/\∃M' b c el cap,zz M' w'/\(∀b c,M' b=aa c->M b=aa c\/w.heap.size<=b)/\(∀b c,M b=aa c->M' b=aa c)/\M' b=ah/\
   w.heap.size<=b/\u=.slice (aa ⟨b,0,ah⟩) es.length cap/\w'.heap[b]?=aa (.cells c el (0,0))/\es.length<=cap/\cap*s<=c.size/\
   ∀(k:Nat) (x:IV),(flat es)[k]?=aa x->∃v,Rv (ll M') x v/\c[k]?=aa v)
def alu(M:Fz)(w:Z0)(s:Nat)(es:aj IV):Ending->Z0->Prop
 |.returned u,w'=>als M w s es u w'
 |_,_=>False
def jX(P:V5)(s:Nat)(f:V4)(xs:aj IV)(es:aj IV):Prop:=
 0<s/\(∀e∈es,(aD e).length=s)/\(∀c∈flat es,Pure c/\aw c=ab)/\∀M w us,zz M w->bu (ll M) xs us->CallsIn Z9 0 P f us.toArray w (alu M w s es)
variable{ob:Ob}{M:Fz}{d:Nat}
def Inv.aqX{l:Loc}{M':Fz}(h:Inv N Z G w)(hN:G.n<N)(cd:w.heap.size<=w'.heap.size)(hold:∀b,b<w.heap.size->w'.heap[b]?=w.heap[b]?)
 (hM1:zz M' w')(hM2:∀b c,M' b=aa c->Z.m b=aa c\/w.heap.size<=b)(hM3:∀b c,Z.m b=aa c->M' b=aa c)(hM4:M' l.b=ah)
 (t_:w'.os=w.os)(Ka:w'.tape=w.tape)(Kb:w'.output=w.output)(hl:w.heap.size<=l.b)(jL:l.b<w'.heap.size)(gp:oQ ⟨(fc Z G.n 0 l).f,M'⟩ w' G.n ob):
 Inv N ⟨(fc Z G.n 0 l).f,M'⟩ (G.add ob) w'/\Le ro Z w G ⟨(fc Z G.n 0 l).f,M'⟩ w' (G.add ob):=by
 have n9:=h.fresh G.n (XS _) hN;have jE:Ext Z ⟨(fc Z G.n 0 l).f,M'⟩:=⟨(qo (n9 0)).f,hM3⟩
 have mu:∀id b,Own (⟨(fc Z G.n 0 l).f,M'⟩:Io) id b->Own Z id b\/(id=G.n/\b=l.b):=λid b hb=>by
  have ua:=hb;rcases xf ua with hb|⟨h1,h2⟩
  all_goals grind
 have sE:∀id,(G.add ob).n<=id->id<N->∀e,(⟨(fc Z G.n 0 l).f,M'⟩:Io) id e=ah:=by
  intro id hid aq e;simp only[St.uY]at hid;have:id≠G.n:=ak;show(fc Z G.n 0 l).f id e=ah;simp[fc,this,h.fresh id ak aq e]
 refine⟨⟨hM1,λb c id hb ho=>?_,λid b ho=>?_,sE,λi j b hi hj=>?_,λid o ho=>?_,λid hid=>?_⟩,?_⟩
 .rcases mu id b ho with ho|⟨_,rfl⟩
  .rcases hM2 b c hb with hb|hb
   .exact h.sep b c id hb ho
   .have:=h.iO id b ho;omega
  grind
 .rcases mu id b ho with ho|⟨_,rfl⟩
  .exact Zu (h.iO id b ho) cd
  omega
 .rcases mu i b hi with hi|⟨h1,h2⟩<;>rcases mu j b hj with hj|⟨h3,h4⟩
  .exact h.inj i j b hi hj
  .have:=h.iO i b hi;omega
  .have:=h.iO j b hj;omega
  omega
 .rw[St.kB]at ho;split at ho<;>try grind
  rename_i cg
  have hon:=λe=>by
   show(fc Z G.n 0 l).f id e=Z id e;have:id≠G.n:=λhc=>cg hc.symm;simp[fc,this]
  exact(h.obj id o ho).keep jE hon λb hb=>hold b (h.iO id b hb)
 .rw[St.uY]at hid;rw[St.kB,aY ak];exact h.wf id ak
 .refine⟨jE,λid b hb=>?_,λid hn hr e=>?_,λid hn hr=>?_,λid hr hn=>?_,az,t_,Ka,Kb,cd,λb hb _=>hold b hb,hM2⟩
  .grind
  .simp only[St.uY]at hr;have:id≠G.n:=ak
   simp_all[fc]
  .simp only[St.uY]at hr;have:id≠G.n:=ak;rw[St.kB,aY λhc=>this hc.symm,hn]
  grind [St.kB]
def S9.toP{u:Value}(hM:zz M w)(h:S9 w s es u w'):als M w s es u w':=by
 refine⟨h.1,h.2.imp id λ⟨hn,b,c,el,cap,a,b1,c1,d,e,g⟩=>⟨hn,M,b,c,el,cap,λq c' hq=>?_,λ_ _ h=>.inl h,λ_ _ h=>h,?_,a,b1,c1,d,e,λk x hx=>?_⟩⟩
 .rw[h.1.2.2.2.2 q (hM.lt hq)];exact hM q c' hq
 .cases hb:M b with
  |none=>rfl
  |some _=>have:=hM.lt hb;omega
 .obtain⟨v,rfl,hv⟩:=g k x hx;exact⟨v,.raw _,hv⟩
def kK.fresh(hs:0<s)(cD:∀e∈es,(aD e).length=s)(h:∀N Z us w,Inv N Z G w->bu Z av us->CallsIn Z9 0 P f us.toArray w (alu Z.m w s es)):
 kK P ro f av G (yG G.n s es) (if es.isEmpty then G else G.add (sP es)):=by
 refine⟨by split<;>simp,λN hN Z us w hi py=>?_⟩;refine(h N Z us w hi py).mono λe w' hR=>?_;cases e with
 |panicked ch=>assumption
 |outgrown=>assumption
 |returned u=>
  have⟨⟨h1,h2,h3,h4,h5⟩,hu⟩:=hR;by_cases he:es.isEmpty
  .rw[aW he]at hN⊢;have⟨br,g1,g2,g3⟩:=hi.anZ (ro:=ro) h4 h5 h1 h2 h3;refine⟨br,?_,g2,g3⟩;unfold yG;rw[aW he];rcases hu with⟨_,rfl⟩|⟨a0,_⟩
   .exact .raw _
   grind
  .rw[aY he]at hN⊢;unfold yG;rw[aY he];rcases hu with⟨rfl,_⟩|⟨_,M',b,c,el,cap,m1,m2,m3,m4,a1,rfl,a3,a4,a5,a6⟩
   .grind
   .have bf:=Ft cD;have hle:=XX s a4
    have fD:b<w'.heap.size:=by
     grind
    have cH:=dv Z G.n 0 ⟨b,es.length*s,c.size⟩;have n9:=hi.fresh G.n (XS _) ES
    obtain⟨g1,g2⟩:=hi.aqX (ro:=ro) (w':=w') (ob:=sP es) (l:=⟨b,es.length*s,c.size⟩) (M':=M') ES h4 h5 m1 m2 m3 m4 h1 h2 h3 a1 fD (by
     refine⟨⟨XS _,λe he=>?_⟩,⟨_,cH,bf.symm⟩,λe e1 e2=>?_⟩
     .have:e≠0:=ak
      simp_all[fc]
     .have:e=0:=ak;subst this;refine⟨_,c,el,cH,aI,a3,rfl,λk x hk hx=>?_⟩;have⟨v,hr,hv⟩:=a6 k x hx;exact⟨v,hv,Rv.mono (Z:=ll M') (br:=⟨(fc Z G.n 0 ⟨b,es.length*s,c.size⟩).f,M'⟩) ⟨λ_ _ _ h=>(by cases h),λ_ _ h=>h⟩ hr⟩)
    exact⟨⟨(fc Z G.n 0 ⟨b,es.length*s,c.size⟩).f,M'⟩,.sl G.n 0 es.length ah 0 s ⟨b,es.length*s,c.size⟩ cap ⟨b,0,ah⟩ cH az aI hs a4 (λk hk=>aI) λ_=>rfl,g1,g2⟩
def jX.call{s:Nat}{f:V4}{av xs es:aj IV}(h:jX P s f xs es)(hr:∀N Z us w,Inv N Z G w->bu Z av us->bu (ll Z.m) xs us):
 kK P ro f av G (yG G.n s es) (if es.isEmpty then G else G.add (sP es)):=
 .fresh h.1 h.2.1 λN Z us w hi py=>h.2.2.2 Z.m w us hi.mem (hr N Z us w hi py)
def tE.call{s:Nat}{f:V4}{av xs es:aj IV}(h:tE P s f xs es)(hr:∀N Z us w,Inv N Z G w->bu Z av us->∃M,zz M w/\bu (ll M) xs us):
 kK P ro f av G (yG G.n s es) (if es.isEmpty then G else G.add (sP es)):=
 .fresh h.1 h.2.1 λN Z us w hi py=>by
  have⟨M,hM,tn⟩:=hr N Z us w hi py;refine(h.2.2.2 M w us hM tn).mono λe w' hR=>?_;cases e<;>first|exact hR|exact S9.toP hi.mem hR
def alv(s:Nat)(es:aj IV)(v:IV)(aB:St):Prop:=
 (es=[]/\v=.raw (.slice ah 0 0))\/es≠[]/\∃(R:Rs) (id:Nat) (cs:aj IV) (aV mn:Nat) (cap:aF Nat),R id=ah/\aB.at id=aa (.cells cs aV mn)/\mn<=aV/\v=.sl id 0 es.length cap aV s/\es.length*s<=cs.length/\
  ∀(k:Nat) (x:IV),(flat es)[k]?=aa x->∃y,cs[k]?=aa y/\bZ ab R aB y x
def aaG(hi:(λ(_:Nat)=>(ah:aF Nat))=R)(Cg:G=⟨0,.lf⟩)(h:bZ fr R G x z):∀{u:Value},Rv Z x u->Rv (ll Z.m) z u:=by
 induction h with
 |raw v=>intro u h;cases h;exact .raw v
 |nil s hs=>intro u h;cases h;exact .fL s ah 0 hs λ_=>rfl
 |emp s hs=>intro u h;cases h;exact .fL s _ 0 hs λh=>by cases h
 |eT t x y _ ih=>intro u h;cases h with|eT _ _ v hh=>exact .eT t y v (ih hh)
 |agg cs ds hl _ ih=>
  intro u h;cases h with
  |agg _ vs dq hh=>
   refine .agg ds vs (hl▸dq) λi d v h1 h2=>?_;have cX:i<cs.length:=by have:=(Z5.1 h1).1;omega
   exact ih i _ d (UN cX) h1 (hh i _ v (UN cX) h2)
 |aU cs ds hl _ ih=>
  intro u h;cases h with
  |aU _ vs dq hh=>
   refine .aU ds vs (hl▸dq) λi d v h1 h2=>?_;have cX:i<cs.length:=by have:=(Z5.1 h1).1;omega
   exact ih i _ d (UN cX) h1 (hh i _ v (UN cX) h2)
 |pure x hf hp=>intro u h;exact hp.rv h λ_ _ h=>h
 |sl id ay len cap ep s m cs aV mn es hR=>rw[<-hi]at hR;cases hR
def fe.Vc(h:fe P af af f xs z)(hc:All2 lr av xs):kK P ro f av G z G:=by
 refine⟨XS _,λN hN Z us w hi hr=>?_⟩
 have tn:bu (ll Z.m) xs us:=⟨hc.len▸hr.1,λi c v h1 h2=>by
  have cX:i<av.length:=by grind [hc.len]
  exact aaG rfl rfl (hc.get (UN cX) h1) (hr.2 i _ v (UN cX) h2)⟩
 refine(h Z.m w us hi.mem tn).mono λe w' hR=>?_;cases e with
 |returned u=>exact Rb hi (λ_ _ _=>M3) hR.2
 |panicked ch=>exact bH hR.1 az
 |outgrown=>assumption
def tE.UY(h:tE P s f xs es)(hc:Rc ab G av xs):kK P ro f av G (yG G.n s es) (if es.isEmpty then G else G.add (sP es)):=
 h.call λ_ _ _ w hi hr=>⟨allM w,Re,hc.rv hi hr⟩
def jX.Vc(h:jX P s f xs es)(hc:All2 lr av xs):kK P ro f av G (yG G.n s es) (if es.isEmpty then G else G.add (sP es)):=
 h.call λ_ _ _ _ hi hr=>⟨hc.len▸hr.1,λi c v h1 h2=>by
  have cX:i<av.length:=by grind [hc.len]
  exact aaG rfl rfl (hc.get (UN cX) h1) (hr.2 i _ v (UN cX) h2)⟩
def Vd(n:Nat):IV->Bool
 |.aU vs=>vs.length==n
 |_=>af
def pU(P:V5)(f:V4)(z:IV):Bool:=
 match P.funcs[f]? with
 |some fn=>fn.resultTypes.size==1||Vd fn.resultTypes.size z
 |none=>af
def lC(P:V5)(C:Cr):Prop:=∀f aH xs z,C f aH xs z->(f<P.funcs.size->fe P af aH f xs z/\Pure z/\pU P f z=ab)/\
 (∀g,g<P.funcs.size->f=P.funcs.size+g->∃s es Cd bF,xs=.tree s es::Cd/\z=.tree s bF/\IE P s g es Cd bF)/\
 (∀g,g<P.funcs.size->f=2*P.funcs.size+g->∃ins Cd outs z0,xs=.agg (ins.map IV.agg)::Cd/\z=.aU (z0::outs.map IV.agg)/\outs.map VT=ins.map VT/\(∀cs∈outs,∀u∈cs,aw u=ab)/\IF P g ins Cd outs z0)/\
 (∀g,g<P.funcs.size->f=3*P.funcs.size+g->∃t:Nat,xs=[.int t]/\KD P g t)/\
 (∀g,g<P.funcs.size->f=4*P.funcs.size+g->∃es,z=.tree (dK P g) es/\tE P (dK P g) g xs es)/\
 ∀g,g<P.funcs.size->f=7*P.funcs.size+g->∃es,z=.tree (dK P g) es/\jX P (dK P g) g xs es
variable{V V':SS}{c:Cl SE}{z:SE}
def ae7(hp:zS [c]=ab)(hr:Ng V c=aa (fr,z,V'))(hx:dT (aM P O) R X V.l G x c):∃y,z.den P O=aa y/\lr x y:=by
 cases c<;>simp only[zS]at hp<;>try grind
 .obtain⟨rfl,rfl,rfl⟩:=hr;have⟨y,h1,h2,_⟩:=hx
  grind
 .rename_i b s;obtain⟨rfl,rfl,rfl⟩:=hr;obtain⟨h1,rfl⟩:=hx;refine⟨.tree s [],by simp[UU,h1],?_⟩;cases b
  .exact .emp s h1
  .exact .nil s h1
def ach(hp:zS [c]=ab)(hr:Ng V c=aa (fr,z,V')):V'=V:=by
 cases c<;>simp only[zS]at hp<;>try grind
 all_goals simp_all[Ng]
def afZ(h:zS (c::cs)=ab):zS [c]=ab/\zS cs=ab:=by
 cases c<;>simp only[zS]at h⊢<;>first|grind|grind
def acH:∀{cs:aj (Cl SE)} {fr:Bool} {zs:aj SE} {V':SS},zS cs=ab->D6 V cs=aa (fr,zs,V')->V'=V/\∀{xs:aj IV},All2 (dT (aM P O) R X V.l G) xs cs->∃ys,All2 (λ(z:SE) y=>z.den P O=aa y) zs ys/\All2 lr xs ys
 |[],fr,zs,V',_,hr=>by
  obtain⟨rfl,rfl,rfl⟩:=hr;refine⟨rfl,λ{xs} hx=>?_⟩;cases xs with
  |nil=>exact⟨[],trivial,trivial⟩
  |cons=>cases hx
 |c::cs,fr,zs,V',hp,hr=>by
  have⟨h1,h2⟩:=afZ hp;simp only[D6]at hr;split at hr
  .rename_i f1 z V1 yF;have e0:=ach h1 yF;rw[e0]at hr;split at hr
   .rename_i f2 zs' V2 Xw;obtain⟨rfl,rfl,rfl⟩:=hr;obtain⟨rfl,h3⟩:=acH h2 Xw;refine⟨rfl,λ{xs} hx=>?_⟩;cases xs with
    |nil=>cases hx
    |cons x xs=>
     have⟨y,a1,a2⟩:=ae7 h1 yF hx.1;have⟨ys,b1,b2⟩:=h3 hx.2;exact⟨y::ys,⟨a1,b1⟩,⟨a2,b2⟩⟩
   grind
  grind
variable{pv:PV SE}
def RI(h:JQQ Cx P O R X V E G)(hr:BQ V pv=aa (fr,z,V'))(ht:∀vs,pv≠.tu vs):
 ∃R',lY P O R X V G R' V'/\JQQ Cx P O R' X V' E G/\∀x,VR (aM P O) R X V.l G x pv->∃y,z.den P O=aa y/\bZ fr R' G x y:=by
 cases pv with
 |one c=>
  have⟨R',h1,h2,h3⟩:=KT h hr;exact⟨R',h1,h2,λx hx=>by have⟨y,a,b,_⟩:=h3 x hx;grind⟩
 |ag cs=>
  simp only[BQ]at hr;split at hr
  .rename_i f zs V1 yF;obtain⟨rfl,rfl,rfl⟩:=hr;have⟨R',h1,h2,_,h3⟩:=DD h yF;refine⟨R',h1,h2,λx hx=>?_⟩;obtain⟨xs,rfl,xG⟩:=hx;have⟨ys,a,b,_⟩:=h3 xs xG;exact⟨.agg ys,ig a,.agg xs ys b.len λi c e h1 h2=>b.get h1 h2⟩
  grind
 |tu vs=>grind
def adF(hp:pL pv=ab)(hr:BQ V pv=aa (fr,z,V')):V'=V/\∀{x:IV},VR (aM P O) R X V.l G x pv->∃y,z.den P O=aa y/\lr x y:=by
 cases pv with
 |one c=>exact⟨ach hp hr,λ{x} hx=>ae7 hp hr hx⟩
 |ag cs=>
  simp only[BQ]at hr;split at hr
  .rename_i f zs V1 yF;obtain⟨rfl,rfl,rfl⟩:=hr;have⟨h1,h2⟩:=acH (P:=P) (O:=O) (R:=R) (X:=X) (G:=G) hp yF;refine⟨h1,λ{x} hx=>?_⟩;obtain⟨xs,rfl,xG⟩:=hx;have⟨ys,a,b⟩:=h2 xG;exact⟨.agg ys,ig a,.agg xs ys b.len λi c e h1 h2=>b.get h1 h2⟩
  grind
 |tu vs=>cases hp
def RJ:∀{dM:aj (PV SE)} {V V':SS} {R:Rs} {zs:aj SE},JQQ Cx P O R X V E G->D8 V dM=aa (zs,V')->N8 dM=ab->
 ∃R',lY P O R X V G R' V'/\JQQ Cx P O R' X V' E G/\∀xs,All2 (VR (aM P O) R X V.l G) xs dM->∃ys,All2 (λ(z:SE) y=>z.den P O=aa y) zs ys/\All2 (bZ ab R' G) xs ys
 |[],V,V',R,zs,h,hr,_=>by
  obtain⟨rfl,rfl⟩:=hr;refine⟨R,.refl h,h,λxs hx=>?_⟩;cases xs with
  |nil=>exact⟨[],trivial,trivial⟩
  |cons=>cases hx
 |pv::dM,V,V',R,zs,h,hr,ht=>by
  have TS:(∀vs,pv≠.tu vs)/\N8 dM=ab:=by
   cases pv<;>simp_all[N8]
  simp only[D8]at hr;split at hr
  .rename_i f z V1 yF;split at hr
   .rename_i zs' V2 Xw;obtain⟨rfl,rfl⟩:=hr;have⟨R1,a1,a2,a3⟩:=RI h yF TS.1;have⟨R2,b1,b2,b3⟩:=RJ a2 Xw TS.2;refine⟨R2,a1.trans b1,b2,λxs hx=>?_⟩;cases xs with
    |nil=>cases hx
    |cons x xs=>
     have⟨y,c1,c2⟩:=a3 x hx.1;have⟨ys,d1,d2⟩:=b3 xs (hx.2.mono λ_ _ di=>a1.vr di);exact⟨y::ys,⟨c1,d1⟩,⟨(c2.mono b1.2.2.2.grow).dI,d2⟩⟩
   grind
  grind
def u_:∀{dM:aj (PV SE)} {V':SS} {zs:aj SE},D8 V dM=aa (zs,V')->dM.all pL=ab->
 V'=V/\∀{xs:aj IV},All2 (VR (aM P O) R X V.l G) xs dM->∃ys,All2 (λ(z:SE) y=>z.den P O=aa y) zs ys/\All2 lr xs ys
 |[],V',zs,hr,_=>by
  obtain⟨rfl,rfl⟩:=hr;refine⟨rfl,λ{xs} hx=>?_⟩;cases xs with
  |nil=>exact⟨[],trivial,trivial⟩
  |cons=>cases hx
 |pv::dM,V',zs,hr,hp=>by
  simp only[List.all_cons,VM]at hp;simp only[D8]at hr;split at hr
  .rename_i f z V1 yF;have⟨e1,a1⟩:=adF (P:=P) (O:=O) (R:=R) (X:=X) (G:=G) hp.1 yF;rw[e1]at hr;split at hr
   .rename_i zs' V2 Xw;obtain⟨rfl,rfl⟩:=hr;have⟨e2,b1⟩:=u_ Xw hp.2;refine⟨e2,λ{xs} hx=>?_⟩;cases xs with
    |nil=>cases hx
    |cons x xs=>
     have⟨y,c1,c2⟩:=a1 hx.1;have⟨ys,d1,d2⟩:=b1 hx.2;exact⟨y::ys,⟨c1,d1⟩,⟨c2,d2⟩⟩
   grind
  grind
variable{C:Cr}{K:aj (aj IV->Prop)}{Q:IV->Prop}{e:SE}{f:au}{t:Nat}{z:IV}{vs:aj IV}
def K3{t:VK}(hz:e.den P O=aa z)(hp:Pure z)(hs:(wz P t e f).sat P C Q K O):f.sat P C Q K O/\VR (aM P O) R X L G z (ofType P t e)/\zA (aM P O) R X L G z (isAgg P t,gU (ofType P t e)):=by
 unfold wz at hs;unfold ofType;by_cases ha:isAgg P t=ab
 .rw[aW ha]at hs;have⟨⟨y,hy⟩,hk⟩:=hs;simp only[UU,hz,Z8]at hy;split at hy
  .rename_i cs;split at hy
   .rename_i hc
    have cQ:All2 (dT (aM P O) R X L G) cs ((YF ((bD P t).getD 0)).map λj=>Cl.v (SE.bt e j)):=by
     refine .mk aI λi a b h1 h2=>?_;have hi:=(Z5.1 h1).1;rw[Z7,ND ak]at h2;simp only[ZO,ZY]at h2;subst h2;have bM:=(US.1 hc.2) a (ZU h1);have nq:Pure a:=by cases hp with|agg _ hh=>grind
     exact⟨a,by simp[UU,hz,h1,yA,bM],.pure a rfl nq,bM⟩
    simp only[ha];exact⟨hk,⟨cs,rfl,cQ⟩,by simp only[zA,gU];grind⟩
   grind
  grind
 .rw[aY ha]at hs;have⟨⟨y,hy⟩,hk⟩:=hs;have⟨h1,h2⟩:=uC hy;rw[hz]at h1;cases h1;have hv:dT (aM P O) R X L G z (.v (.ok e)):=⟨z,hy,.pure z rfl hp,h2⟩;rw[aY ha];exists hk,hv
  simp_all[zA,gU]
def ac3(hz:e.den P O=aa (.aU vs))(hp:∀v∈vs,Pure v):∀{ts:aj VK} {j:Nat},(WO P e j ts f).sat P C Q K O->j+ts.length=vs.length->f.sat P C Q K O/\All2 (zA (aM P O) R X L G) (vs.drop j) (Rq P e j ts)
 |[],j,hs,hl=>by
  simp at hl;rw[ZX ak];exact⟨hs,trivial⟩
 |t::ts,j,hs,hl=>by
  simp at hl;have hj:j<vs.length:=ak;have hd:(SE.proj e j).den P O=aa vs[j]:=by simp[UU,hz]
  have⟨h1,_,h3⟩:=K3 (R:=R) (X:=X) (L:=L) (G:=G) hd (hp _ (Z4 hj)) hs;have⟨h4,h5⟩:=ac3 hz hp h1 ak;exists h4;rw[UQ hj];exact⟨h3,h5⟩
variable{fn:Func}{k:PV SE->SS->au}
def ajc(hz:e.den P O=aa z)(hp:Pure z)(ht:fn.resultTypes.size≠1->Vd fn.resultTypes.size z=ab)(hs:(U8 P fn V e k).sat P C Q K O):∃pv,(k pv V).sat P C Q K O/\VR (aM P O) R X L G z pv:=by
 unfold U8 at hs;split at hs
 .have⟨h1,h2,_⟩:=K3 (R:=R) (X:=X) (L:=L) (G:=G) hz hp hs
  grind
 .have cd:fn.resultTypes.size≠1:=by
   intro h;have:fn.resultTypes.toList.length=1:=ak;have⟨t,ht⟩:=List.length_eq_one_iff.1 this
   grind
  have:=ht cd;unfold Vd at this;split at this
  .rename_i vs;have hl:vs.length=fn.resultTypes.size:=aI;obtain⟨h1,h2⟩:=ac3 (R:=R) (X:=X) (L:=L) (G:=G) (j:=0) hz (λv hv=>by cases hp with|aU _ hh=>grind) hs aI;exact⟨_,h1,vs,rfl,aI⟩
  grind
variable{bs:aj (Nat×Nat)}{ys:aj IV}{g:V4}
def aqY(h:All2 (λy (p:Nat×Nat)=>∃id cs,X p.1=aa id/\L[p.1]?=aa (.var cs)/\y=.ptr id 0 0 p.2) ys bs):All2 (VR (aM P O) R X L G) ys (bs.map λ(p:Nat×Nat)=>.one (.pt p.1 0 p.2)):=
 h.map (f:=λ(p:Nat×Nat)=>PV.one (Cl.pt p.1 0 p.2)) λ_ _ h=>h
def pV(hx:VR (aM P O) R X L G x (.one (.fn g bs)))(dX:P.funcs[g]?=aa fn)(hb:fn.body.isSome=ab)(rZ:(fn.name != "runtime.NumGoroutine")=ab):
 ∃ys,kA P x av=aa (.enter g (av++ys))/\All2 (VR (aM P O) R X L G) ys (bs.map λ(p:Nat×Nat)=>.one (.pt p.1 0 p.2)):=by
 rcases hx with⟨rfl,rfl⟩|⟨ys,rfl,h⟩
 .refine⟨[],?_,trivial⟩
  simp_all[kA]
 .refine⟨ys,?_,aqY h⟩;simp only[kA,dX,hb,rZ,Qy,aKS,if_true]
def aaH(h:All2 (bZ ab R G) xs ys):Rc ab G xs ys:=⟨h.len,λ_ _ _ h1 h2=>(h.get h1 h2).can⟩
def aBk(Cx:Cs)(P:V5)(C:Cr)(Q:IV->Prop)(K:aj (aj IV->Prop))(O:aj IV)(E:Nat->aK)(lv:Nat×Nat)(k:PV SE->SS->au)(X:Ph)(G:St)(res:V4->aj IV->Prop):Prop:=
 ∃g av z R1 pv V1 I,res g av/\(∀ro,kK P ro g av G z G)/\JQQ Cx P (O++I) R1 X V1 E G/\VR (aM P (O++I)) R1 X V1.l G z pv/\(O++I).length=V1.n/\V1.ln=lv/\(k pv V1).sat P C Q K (O++I)
variable{c:Call}{f:Operand}{o:YX}{zs:aj SE}{R1:Rs}{V1:SS}
def aei(hC:lC P C)(hJ:JQQ Cx P O R X V E G)(hn:O.length=V.n)(ho:o.op=.call c)(hc:c.callee=.value f)(hf:cJ P d V 0 f=.one (.fn g []))
 (hr:D8 V (mK P d V c.args.toList c.argTypes.toList)=aa (zs,V'))(dX:P.funcs[g]?=aa fn)(hb:fn.body.isSome=ab)(rZ:(fn.name != "runtime.NumGoroutine")=ab)(ht:N8 (mK P d V c.args.toList c.argTypes.toList)=ab)
 (hs:(au.call g (!(mK P d V c.args.toList c.argTypes.toList).all pL) (fZ zs) (U8 P fn {V' with n:=V'.n+1} (.var V'.n) k)).sat P C Q K O):
 aBk Cx P C Q K O E V.ln k X G (λg av=>aN P 0 (aT (E d)) o G=aa (.enter g av)):=by
 have⟨xs,z,h1,h2,h3⟩:=hs;have⟨mC,hpz,htu⟩:=(hC _ _ _ _ h2).1 (Xh.1 dX).1;have cj:=lB hJ d c.args.toList c.argTypes.toList;have vG:=b_ hJ d 0 f;rw[hf]at vG;have⟨ys,rX,xP⟩:=pV (av:=c.args.toList.map (aT (E d))) vG dX hb rZ
 have Om:ys=[]:=by
  cases ys with
  |nil=>rfl
  |cons=>cases xP
 subst Om;rw[Z_]at rX
 have gC:aN P 0 (aT (E d)) o G=aa (.enter g (c.args.toList.map (aT (E d)))):=by
  simp_all[aN]
 have aBl:fn.resultTypes.size≠1->Vd fn.resultTypes.size z=ab:=by
  intro cg
  simp_all[pU]
 have qv:∀{us:aj IV},All2 (λ(z:SE) y=>z.den P O=aa y) zs us->xs=us:=by
  intro us hu;simp only[lA,ig hu]at h1
  grind
 have⟨R1,bI,cC,iQ⟩:=RJ hJ hr ht;have⟨us,b1,b2⟩:=iQ _ cj;have pA:=qv b1;subst pA
 have aqZ:∀ro,kK P ro g (c.args.toList.map (aT (E d))) G z G:=by
  intro ro;by_cases cQ:(mK P d V c.args.toList c.argTypes.toList).all pL=ab
  .rw[cQ]at mC;have⟨_,iv⟩:=u_ (P:=P) (O:=O) (R:=R) (X:=X) (G:=G) hr cQ;have⟨xF,c1,c2⟩:=iv cj;have:=qv c1;subst this;exact fe.Vc mC c2
  .have hf:(mK P d V c.args.toList c.argTypes.toList).all pL=af:=aI;rw[hf]at mC;exact fe.UY mC (aaH b2)
 have fY:O.length=V'.n:=by rw[hn,bI.2.1]
 have gD:=cC.up (lP:=aM P (O++[z])) λe y h=>SE.eI P e h;have oZ:(SE.var V'.n).den P (O++[z])=aa z:=by simp[UU,<-fY]
 have⟨pv,hk,hv⟩:=ajc (R:=R1) (X:=X) (L:=V'.l) (G:=G) oZ hpz aBl h3;exact⟨g,_,z,R1,pv,{V' with n:=V'.n+1},[z],gC,aqZ,gD,hv,aI,bI.2.2.1,hk⟩
def acQ{K4:Bool}(hn:O.length=V.n)(bI:lY P O R X V G R1 V')(oL:JQQ Cx P O R1 X V' E G)
 (gC:aN P 0 (aT (E d)) o G=aa (.enter g (c.args.toList.map (aT (E d)))))(rN:∀ro,kK P ro g (c.args.toList.map (aT (E d))) G (yG G.n (dK P g) es) (if es.isEmpty then G else G.add (sP es)))
 (dc:0<dK P g)(cD:∀e∈es,(aD e).length=dK P g)(bM:∀c∈flat es,(∀(R:Rs) (G:St),bZ K4 R G c c)/\aw c=ab)
 (h3:(k (.one (.sr V'.l.length)) {V' with n:=V'.n+1,l:=V'.l++[.row (dK P g) af af K4 (.var V'.n)]}).sat P C Q K (O++[IV.tree (dK P g) es])):
 ∃av v aG R1 fa pv V1 I,aN P 0 (aT (E d)) o G=aa (.enter g av)/\(∀ro,kK P ro g av G v aG)/\(aG=G\/∃ob,aG=G.add ob)/\JQQ Cx P (O++I) R1 fa V1 E aG/\VR (aM P (O++I)) R1 fa V1.l aG v pv/\(O++I).length=V1.n/\V1.ln=V.ln/\(k pv V1).sat P C Q K (O++I):=by
 have fY:O.length=V'.n:=by rw[hn,bI.2.1]
 have cC:=oL.up (lP:=aM P (O++[IV.tree (dK P g) es])) λe y h=>SE.eI P e h;have oZ:(SE.var V'.n).den P (O++[IV.tree (dK P g) es])=aa (.tree (dK P g) es):=by simp[UU,<-fY]
 have rU:(V'.l++[LO.row (dK P g) af af K4 (SE.var V'.n)])[V'.l.length]?=aa (.row (dK P g) af af K4 (.var V'.n)):=az;by_cases he:es.isEmpty
 .have q7:=XT.1 he;subst q7;refine⟨_,_,_,R1,X,.one (.sr V'.l.length),{V' with n:=V'.n+1,l:=V'.l++[.row (dK P g) af af K4 (.var V'.n)]},[.tree (dK P g) []],gC,rN,.inl rfl,?_,?_,aI,bI.2.2.1,h3⟩
  .exact(cC.DE (fr:=K4) dc oZ).2
  .exact⟨dK P g,af,af,K4,_,[],rU,oZ,.inl ⟨z8 oL (XS _),rfl,.inl rfl⟩⟩
 .have hif:(if es.isEmpty then G else G.add (sP es))=G.add (sP es):=aY he;have vG:yG G.n (dK P g) es=.sl G.n 0 es.length ah 0 (dK P g):=aY he;have bf:=Ft cD;refine⟨_,_,_,R1,cY X V'.l.length G.n,.one (.sr V'.l.length),{V' with n:=V'.n+1,l:=V'.l++[.row (dK P g) af af K4 (.var V'.n)]},[.tree (dK P g) es],gC,rN,.inr ⟨_,hif⟩,?_,?_,aI,bI.2.2.1,h3⟩
  .rw[hif];refine cC.oW (sP es) _ ⟨dc,es,oZ,cD,.inr ⟨G.n,flat es,0,0,by simp[cY],by simp[sP],XS _,ak,?_,US.2 λc hc=>(bM c hc).2,λj x d hx hd=>?_⟩⟩
   .cases hR:R1 G.n with
    |none=>rfl
    |some m=>exact bH (oL.tC _ _ hR) (Nat.lt_irrefl _)
   grind
  .rw[hif,vG];exact⟨dK P g,af,af,K4,_,es,rU,oZ,.inr ⟨G.n,flat es,0,0,ah,by simp[cY],by simp[sP],az,UT _,λ_ _=>bf.symm,λc hc=>aI⟩⟩
def aIf(hC:lC P C)(hJ:JQQ Cx P O R X V E G)(hn:O.length=V.n)(ho:o.op=.call c)(hc:c.callee=.value f)(hf:cJ P d V 0 f=.one (.fn g []))
 (hs:(W0 P g (mK P d V c.args.toList c.argTypes.toList) V k).sat P C Q K O):
 ∃av v aG R1 fa pv V1 I,aN P 0 (aT (E d)) o G=aa (.enter g av)/\(∀ro,kK P ro g av G v aG)/\(aG=G\/∃ob,aG=G.add ob)/\JQQ Cx P (O++I) R1 fa V1 E aG/\VR (aM P (O++I)) R1 fa V1.l aG v pv/\(O++I).length=V1.n/\V1.ln=V.ln/\(k pv V1).sat P C Q K (O++I):=by
 unfold W0 at hs;split at hs<;>try cases hs
 rename_i zs V' fn hr dX;split at hs<;>try cases hs
 rename_i dj;simp only[VM]at dj;have⟨ht,hb,rZ⟩:=dj;have cj:=lB hJ d c.args.toList c.argTypes.toList;have vG:=b_ hJ d 0 f;rw[hf]at vG;have⟨ys,rX,xP⟩:=pV (av:=c.args.toList.map (aT (E d))) vG dX hb rZ
 have Om:ys=[]:=by
  cases ys with
  |nil=>rfl
  |cons=>cases xP
 subst Om;rw[Z_]at rX
 have gC:aN P 0 (aT (E d)) o G=aa (.enter g (c.args.toList.map (aT (E d)))):=by
  simp_all[aN]
 have⟨R1,bI,oL,iQ⟩:=RJ hJ hr ht;have⟨us,c1,c2⟩:=iQ _ cj;split at hs
 .split at hs<;>try exact hs.elim
  rename_i cQ;have⟨xs,z,h1,h2,h3⟩:=hs;obtain⟨es,rfl,JK⟩:=(hC _ _ _ _ h2).2.2.2.2.2 g (Xh.1 dX).1 rfl;have⟨_,iv⟩:=u_ (P:=P) (O:=O) (R:=R) (X:=X) (G:=G) hr cQ;have⟨xF,d1,d2⟩:=iv cj
  have pA:xs=xF:=by
   simp only[lA,ig d1]at h1
   grind
  subst pA;exact acQ (K4:=ab) hn bI oL gC (λro=>JK.Vc (ro:=ro) (G:=G) d2) JK.1 JK.2.1 (λc hc=>⟨λ_ _=>.pure c rfl (JK.2.2.1 c hc).1,(JK.2.2.1 c hc).2⟩) h3
 have⟨xs,z,h1,h2,h3⟩:=hs;obtain⟨es,rfl,JK⟩:=(hC _ _ _ _ h2).2.2.2.2.1 g (Xh.1 dX).1 rfl
 have pA:xs=us:=by
  simp only[lA,ig c1]at h1
  grind
 subst pA
 exact acQ (K4:=af) hn bI oL gC (λro=>JK.UY (ro:=ro) (G:=G) (aaH c2)) JK.1 JK.2.1 (λc hc=>by
  obtain⟨⟨v,rfl⟩,h2⟩:=JK.2.2.1 c hc;exact⟨λ_ _=>.raw _,h2⟩) h3
theorem gu(e:aK)(dst:aF Nat)(x:IV):(e.put dst x).n=e.n:=by simp[aK.xX]
variable{dst:aF Nat}{b:Bool}
def IG(hJ:JQQ Cx P O R X V1 E G)(hx:VR (aM P O) R X V1.l G x pv)(hd:∀t,dst=aa t->t<(E d).n):J Cx (aM P O) R X (V1.da d dst pv).g (V1.da d dst pv).l (nM E d ((E d).put dst x)) G:=by
 cases dst with
 |none=>exact hJ.Y4 (Nd:=V1.g) d ah x (λt h=>by cases h) λ_=>rfl
 |some t=>exact hJ.put d (hd t rfl) hx
def IH(hJ:JQQ Cx P O R X V1 E G):J Cx (aM P O) R X (V1.np d dst).g (V1.np d dst).l (nM E d ((E d).put dst x)) G:=by
 cases dst with
 |none=>exact hJ.Y4 (Nd:=V1.g) d ah x (λt h=>by cases h) λ_=>rfl
 |some t=>exact hJ.Y4 (Nd:=Ij d t V1.g) d (aa t) x (λt' h=>aI) λh=>by cases h
@[simp] theorem K5(V1:SS)(dst:aF Nat)(pv:PV SE):(V1.da d dst pv).n=V1.n:=by cases dst<;>rfl
@[simp] theorem adG(V1:SS)(dst:aF Nat)(pv:PV SE):(V1.da d dst pv).ln=V1.ln:=by cases dst<;>rfl
@[simp] theorem K6(V1:SS)(dst:aF Nat):(V1.np d dst).n=V1.n:=by cases dst<;>rfl
@[simp] theorem II(V1:SS)(dst:aF Nat):(V1.np d dst).ln=V1.ln:=by cases dst<;>rfl
def J.refine(hJ:JQQ Cx P O R X V E G)(hg:dk d t V.g=aa (.one (.v e))\/∃f,dk d t V.g=aa (.one (.w f e)))(he:e.den P O=aa (.bool b)):(E d).at t=.raw (.bool b)/\J Cx (aM P O) R X (V.da d (aa t) (.one (.v (.b b)))).g V.l E G:=by
 have bx:(E d).at t=.raw (.bool b):=by
  rcases hg with hg|⟨f,hg⟩
  .have⟨y,h1,h2,_⟩:=hJ.slot d t _ hg;have ew:e.den P O=aa y:=h1;rw[he]at ew;cases ew;exact dH h2
  .have⟨y,h1,h2,_⟩:=hJ.slot d t _ hg;have ew:e.den P O=aa y:=h1;rw[he]at ew;cases ew;exact dH h2
 refine⟨bx,{hJ with slot:=λd' t' JW zG=>?_}⟩;rcases oK zG with⟨rfl,rfl,rfl⟩|⟨_,h3⟩
 .exact⟨.raw (.bool b),rfl,by rw[bx];exact .raw _,rfl⟩
 .exact hJ.slot d' t' JW (NW V.g h3).2
variable{ao:Array YX}
def aHm(hJ:JQQ Cx P O R X V E G)(c7:(E d).n=V.nt):
 (yw ao d V o=.run->bE o ao (E d)=ab)/\(yw ao d V o=.skip->bE o ao (E d)=af)/\
 ∀t e want,yw ao d V o=.test t e want->(dk d t V.g=aa (.one (.v e))\/∃f,dk d t V.g=aa (.one (.w f e)))/\∀b,(E d).at t=.raw (.bool b)->bE o ao (E d)=(b==want):=by
 unfold yw bE;cases o.guard with
 |none=>simp
 |some p=>
  have⟨j,want⟩:=p;simp only;cases hd:(ao[j]?).bind (·.dst)with
  |none=>simp
  |some t=>
   simp only;by_cases aq:UO t V.nt=ab
   .rw[c7,aq];cases hg:dk d t V.g with
    |none=>simp
    |some pv=>
     have hs:=hJ.slot d t pv hg;cases pv with
     |ag|tu=>simp
     |one c=>
      cases c with
      |v e=>
       cases e with
       |b x=>
        have⟨y,h1,h2,_⟩:=hs;simp only[UU,ZY]at h1;subst h1;rw[dH h2]
        grind
       |_=>
        grind
      |w f e=>
       grind
      |_=>simp
   grind
def XR(P:V5)(O:aj IV)(R:Rs)(X:Ph)(L:aj (LO SE))(G:St):zC->Ex->Prop
 |.normal,x=>x=.normal
 |.exit i,x=>x=.exit i
 |.ret,x=>x=.ret
 |.dh t pv,x=>∃v,x=.dh (.eT t v)/\VR (aM P O) R X L G v pv
structure Bt(Cx:Cs)(P:V5)(d:Nat)(E:Nat->aK)(K:aj (aj IV->Prop))(O:aj IV)(nt:Nat)(V':SS)(I:aj IV)(K':aj (aj IV->Prop))(R':Rs)(bA:Ph)(E':Nat->aK)(aB:St):Prop where
 hK:K<+:K'
 iU:K'.length=V'.lv
 c7:V'.nt=nt
 hJ:J Cx (aM P (O++I)) R' bA V'.g V'.l E' aB
 hn:(O++I).length=V'.n
 hE:∀j,j<d->E' j=E j
 J2:(E' d).n=(E d).n
def KW(Cx:Cs)(P:V5)(C:Cr)(Q:IV->Prop)(d:Nat)(E:Nat->aK)(K:aj (aj IV->Prop))(O:aj IV)(nt:Nat)(k:zC->SS->au)(CW:Nat->nN):Prop:=
 ∀ex (V':SS) I K' R' bA E' aB x,Bt Cx P d E K O nt V' I K' R' bA E' aB->XR P (O++I) R' bA V'.l aB ex x->(k ex V').sat P C Q K' (O++I)->∃b,∀N,b<=N->aB.n<=N/\CW N x (E' d) aB
def KP(Cx:Cs)(P:V5)(C:Cr)(Q:IV->Prop)(d:Nat)(E:Nat->aK)(K:aj (aj IV->Prop))(O:aj IV)(nt:Nat)(kx:Kx)(CW:Nat->IV->aK->St->Prop):Prop:=
 ∀t pv (V':SS) I K' R' bA E' aB v,Bt Cx P d E K O nt V' I K' R' bA E' aB->VR (aM P (O++I)) R' bA V'.l aB v pv->(kx t pv V').sat P C Q K' (O++I)->∃b,∀N,b<=N->aB.n<=N/\CW N (.eT t v) (E' d) aB
def KS(Cx:Cs)(P:V5)(C:Cr)(Q:IV->Prop)(d:Nat)(E:Nat->aK)(K:aj (aj IV->Prop))(O:aj IV)(nt:Nat)(k:SS->au)(CW:Nat->aK->St->Prop):Prop:=
 ∀(V':SS) I K' R' bA E' aB,Bt Cx P d E K O nt V' I K' R' bA E' aB->(k V').sat P C Q K' (O++I)->∃b,∀N,b<=N->aB.n<=N/\CW N (E' d) aB
variable{df:aj Df}{rd:aF Nat}{E1:Nat->aK}{Fu:aj IV}{K1 K2:aj (aj IV->Prop)}
def qN(Cx:Cs)(P:V5)(C:Cr)(Q:IV->Prop)(self:qu):Prop:=
 ∀lR d f c (V:SS) k O K R X E G CW rd df,(lR=af->rd=ah)->(self lR d f c V k).sat P C Q K O->JQQ Cx P O R X V E G->O.length=V.n->K.length=V.lv->(E d).n=V.nt->KW Cx P C Q d E K O V.nt k CW->∃b,∀N,b<=N->dP P N rd c (E d) df G (CW N)
def Bt.trans{nt:Nat}{V1 V2:SS}{μ2:aj IV}{R1 R2:Rs}{fa Fq:Ph}{E2:Nat->aK}{aG dJ:St}(h1:K<+:K1)(h2:∀j,j<d->E1 j=E j)(h3:(E1 d).n=(E d).n)
 (h:Bt Cx P d E1 K1 (O++Fu) nt V2 μ2 K2 R2 Fq E2 dJ):Bt Cx P d E K O nt V2 (Fu++μ2) K2 R2 Fq E2 dJ where
 hK:=h1.trans h.hK
 iU:=h.iU
 c7:=h.c7
 hJ:=by rw[<-ZZ];exact h.hJ
 hn:=by rw[<-ZZ];exact h.hn
 hE:=λj hj=>(h.hE j hj).trans (h2 j hj)
 J2:=h.J2.trans h3
variable{CW:Nat->nN}{kk:zC->SS->au}
def KW.fwd{nt:Nat}(h:KW Cx P C Q d E K O nt kk CW)(h1:K<+:K1)(h2:∀j,j<d->E1 j=E j)(h3:(E1 d).n=(E d).n):KW Cx P C Q d E1 K1 (O++Fu) nt kk CW:=
 λex V' I K' R' bA E' aB x hf hx hs=>h ex V' (Fu++I) K' R' bA E' aB x (Bt.trans (V1:=V') (R1:=R') (fa:=bA) (aG:=aB) h1 h2 h3 hf) (by rw[<-ZZ];exact hx) (by rw[<-ZZ];exact hs)
def KP.fwd{nt:Nat}{kk:Kx}{CW:Nat->IV->aK->St->Prop}(h:KP Cx P C Q d E K O nt kk CW)(h1:K<+:K1)(h2:∀j,j<d->E1 j=E j)(h3:(E1 d).n=(E d).n):KP Cx P C Q d E1 K1 (O++Fu) nt kk CW:=
 λt pv V' I K' R' bA E' aB v hf hv hs=>h t pv V' (Fu++I) K' R' bA E' aB v (Bt.trans (V1:=V') (R1:=R') (fa:=bA) (aG:=aB) h1 h2 h3 hf) (by rw[<-ZZ];exact hv) (by rw[<-ZZ];exact hs)
def KW.kp{nt:Nat}(h:KW Cx P C Q d E K O nt kk CW):KP Cx P C Q d E K O nt (λt pv V=>kk (.dh t pv) V) (λN v e G=>CW N (.dh v) e G):=
 λt pv V' I K' R' bA E' aB v hf hv hs=>h (.dh t pv) V' I K' R' bA E' aB _ hf ⟨v,rfl,hv⟩ hs
variable{CW:Nat->aK->St->Prop}{kk:SS->au}
def KS.fwd{nt:Nat}(h:KS Cx P C Q d E K O nt kk CW)(h1:K<+:K1)(h2:∀j,j<d->E1 j=E j)(h3:(E1 d).n=(E d).n):KS Cx P C Q d E1 K1 (O++Fu) nt kk CW:=
 λV' I K' R' bA E' aB hf hs=>h V' (Fu++I) K' R' bA E' aB (Bt.trans (V1:=V') (R1:=R') (fa:=bA) (aG:=aB) h1 h2 h3 hf) aI
def Bt.here(hJ:JQQ Cx P O R X V E G)(hn:O.length=V.n)(hK:K.length=V.lv):Bt Cx P d E K O V.nt V [] K R X E G:=
 ⟨Y8 _,hK,rfl,by rw[Z_];exact hJ,by rw[Z_];exact hn,λ_ _=>rfl,rfl⟩
def KS.now(h:KS Cx P C Q d E K O V.nt kk CW)(hJ:JQQ Cx P O R X V E G)(hn:O.length=V.n)(hK:K.length=V.lv)(hs:(kk V).sat P C Q K O):∃b,∀N,b<=N->G.n<=N/\CW N (E d) G:=
 h V [] K R X E G (.here hJ hn hK) aI
variable{CW:Nat->nN}{ex:zC}
def KW.now{kk:zC->SS->au}(h:KW Cx P C Q d E K O V.nt kk CW)(hJ:JQQ Cx P O R X V E G)(hn:O.length=V.n)(hK:K.length=V.lv){x:Ex}(hx:XR P O R X V.l G ex x)(hs:(kk ex V).sat P C Q K O):∃b,∀N,b<=N->G.n<=N/\CW N x (E d) G:=
 h ex V [] K R X E G x (.here hJ hn hK) (by rw[Z_];exact hx) (by rw[Z_];exact hs)
def af0(hJ:JQQ Cx P O R X V E G){t:VK}{pa:PV SE}(hx:VR (aM P O) R X V.l G x pa)(hl:WX P t pa V=aa pv):
 ∃id ay ext s dR v,x=.ptr id ay 0 ext/\bD P t=aa s/\G.at id=aa (.cells dR 0 0)/\s<=ext/\partOf P t dR ay=aa v/\VR (aM P O) R X V.l G v pv:=by
 unfold WX at hl;split at hl<;>try (cases hl;done)
 rename_i s b j ay ext cd Xd;split at hl<;>try (cases hl;done)
 rename_i cs hj;split at hl<;>try grind
 rename_i hle;simp only[VM,Yr]at hle;obtain⟨id,v7,h1,h2,rfl⟩:=hx;have⟨bY,dR,h3,h4,h5,h6⟩:=hJ.obj j _ hj;rw[h1]at h3;cases h3
 have vE:if isAgg P t=ab then pv=.ag ((cs.drop ay).take s)else∃c,(cs.drop ay).take s=[c]/\pv=.one c:=by
  grind
 have⟨v,hv,hr⟩:=xN cd Xd h6 hle.2 vE
 grind
def El(P:V5)(e:aK)(G:St)(r:ResultVar):aF IV:=
 match r with
 |.tmp t=>aa (e.at t)
 |.cell a t=>match e.at a with
  |.ptr id ay ep ext=>match bD P t,G.at id with
   |some s,aa (.cells cs aV mn)=>if s<=ext/\mn<=ep/\ep<=aV then partOf P t cs ay else ah
   |_,_=>ah
  |_=>ah
def va(hJ:JQQ Cx P O R X V E G):∀{rs:aj ResultVar} {dM:aj (PV SE)},xo P d V rs=aa dM->∃vs,rs.mapM (El P (E d) G)=aa vs/\All2 (VR (aM P O) R X V.l G) vs dM
 |[],dM,h=>by
  simp only[xo,ZY]at h;subst h;exact⟨[],rfl,trivial⟩
 |.tmp t::rs,dM,h=>by
  simp only[xo]at h;split at h
  .rename_i xw hp;cases h;have⟨vs,h1,h2⟩:=va hJ hp;refine⟨(E d).at t::vs,by simp[El,h1],?_,h2⟩;exact b_ hJ d 0 (.tmp t)
  grind
 |.cell a t::rs,dM,h=>by
  simp only[xo]at h;split at h
  .rename_i pa nq;split at h
   .rename_i pv xw hl hp;cases h;have⟨vs,h1,h2⟩:=va hJ hp;have⟨id,ay,ext,s,dR,v,g1,g2,g3,g4,g5,g6⟩:=af0 hJ (hJ.slot d a pa nq) hl;refine⟨v::vs,?_,g6,h2⟩;have:El P (E d) G (.cell a t)=aa v:=by simp[El,g1,g2,g3,g4,g5]
    simp_all
   grind
  grind
def K7:aj IV->IV
 |[v]=>v
 |l=>.aU l
variable{dM:aj (PV SE)}
def RL(h:All2 (VR (aM P O) R X L G) vs dM):VR (aM P O) R X L G (K7 vs) (N7 dM):=by
 have conv:∀{x:IV} {pv:PV SE},VR (aM P O) R X L G x pv->zA (aM P O) R X L G x (match pv with|.one c=>(af,[c])|.ag cs=>(ab,cs)|.tu _=>(af,[.un])):=by
  intro x pv hx;cases pv with
  |one c=>exact⟨c,rfl,hx⟩
  |ag cs=>exact hx
  |tu vs=>exact⟨.un,rfl,trivial⟩
 match vs,dM,h with
 |[],[],_=>trivial
 |[v],[pv],h=>exact h.1
 |v::v'::vs,pv::JW::dM,h=>exact⟨_,rfl,h.map λ_ _ di=>conv di⟩
variable{e:aK}{j d' n:Nat}
def uF(h:fn.results.toList.mapM (El P e G)=aa vs):fv P fn e G=aa (K7 vs):=by
 unfold fv
 have Xz:∀r,(match r with
  |aLi t=>aa (e.at t)
  |aLj a t=>match e.at a with
   |.ptr id ay ep ext=>match bD P t,G.at id with
    |some s,aa (.cells cs aV mn)=>if s<=ext/\mn<=ep/\ep<=aV then partOf P t cs ay else ah
    |_,_=>ah
   |_=>ah)=El P e G r:=λr=>rfl
 generalize hl:fn.results.toList=l at h⊢
 match l,h with
 |[],h=>simp at h;subst h;rfl
 |[r],h=>
  simp only[Tv]at h;cases ho:El P e G r with
  |none=>grind
  |some v=>rw[ho]at h;simp at h;subst h;exact ho
 |r::r'::rs,h=>
  have bf:∃v v' EU,vs=v::v'::EU:=by
   simp only[Tv]at h;cases h1:El P e G r with
   |none=>grind
   |some v=>
    cases h2:El P e G r' with
    |none=>grind
    |some v'=>
     cases h3:rs.mapM (El P e G)with
     |none=>grind
     |some EU=>grind
  obtain⟨v,v',EU,rfl⟩:=bf;have h':=h;have e2:(match(r::r'::rs).mapM (El P e G)with|some vs=>aa (IV.aU vs)|none=>ah)=aa (K7 (v::v'::EU)):=by rw[h'];rfl
  exact e2
def gj(E:Nat->aK)(d:Nat)(e:aK)(h:j≠d):nM E d e j=E j:=by simp[nM,h]
def GG{B:Type}{pv:PV B}:∀{g h:aj (Nat×Nat×PV B)},dk d t (g++h)=aa pv->dk d t g=aa pv\/dk d t h=aa pv
 |[],h,hg=>.inr hg
 |(a,b,q)::g,h,hg=>by
  simp only[T7,dk]at hg⊢;split at hg
  .grind
  .rename_i hc;rw[aY hc];exact GG hg
theorem rq{B:Type}:∀{dM:aj (PV SE)} {j:Nat},dk d' t (setArgs d j dM)=aa pv->d'=d/\j<=t/\dM[t- j]?=aa pv
 |[],j,h=>by cases h
 |q::dM,j,h=>by
  rcases oK h with⟨rfl,rfl,rfl⟩|⟨cg,h2⟩
  .simp
  .obtain⟨rfl,h3,h4⟩:=rq (B:=B) h2
   grind
def r7:∀{g:aj (Nat×Nat×PV SE)},dk d' t (fR d g)=aa pv->d'≠d/\dk d' t g=aa pv
 |[],h=>by cases h
 |(a,b,q)::g,h=>by
  simp only[fR]at h;split at h
  .rename_i hc;have sF:=ZR hc;have⟨h1,h2⟩:=r7 h
   simp_all[dk]
  .have sF:a≠d:=jw;rcases oK h with⟨rfl,rfl,rfl⟩|⟨cg,h2⟩
   .simp_all[dk]
   .have⟨h3,h4⟩:=r7 h2
    simp_all[dk]
def aeC:∀(av:aj IV) (j:Nat) (e:aK) (t:Nat),j+av.length<=e.n->((av.zipIdx j).foldl (λe (p:IV×Nat)=>e.put (aa p.2) p.1) e).n=e.n/\
 (((av.zipIdx j).foldl (λe (p:IV×Nat)=>e.put (aa p.2) p.1) e).at t=if j<=t/\t<j+av.length then(av[t- j]?).getD .undef else e.at t)
 |[],j,e,t,_=>by simp;omega
 |a::av,j,e,t,h=>by
  simp only[List.zipIdx_cons,Zv];have⟨h1,h2⟩:=aeC av (j+1) (e.put (aa j) a) t (by grind [gu]);refine⟨by rw[h1,gu],?_⟩;rw[h2]
  grind [aK.eF]
def jd(h:av.length<=n):(fV av n).n=n/\(t<av.length->(fV av n).at t=(av[t]?).getD .undef):=by
 have⟨h1,h2⟩:=aeC av 0 ⟨n,.lf⟩ t aI;refine⟨h1,λht=>?_⟩;have:=h2;rw[aW ⟨UT _,ak⟩]at this;exact this
def af1(hJ:JQQ Cx P O R X V E G)(h:All2 (VR (aM P O) R X V.l G) av dM)(hl:av.length<=n):
 J Cx (aM P O) R X (setArgs (d+1) 0 dM++fR (d+1) V.g) V.l (nM E (d+1) (fV av n)) G:=by
 refine{hJ with slot:=λd' t pv hg=>?_};rcases GG hg with hg|hg
 .obtain⟨rfl,_,h3⟩:=rq (B:=IV) hg;have ht:t<av.length:=by grind [h.len]
  rw[cI,(jd hl).2 ht,UN ht];exact h.get (UN ht) ak
 .have⟨h1,h2⟩:=r7 hg;rw[gj _ _ _ h1];exact hJ.slot d' t pv h2
def xQ(hJ:JQQ Cx P O R X V E G)(d:Nat):J Cx (aM P O) R X (fR d V.g) V.l E G:=hJ.less λ_ _ _ h=>(r7 h).2
variable{PW:Nat->IV->St->Prop}{cfg:fz}{f0 m f id:Nat}{self:qu}{H:SS}{a:SE}{vH I:aj IV}{CX:Nat->nN}{fa:Ph}
def CH(cH:qN Cx P C Q self)(hJ:JQQ Cx P O R X V E G)(hn:O.length=V.n)(hK:K.length=V.lv)(c7:(E d).n=V.nt)(cj:All2 (VR (aM P O) R X V.l G) av dM)
 {kx:Kx}(hs:(rj P cfg self kx d f0 dst g dM V k).sat P C Q K O)
 (hk:∀(pv:PV SE) (V':SS) I K' R' bA E' aB v,Bt Cx P d E K O V.nt V' I K' R' bA E' aB->E' d=E d->VR (aM P (O++I)) R' bA V'.l aB v pv->(k pv V').sat P C Q K' (O++I)->∃b,∀N,b<=N->aB.n<=N/\RW N v aB)
 (Co:∀t (pv:PV SE) (V':SS) I K' R' bA E' aB v,Bt Cx P d E K O V.nt V' I K' R' bA E' aB->E' d=E d->VR (aM P (O++I)) R' bA V'.l aB v pv->(kx t pv V').sat P C Q K' (O++I)->∃b,∀N,b<=N->aB.n<=N/\PW N (.eT t v) aB):
 ∃fn,P.funcs[g]?=aa fn/\fn.body.isSome=ab/\(fn.name != "runtime.NumGoroutine")=ab/\∃b,∀N,b<=N->yv P N g av G (RW N) (PW N):=by
 unfold rj at hs;split at hs<;>try cases hs
 rename_i fn dX;split at hs<;>try cases hs
 rename_i body hb;split at hs<;>try cases hs
 split at hs<;>try cases hs
 rename_i hc;simp only[VM]at hc;have hl:av.length<=fn.ntmps:=by simp_all[cj.len]
 exists fn,dX,aI,hc.2;have cC:=af1 (d:=d) hJ cj hl
 obtain⟨b,ua⟩:=cH af (d+1) _ body {V with g:=setArgs (d+1) 0 dM++fR (d+1) V.g,nt:=fn.ntmps} _ O K R X (nM E (d+1) (fV av fn.ntmps)) G
  (λN ex e1 aG=>aG.n<=N/\(((ex=.normal\/ex=.ret)/\∃v,fv P fn e1 aG=aa v/\RW N v aG)\/∃v,ex=.dh v/\PW N v aG)) ah [] (λ_=>rfl) hs cC hn hK (by rw[cI,(jd (t:=0) hl).1]) (by
   intro ex V' I K' R' bA E' aB x hf hx cB;have qI:E' d=E d:=by rw[hf.hE d ak,gj _ _ _ ak]
   have main:∀xw,xo P (d+1) V' fn.results.toList=aa xw->(k (N7 xw) {V' with g:=fR (d+1) V'.g,nt:=V.nt}).sat P C Q K' (O++I)->∃b,∀N,b<=N->aB.n<=N/\aB.n<=N/\∃v,fv P fn (E' (d+1)) aB=aa v/\RW N v aB:=by
    intro xw hr ki;have⟨vs,h1,h2⟩:=va hf.hJ hr;have hv:=RL h2
    obtain⟨b,hb⟩:=hk (N7 xw) {V' with g:=fR (d+1) V'.g,nt:=V.nt} I K' R' bA E' aB (K7 vs)
     ⟨hf.hK,hf.iU,rfl,xQ hf.hJ (d+1),hf.hn,λj hj=>by rw[hf.hE j ak,gj _ _ _ ak],aI⟩ qI hv ki
    exact⟨b,λN hN=>⟨(hb N hN).1,(hb N hN).1,K7 vs,uF h1,(hb N hN).2⟩⟩
   cases ex with
   |exit i=>cases cB
   |dh t pv=>
    obtain⟨v,rfl,hv⟩:=hx
    obtain⟨b,hb⟩:=Co t pv {V' with g:=fR (d+1) V'.g,nt:=V.nt} I K' R' bA E' aB v
     ⟨hf.hK,hf.iU,rfl,xQ hf.hJ (d+1),hf.hn,λj hj=>by rw[hf.hE j ak,gj _ _ _ ak],aI⟩ qI hv cB
    exact⟨b,λN hN=>⟨(hb N hN).1,(hb N hN).1,.inr ⟨_,rfl,(hb N hN).2⟩⟩⟩
   |normal=>
    obtain rfl:=hx;simp only at cB;split at cB
    .simp_all
    contradiction
   |ret=>
    obtain rfl:=hx;simp only at cB;split at cB
    .simp_all
    contradiction)
 refine⟨b,λN hN=>?_⟩;have:=ua N hN;rw[cI]at this;exact yv.body dX hb hl this
section
def an0{a b:aj IV}:∀(e:SE),e.Cj vH.length=ab->e.den P (vH++a)=e.den P (vH++b):=by
 intro e;induction e with
 |var x=>
  intro h;simp only[SE.Cj]at h;have hx:x<vH.length:=jw
  grind [UU]
 |i|k|b|s|raw|an=>intro _;rfl
 |ok e ih|qG _ e ih|bt e _ ih|len e ih|xl e ih|tr _ e ih|tp e ih|proj e _ ih|un _ e ih|cv _ _ e ih|rw e ih|rws e ih=>simp_all[SE.Cj,UU]
 |idx _ e f kF jy|mG _ e f _ kF jy|ac e f kF jy|cat _ _ e f kF jy|bin _ _ e f kF jy|mx _ e f kF jy|Pr e f kF jy|has _ e f kF jy|dec _ e f kF jy=>
  simp_all[SE.Cj,UU]
 |BP _ e f g kF jy Pz|sub _ e f g kF jy Pz|N2 e f g kF jy Pz|ins _ e f g kF jy Pz|get _ e f g kF jy Pz=>
  simp_all[SE.Cj,UU]
variable{av:aj SE}{k:Nat}{fJ:aj (Nat×Nat)}{l:aj (LO SE)}
structure Ins(P:V5)(n:Nat)(av:aj SE)(O vH vs:aj IV):Prop where
 len:vH.length=n
 pre:∃I,O=vH++I
 args:All2 (λ(e:SE) y=>e.den P O=aa y) av vs
def o0(hI:Ins P n av O vH vs){h e:SE}(hc:AA n av h e=ab)(hy:e.den P O=aa y):h.den P (vH++vs)=aa y:=by
 obtain⟨hl,⟨I,rfl⟩,ha⟩:=hI;unfold AA at hc;split at hc
 .rename_i x;split at hc
  .have oF:x<vH.length:=jw;have:=SE.eq_eq hc
   grind [UU]
  .have oF:n<=x:=jw;split at hc
   .rename_i a hax;have:=SE.eq_eq hc;subst this;have aq:x- n<vs.length:=by grind [ha.len]
    have hv:=ha.get hax (UN aq);rw[hy]at hv;simp only[UU]
    grind
   grind
 .simp only[VM]at hc;have⟨h1,h2⟩:=hc;have:=SE.eq_eq h2;subst this;rw[<-hl]at h1;rw[an0 (b:=I) h h1];omega
def mE(X:Ph)(H:SS)(fJ:aj (Nat×Nat)):Ph:=λk=>if isLive H.l k=ab then(xn fJ k).bind X else ah
def aIm{B:Type}{l:aj (Nat×B)}{a:B}(h:xn l k=aa a):(k,a)∈l:=by
 induction l with
 |nil=>cases h
 |cons p l ih=>
  have⟨x,y⟩:=p;simp only[xn]at h;split at h
  all_goals simp_all
def aq0(h:TP fJ=ab){k' e:Nat}(h1:xn fJ k=aa e)(h2:xn fJ k'=aa e):k=k':=by
 unfold TP at h;rw[US]at h;have:=h _ (aIm h1);rw[US]at this;have:=this _ (aIm h2)
 simp_all
theorem RM:∀{os:aj (LO SE)} {k:Nat},WW n av fJ l k os=ab->∀{j:Nat} {o:LO SE},os[j]?=aa o->o≠.dead->∃k' o',xn fJ (k+j)=aa k'/\l[k']?=aa o'/\BS n av fJ o o'=ab
 |[],k,_,j,o,h,_=>by grind
 |a::os,k,hc,j,o,h,hd=>by
  simp only[WW,VM]at hc;cases j with
  |zero=>
   grind
  |succ j=>
   simp at h;have⟨k',o',h1,h2,h3⟩:=RM hc.2 h hd
   grind
def aHR(h:isLive l k=ab):∃o,l[k]?=aa o/\o≠.dead:=by
 unfold isLive at h
 grind
theorem qw{B β:Type}{f:B->B->Bool}{r:β->B->Prop}{r':β->B->Prop}:∀{xs:aj β} {as bs:aj B},(∀x a b,a∈as->f a b=ab->r x b->r' x a)->mX f as bs=ab->All2 r xs bs->All2 r' xs as
 |[],[],[],_,_,_=>trivial
 |x::xs,a::as,b::bs,hf,h,hx=>by
  simp only[mX,VM]at h;exact⟨hf x a b az h.1 hx.1,qw (λx a b ha=>hf x a b aI) h.2 hx.2⟩
 |[],a::as,[],_,h,_=>by cases h
 |[],[],b::bs,_,h,_=>by cases h
 |[],_::_,_::_,_,_,hx=>hx.elim
 |_::_,[],[],_,_,hx=>hx.elim
 |_::_,_::_,[],_,h,_=>by cases h
 |_::_,[],_::_,_,h,_=>by cases h
theorem aHx{B:Type}{f:B->B->Bool}:∀{as bs:aj B},mX f as bs=ab->∀{a:B},a∈as->∃b,b∈bs/\f a b=ab
 |[],_,_,_,h=>by cases h
 |x::as,y::bs,h,a,ha=>by
  simp only[mX,VM]at h;rcases ZP.1 ha with rfl|ha
  .grind
  .have⟨b,h1,h2⟩:=aHx h.2 ha
   grind
 |_::_,[],h,_,_=>by cases h
variable(hI:Ins P n av O vH vs)(hJ:J Cx (aM P O) R X V.g V.l E G)(hL:WW n av fJ V.l 0 H.l=ab)
include hI hJ hL
theorem Hs{h e:Cl SE}(CI:∀k∈Az h,isLive H.l k=ab)(hc:uy n av fJ h e=ab)(hx:dT (aM P O) R X V.l G x e):dT (aM P (vH++vs)) R (mE X H fJ) H.l G x h:=by
 have key:∀k k',It fJ k k'=ab->isLive H.l k=ab->∃o o',H.l[k]?=aa o/\V.l[k']?=aa o'/\BS n av fJ o o'=ab/\mE X H fJ k=X k':=by
  intro k k' hk hl;have⟨o,h1,h2⟩:=aHR hl;have⟨k2,o',h3,h4,h5⟩:=RM hL h1 h2;rw[Yj]at h3;simp only[It,h3]at hk;have:=ZR hk;subst this;exact⟨o,o',h1,h4,h5,by simp[mE,hl,h3]⟩
 cases h with
 |un=>trivial
 |v a=>
  cases e<;>simp only[uy]at hc<;>try (cases hc;done)
  .have⟨y,h1,h2⟩:=hx;exact⟨y,o0 hI hc h1,h2⟩
  .rename_i b s;have⟨h1,h2⟩:=hx;refine⟨.tree s [],o0 hI hc (by simp[UU,h1]),?_,rfl⟩;subst h2;cases b
   .exact .emp s h1
   .exact .nil s h1
 |w f a=>
  cases e<;>simp only[uy,VM]at hc<;>try (cases hc;done)
  .obtain⟨hf,hc⟩:=hc;have⟨y,h1,h2,h3⟩:=hx;subst hf;exact⟨y,o0 hI hc h1,h2.mono hJ.Fs,h3⟩
  .have⟨hf,hc⟩:=hc;have⟨y,h1,h2,h3⟩:=hx;exact⟨y,o0 hI hc h1,h2.wide λh=>by subst h;simpa using hf,h3⟩
  .rename_i b s;have⟨h1,h2⟩:=hx;refine⟨.tree s [],o0 hI hc (by simp[UU,h1]),?_,rfl⟩;subst h2;cases b
   .exact .emp s h1
   .exact .nil s h1
 |nl a s=>
  cases e<;>simp only[uy,VM,ZT,beq_iff_eq]at hc<;>try (cases hc;done)
  obtain⟨rfl,rfl⟩:=hc;exact hx
 |pt k o x'=>
  cases e<;>simp only[uy,VM,ZT]at hc<;>try (cases hc;done)
  obtain⟨⟨rfl,rfl⟩,hk⟩:=hc;have⟨id,cs,h1,h2,h3⟩:=hx;have⟨o1,o2,g1,g2,g3,g4⟩:=key _ _ hk (CI k (by simp[Az]));rw[h2]at g2;cases g2;cases o1<;>simp only[BS]at g3<;>try (cases g3;done)
  exact⟨id,_,by rw[g4];exact h1,g1,h3⟩
 |tp a=>
  cases e<;>simp only[uy]at hc<;>try (cases hc;done)
  have⟨ds,h1,h2⟩:=hx;exact⟨ds,h1,qw (λd a b _ di ⟨y,h3,h4⟩=>⟨y,o0 hI di h3,h4⟩) hc h2⟩
 |tw f a=>cases e<;>simp[uy]at hc
 |sr k=>
  cases e<;>simp only[uy]at hc<;>try (cases hc;done)
  have⟨s,st,cut,fr,z,es,h1,h2,h3⟩:=hx;have⟨o1,o2,g1,g2,g3,g4⟩:=key _ _ hc (CI k (by simp[Az]));rw[h1]at g2;cases g2;cases o1<;>simp only[BS,VM,ZT,beq_iff_eq]at g3<;>try (cases g3;done)
  obtain⟨⟨⟨⟨rfl,rfl⟩,Xn⟩,sE⟩,hz⟩:=g3;exists _,_,_,_,_,es,g1,o0 hI hz h2;rcases h3 with⟨a1,a2,a3⟩|⟨id,cs,aV,mn,cap,a1,a2,a3,a4,a5,a6⟩
  .exact .inl ⟨by rw[g4];exact a1,a2,a3⟩
  .exact .inr ⟨id,cs,aV,mn,cap,by rw[g4];exact a1,a2,a3,a4,λhn sF=>a5 hn (by subst sF;simpa using Xn),a6⟩
 |sv k lo=>cases e<;>simp[uy]at hc
 |pr k i ay ext=>cases e<;>simp[uy]at hc
 |mp k=>
  cases e<;>simp only[uy]at hc<;>try (cases hc;done)
  have⟨id,kt,es,h1,h2,h3⟩:=hx;have⟨o1,o2,g1,g2,g3,g4⟩:=key _ _ hc (CI k (by simp[Az]));rw[h2]at g2;cases g2;cases o1<;>simp only[BS,VM,ZT]at g3<;>try (cases g3;done)
  obtain⟨⟨rfl,_⟩,_⟩:=g3;exact⟨id,_,_,by rw[g4];exact h1,g1,h3⟩
 |yl k=>
  cases e<;>simp only[uy]at hc<;>try (cases hc;done)
  have⟨id,c,st,sn,h1,h2,h3⟩:=hx;have⟨o1,o2,g1,g2,g3,g4⟩:=key _ _ hc (CI k (by simp[Az]));rw[h2]at g2;cases g2;cases o1<;>simp only[BS]at g3<;>try (cases g3;done)
  exact⟨id,_,_,_,by rw[g4];exact h1,g1,h3⟩
 |fn f a=>
  cases e<;>simp only[uy,VM,ZT]at hc<;>try (cases hc;done)
  obtain⟨rfl,hl⟩:=hc;rcases hx with⟨rfl,h2⟩|⟨ys,h1,h2⟩
  .have:a=[]:=by cases a with|nil=>rfl|cons=>cases hl
   subst this;exact .inl ⟨rfl,h2⟩
  .refine .inr ⟨ys,h1,?_⟩;refine qw (λy p q hp DZ ⟨id,cs,h3,h4,h5⟩=>?_) hl h2;simp only[VM,ZT]at DZ;have⟨o1,o2,g1,g2,g3,g4⟩:=key _ _ DZ.2 (CI p.1 (by exact List.mem_map_of_mem hp));rw[h4]at g2;cases g2;cases o1<;>simp only[BS]at g3<;>try (cases g3;done)
   exact⟨id,_,by rw[g4];exact h3,g1,by rw[DZ.1];exact h5⟩
theorem aG8{h e:PV SE}(CI:∀k∈KL h,isLive H.l k=ab)(hc:Mh n av fJ h e=ab)(hx:VR (aM P O) R X V.l G x e):VR (aM P (vH++vs)) R (mE X H fJ) H.l G x h:=by
 cases h with
 |one c=>
  cases e<;>simp only[Mh]at hc<;>try grind
  exact Hs hI hJ hL CI hc hx
 |ag cs=>
  cases e<;>simp only[Mh]at hc<;>try grind
  have⟨xs,h1,h2⟩:=hx;exact⟨xs,h1,qw (r:=dT (aM P O) R X V.l G) (λx a b ha di hx=>Hs hI hJ hL (λk hk=>CI k (XC.2 ⟨a,ha,hk⟩)) di hx) hc h2⟩
 |tu us=>
  cases e<;>simp only[Mh]at hc<;>try grind
  have⟨xs,h1,h2⟩:=hx;refine⟨xs,h1,qw (λx a b ha di hx=>?_) hc h2⟩;simp only[VM,beq_iff_eq]at di;have hla:=λc hc k hk=>CI k (XC.2 ⟨a,ha,XC.2 ⟨c,hc,hk⟩⟩);unfold zA at hx⊢;rw[di.1];split at hx
  .rename_i hb;rw[aW hb];have⟨ys,h3,h4⟩:=hx;exact⟨ys,h3,qw (r:=dT (aM P O) R X V.l G) (λx c c' hca sK hx=>Hs hI hJ hL (hla c hca) sK hx) di.2 h4⟩
  .rename_i hb;rw[aY hb];have⟨c,h3,h4⟩:=hx;have jL:=di.2;rw[h3]at jL;have⟨a1,a2⟩:=a;cases a2 with
   |nil=>cases jL
   |cons c' r=>
    cases r with
    |cons=>simp_all[mX]
    |nil=>
     simp only[mX,Bool.and_true]at jL;exact⟨c',rfl,Hs hI hJ hL (hla c' az) jL h4⟩
omit hI hJ hL in
theorem RN(hJ:JQQ Cx P O R X V E G)(hl:vH.length=n)(hp:∃I,O=vH++I)(h:inst n m H V=aa (av,fJ))(hv:All2 (λ(e:SE) y=>e.den P O=aa y) av vs):
 vs.length=m/\J Cx (aM P (vH++vs)) R (mE X H fJ) H.g H.l E G:=by
 unfold inst at h;split at h
 .cases h
 .rename_i hlr;have ajd:N6 H=ab:=by simpa using hlr
  split at h<;>try (cases h;done)
  split at h<;>try (cases h;done)
  split at h<;>try (cases h;done)
  split at h<;>try (cases h;done)
  rename_i hc;simp only[ZY,Prod.mk.injEq]at h;obtain⟨e1,e2⟩:=h;rw[e1,e2]at hc;simp only[VM,ZT]at hc;obtain⟨⟨⟨c1,c2⟩,c3⟩,c4⟩:=hc;have hI:Ins P n av O vH vs:=⟨hl,hp,hv⟩;unfold N6 at ajd;simp only[VM,US]at ajd;obtain⟨l1,l2⟩:=ajd
  have RH:∀{k id},mE X H fJ k=aa id->isLive H.l k=ab/\∃k',xn fJ k=aa k'/\X k'=aa id:=by
   intro k id hk;unfold mE at hk;split at hk
   .rename_i iU;obtain⟨k',h1,h2⟩:=ZS.1 hk;exact⟨iU,k',h1,h2⟩
   .cases hk
  refine⟨by rw[<-hv.len];exact c4,λd t pv hg=>?_,λk o ho=>?_,λk k' id h1 h2=>?_,λk id hk=>?_,hJ.tC,hJ.fits,hJ.wf,hJ.top⟩
  .have dE:(d,t,pv)∈H.g:=by
    have:∀{g:aj (Nat×Nat×PV SE)},dk d t g=aa pv->(d,t,pv)∈g:=by
     intro g;induction g with
     |nil=>intro h;cases h
     |cons p g ih=>
      obtain⟨a,b,q⟩:=p;intro h;rcases oK h with⟨rfl,rfl,rfl⟩|⟨_,h2⟩
      .simp
      .exact List.mem_cons_of_mem _ (ih h2)
    exact this hg
   unfold aqB at c1;rw[US]at c1;have:=c1 _ dE;simp only at this;split at this
   .rename_i JW vE;exact aG8 hI hJ c2 (λk hk=>l1 _ dE k hk) this (hJ.slot d t JW vE)
   .cases this
  .by_cases hd:o=.dead
   .subst hd;trivial
   .obtain⟨k',o',h1,h2,h3⟩:=RM c2 ho hd;rw[Yj]at h1
    have iU:isLive H.l k=ab:=by
     unfold isLive;rw[ho];cases o<;>first|rfl|exact bH rfl hd
    have xu:mE X H fJ k=X k':=by simp[mE,iU,h1]
    have gp:=hJ.obj k' o' h2;cases o with
    |dead=>exact bH rfl hd
    |var cs=>
     cases o'<;>simp only[BS]at h3<;>try (cases h3;done)
     obtain⟨id,dR,g1,g2,g3,g4⟩:=gp;have hrefs:=l2 _ (ZU ho);simp only at hrefs;rw[US]at hrefs;exact⟨id,dR,by rw[xu];exact g1,g2,g3,qw (r:=dT (aM P O) R X V.l G) (λx a b ha di hx=>Hs hI hJ c2 (λk hk=>hrefs k (XC.2 ⟨a,ha,hk⟩)) di hx) h3 g4⟩
    |row s st cut fr z=>
     cases o'<;>simp only[BS,VM,ZT,beq_iff_eq]at h3<;>try (cases h3;done)
     obtain⟨⟨⟨⟨rfl,rfl⟩,Xn⟩,sE⟩,hz⟩:=h3;obtain⟨dc,es,g1,g2,g3⟩:=gp;exists dc,es,o0 hI hz g1,g2;rcases g3 with⟨a1,a2⟩|⟨id,cs,aV,mn,a1,a2,a3,a4,a5,a6,a7⟩
     .exact .inl ⟨by rw[xu];exact a1,a2⟩
     .exact .inr ⟨id,cs,aV,mn,by rw[xu];exact a1,a2,a3,a4,a5,a6,λj x y hx hy=>(a7 j x y hx hy).wide λh=>by subst h;simpa using sE⟩
    |mp kt z=>
     cases o'<;>simp only[BS,VM,ZT]at h3<;>try (cases h3;done)
     obtain⟨⟨rfl,hz⟩,JJ⟩:=h3;rw[oj]at gp⊢;split at gp
     .rename_i iR;rw[aW iR];rcases gp with⟨h0,id,ba,p,g1,g2,g3,g4⟩|⟨h0,id,m,ds,seen,rem,aE,g1,g2,g3,_,g5,g6⟩
      .exact .inl ⟨h0,id,ba,p,o0 hI hz g1,by rw[xu];exact g2,g3,g4⟩
      .have pz:UO kt 1000000=af:=by
        cases hb:UO kt 1000000 with
        |false=>rfl
        |true=>exact bH (show kt<1000000 by simpa using hb) (Nat.not_lt.2 h0)
       have PU:=l2 _ (ZU ho);simp only[pz,XP]at PU;rw[pz,XP]at JJ;unfold aqA at PU;split at PU<;>try (cases PU;done)
       rename_i rM z2 aq1;refine .inr ⟨h0,id,m,ds,seen,rem,aE,o0 hI hz g1,by rw[xu];exact g2,g3,⟨rM,z2,aq1⟩,?_,g6⟩;unfold mE;rw[aW (by unfold isLive;rw[aq1])];unfold It at JJ;split at JJ<;>try (cases JJ;done)
       rename_i e' q7;have:=ZR JJ;rw[q7,<-this];exact g5
     .rename_i iR;rw[aY iR];obtain⟨id,es,clock,ds,g1,g2,g3,g4,g5⟩:=gp;exact⟨id,es,clock,ds,o0 hI hz g1,by rw[xu];exact g2,g3,g4,g5⟩
    |lp c st sn=>
     cases o'<;>simp only[BS,VM,ZT]at h3<;>try (cases h3;done)
     obtain⟨⟨rfl,rfl⟩,q_⟩:=h3;obtain⟨id,rc,tm,iN,s,p,f,g1,g2,g3,g4,g5,g6⟩:=gp;have hrefs:=l2 _ (ZU ho);simp only at hrefs;rw[US]at hrefs;refine⟨id,rc,tm,iN,s,p,f,by rw[xu];exact g1,g2,g3,g4,g5,λq hq=>?_⟩;obtain⟨q',ux,hqq⟩:=aHx q_ hq;simp only[VM,ZT]at hqq;exists hqq.1.2;rw[hqq.1.1];exact aG8 hI hJ c2 (λk hk=>hrefs k (XC.2 ⟨q,hq,hk⟩)) hqq.2 (g6 q' ux).2
  .obtain⟨_,a,rP,Cp⟩:=RH h1;obtain⟨_,b,dL,fD⟩:=RH h2;have:=hJ.inj a b id Cp fD;subst this;exact aq0 c3 rP dL
  .obtain⟨iU,a,rP,Cp⟩:=RH hk;obtain⟨o,ho,_⟩:=aHR iU;exact⟨gr ho,(hJ.lt a id Cp).2⟩
end
variable{l:aj YX}{p:Bool×aj (Cl SE)}
section
def J.XD(hJ:J Cx (aM P O) R X Γ L E G)(h:VR (aM P O) R X L G ((E d).at t) pv):J Cx (aM P O) R X (Rh d t pv Γ) L E G:=by
 refine{hJ with slot:=λd' t' JW zG=>?_};rcases oK zG with⟨rfl,rfl,rfl⟩|⟨_,h3⟩
 .exact h
 .exact hJ.slot d' t' JW (NW Γ h3).2
def adH(hJ:JQQ Cx P O R X V E G)(d t:Nat):∃R',J Cx (aM P O) R' X (Dz d t V).g (Dz d t V).l E G/\(Dz d t V).n=V.n/\(Dz d t V).ln=V.ln:=by
 unfold Dz;split
 .rename_i k hg;split
  .rename_i s st cut fr es hk;have⟨R',h1,h2,h3⟩:=AB hJ k;have hv:=hJ.slot d t _ hg;have Np:dT (aM P O) R' X (qt k V).l G ((E d).at t) (.sr k):=h1.W9 hv;have⟨y,a1,a2,a3⟩:=aGt h2 (h3 _ _ _ _ _ hk) Np;refine⟨R',h2.XD (pv:=.one (.w fr es)) ⟨y,a1,a2,a3⟩,?_,?_⟩
   .rw[K5];exact h1.2.1
   .rw[adG];exact h1.2.2.1
  grind
 grind
theorem Fv:∀(ws:aj (Nat×Nat×Nat)) {V:SS} {R:Rs},JQQ Cx P O R X V E G->∃R',J Cx (aM P O) R' X (settle ws V).g (settle ws V).l E G/\(settle ws V).n=V.n/\(settle ws V).ln=V.ln
 |[],V,R,hJ=>⟨R,hJ,rfl,rfl⟩
 |(d,t,m)::ws,V,R,hJ=>by
  simp only[settle];split
  .have⟨R1,h1,h2,h3⟩:=adH hJ d t;have⟨R2,h4,h5,h6⟩:=Fv ws h1
   grind
  .exact Fv ws hJ
theorem Bu(L:aj (LO SE)):∀(g:aj (Nat×Nat×PV SE)) {V:SS} {R:Rs},JQQ Cx P O R X V E G->∃R',J Cx (aM P O) R' X (Bo L g V).g (Bo L g V).l E G/\(Bo L g V).n=V.n/\(Bo L g V).ln=V.ln
 |[],V,R,hJ=>⟨R,hJ,rfl,rfl⟩
 |(d,t,pv)::g,V,R,hJ=>by
  unfold Bo;split
  .grind
  .rename_i d' t' k g' hh;cases hh;split<;>try exact Bu L g hJ
   split<;>try exact Bu L g hJ
   rename_i k' _;have⟨R1,h1,h2,_⟩:=AB hJ k';have⟨R2,h4,h5,h6⟩:=Bu L g h2;exact⟨R2,h4,h5.trans h1.2.1,h6.trans h1.2.2.1⟩
  .rename_i p g' _ hh;cases hh;exact Bu L g hJ
def aje(ws:aj (Nat×Nat×Nat))(H:SS)(hJ:JQQ Cx P O R X V E G):∃R',J Cx (aM P O) R' X (Mg ws H V).g (Mg ws H V).l E G/\(Mg ws H V).n=V.n/\(Mg ws H V).ln=V.ln:=by
 have⟨R1,h1,h2,h3⟩:=Fv ws hJ;have⟨R2,h4,h5,h6⟩:=Bu H.l H.g h1;exact⟨R2,h4,h5.trans h2,h6.trans h3⟩
theorem XE(hJ:J Cx (aM P O) R X Γ L E G)(hx:dT (aM P O) R X L G x (.nl b s)):
 J Cx (aM P O) R X Γ (L++[.row s af af af (.tr s .an)]) E G/\ni (aM P O) (aM P O) R X L G R X (L++[.row s af af af (.tr s .an)]) G (λ_=>False)/\dT (aM P O) R X (L++[.row s af af af (.tr s .an)]) G x (.sr L.length):=by
 have⟨hs,hx⟩:=hx;have hz:(SE.tr s .an).den P O=aa (.tree s []):=by simp[UU,hs]
 have⟨h1,h2⟩:=hJ.DE (fr:=af) hs hz;exact⟨h2,h1,s,af,af,af,_,[],az,hz,.inl ⟨z8 hJ (XS _),rfl,aI⟩⟩
theorem All2.set{B β:Type}{r:B->β->Prop}:∀{as:aj B} {bs:aj β} {i:Nat} {b:β},All2 r as bs->(∀a,as[i]?=aa a->r a b)->All2 r as (bs.set i b)
 |[],[],i,b,_,_=>by grind
 |a::as,b'::bs,i,b,h,hr=>by
  cases i with
  |zero=>exact⟨hr a rfl,h.2⟩
  |succ i=>exact⟨h.1,All2.set h.2 λa ha=>hr a aI⟩
 |[],_::_,_,_,h,_=>h.elim
 |_::_,[],_,_,h,_=>h.elim
def af2(hJ:JQQ Cx P O R X V E G)(d t j:Nat):J Cx (aM P O) R X (Hl d t j V).g (Hl d t j V).l E G/\(Hl d t j V).n=V.n/\(Hl d t j V).ln=V.ln:=by
 unfold Hl;split
 .rename_i b s hg;split
  .have⟨h1,_,h2⟩:=XE hJ (x:=(E d).at t) (b:=b) (s:=s) (hJ.slot d t _ hg);exact⟨h1.XD (pv:=.one (.sr V.l.length)) h2,rfl,rfl⟩
  grind
 .rename_i cs hg;split
  .rename_i b s hc;have⟨xs,EX,xG⟩:=hJ.slot d t _ hg;have⟨x,hx,hr⟩:=xG.Gz hc;have⟨h1,h3,h2⟩:=XE hJ hr;refine⟨h1.XD (pv:=.ag _) ⟨xs,EX,(xG.mono λ_ _ di=>di.step h3 (Cl.bP _)).set λa ha=>?_⟩,rfl,rfl⟩
   grind
  grind
 grind
def af3(hJ:J Cx (aM P O) R X V.g V.l E G)(k j:Nat):∃R',J Cx (aM P O) R' X (Hm k j V).g (Hm k j V).l E G/\(Hm k j V).n=V.n/\(Hm k j V).ln=V.ln:=by
 unfold Hm;split
 .rename_i cs hk;split<;>try exact⟨R,hJ,rfl,rfl⟩
  rename_i b s hc;have⟨id,dR,g1,g2,g3,g4⟩:=hJ.obj k _ hk;have⟨x,hx,hr⟩:=g4.Gz hc;have⟨h1,h3,h2⟩:=XE hJ hr;have gR:=gr hk;have lO:(V.l++[LO.row s af af af (SE.tr s SE.an)])[k]?=aa (.var cs):=by rw[VJ gR];exact hk
  obtain⟨iP,cC⟩:=h1.wh (R':=R) (bad:=λ_=>False) (mW:=.var (cs.set j (.sr V.l.length))) (gO:=.cells dR 0 0) g1 lO (λ_ _=>rfl)
   (λm hm=>by rw[g2]at hm;cases hm) (λm _ _ _ hm=>by rw[g2]at hm;cases hm) (λm _ _ _ hm=>by rw[g2]at hm;cases hm)
   (λ_ _=>⟨_,rfl⟩) (λ_ _ h=>by cases h) (λ_ _ _ _ _ h=>by cases h) (λ_ _ pv _=>pv.bP) (λ_ o _ _=>o.bP)
   (λiP=>⟨id,dR,g1,g2,by rw[St.eF,aW rfl],((g4.mono λ_ _ di=>di.step h3 (Cl.bP _)).set λa ha=>by rw[hx]at ha;cases ha;exact h2).mono λ_ _ di=>di.step iP (Cl.bP _)⟩)
  have Cg:G.put id (.cells dR 0 0)=G:=by
   unfold St.put
   have:=T.WF.ext (hJ.wf.set _ _) hJ.wf λi=>by
    rw[T.jS];split<;>try rfl
    rename_i hh;subst hh;exact g3.symm
   rw[this]
  rw[Cg]at cC
  have GB:(V.l++[LO.row s af af af (SE.tr s SE.an)]).set k (LO.var (cs.set j (Cl.sr V.l.length)))=V.l.set k (LO.var (cs.set j (Cl.sr V.l.length)))++[LO.row s af af af (SE.tr s SE.an)]:=by
   rw[List.set_append_left _ _ gR]
  rw[GB]at cC;exact⟨R,cC,rfl,rfl⟩
 .split
  .have⟨R',h1,h2,h3⟩:=AB hJ k;exact⟨R',h2,h1.2.1,h1.2.2.1⟩
  .exact⟨R,hJ,rfl,rfl⟩
 .exact⟨R,hJ,rfl,rfl⟩
theorem IJ(h:Hint):∀(l:aj (Nat×Nat×Nat)) {V:SS},JQQ Cx P O R X V E G->J Cx (aM P O) R X (zU h l V).g (zU h l V).l E G/\(zU h l V).n=V.n/\(zU h l V).ln=V.ln
 |[],V,hJ=>⟨hJ,rfl,rfl⟩
 |(d,t,j)::l,V,hJ=>by
  simp only[zU];split
  .have⟨h1,h2,h3⟩:=af2 hJ d t j;have⟨h4,h5,h6⟩:=IJ h l h1
   grind
  .exact IJ h l hJ
theorem aHa:∀(l:aj (Nat×Nat)) {V:SS} {R:Rs},JQQ Cx P O R X V E G->∃R',J Cx (aM P O) R' X (zV l V).g (zV l V).l E G/\(zV l V).n=V.n/\(zV l V).ln=V.ln
 |[],V,R,hJ=>⟨R,hJ,rfl,rfl⟩
 |(k,j)::l,V,R,hJ=>by
  simp only[zV];have⟨R1,h1,h2,h3⟩:=af3 hJ k j;have⟨R2,h4,h5,h6⟩:=aHa l h1
  grind
def aGL(h:Hint)(hJ:JQQ Cx P O R X V E G):∃R',J Cx (aM P O) R' X (zW h (settle h.zQ V)).g (zW h (settle h.zQ V)).l E G/\(zW h (settle h.zQ V)).n=V.n/\(zW h (settle h.zQ V)).ln=V.ln:=by
 have⟨R',h1,h2,h3⟩:=Fv h.zQ hJ;have⟨h4,h5,h6⟩:=IJ h h.Ps.reverse h1;have⟨R2,h7,h8,h9⟩:=aHa h.D4.reverse h4;exact⟨R2,h7,h8.trans (h5.trans h2),h9.trans (h6.trans h3)⟩
variable{Bp:aj (Nat×Nat)}{c:V4}
theorem aHo{av:aj (PV SE)}{t:VK}(h:Mi cfg g bs av=aa (t,c,Bp)):bs=[]/\av=[.one (.fn c Bp)]/\guardOf cfg g=aa t:=by
 unfold Mi at h
 grind [Lq]
theorem K8(h:KM d V=aa j):dk d 2 V.g=aa (.one (.pt j 0 1))/\V.l[j]?=aa (.var [.v (.i 0)]):=by
 grind [KM]
def aHP(hJ:JQQ Cx P O R X V E G)(h:KM d V=aa j){vY:Nat}(he:(E d).at 2=.ptr vY 0 0 1):X j=aa vY/\R vY=ah/\G.at vY=aa (.cells [.int 0] 0 0):=by
 have⟨hg,hj⟩:=K8 h;have⟨id,cs,h1,h2,h3⟩:=hJ.slot d 2 _ hg;have⟨bY,dR,h4,h5,h6,h7⟩:=hJ.obj j _ hj;rw[he]at h3;have hid:id=vY:=aI;subst hid;rw[h1]at h4;cases h4;exists h1,h5;rw[h6]
 match dR,h7 with
 |[x],h7=>
  have⟨y,h8,h9,_⟩:=h7.1;simp only[UU,ZY]at h8;subst h8;rw[dH h9]
def J.af4(hJ:J Cx (aM P O) R X Γ L E G){cL:aj (Cl SE)}{dR:aj IV}(h1:X j=aa id)(hj:L[j]?=aa (.var cs))(h2:R id=ah)(hc:All2 (dT (aM P O) R X L G) dR cL):
 J Cx (aM P O) R X Γ (L.set j (.var cL)) E (G.put id (.cells dR 0 0))/\ni (aM P O) (aM P O) R X L G R X (L.set j (.var cL)) (G.put id (.cells dR 0 0)) (λ_=>False):=by
 obtain⟨iP,cC⟩:=hJ.wh (R':=R) (bad:=λ_=>False) (mW:=.var cL) (gO:=.cells dR 0 0) h1 hj (λ_ _=>rfl)
  (λm hm=>by rw[h2]at hm;cases hm) (λm _ _ _ hm=>by rw[h2]at hm;cases hm) (λm _ _ _ hm=>by rw[h2]at hm;cases hm)
  (λ_ _=>⟨_,rfl⟩) (λ_ _ h=>by cases h) (λ_ _ _ _ _ h=>by cases h) (λ_ _ pv _=>pv.bP) (λ_ o _ _=>o.bP)
  (λiP=>⟨id,_,h1,h2,by rw[St.eF,aW rfl],hc.mono λ_ _ di=>di.step iP (Cl.bP _)⟩)
 exact⟨cC,iP⟩
def J.an1(hJ:J Cx (aM P O) R X Γ L E G)(ob gO:Ob):J Cx (aM P O) R (cY X L.length G.n) Γ ((L++[LO.dead]).set L.length LO.dead) E ((G.add ob).put G.n gO)/\
 ni (aM P O) (aM P O) R X L G R (cY X L.length G.n) (L++[LO.dead]) (G.add ob) (λ_=>False)/\
 ni (aM P O) (aM P O) R (cY X L.length G.n) (L++[LO.dead]) (G.add ob) R (cY X L.length G.n) ((L++[LO.dead]).set L.length LO.dead) ((G.add ob).put G.n gO) (λ_=>False):=by
 have hs:=He hJ ob .dead;have cC:=hJ.oW ob .dead trivial;have hn:=hJ.ur
 obtain⟨ki,gD⟩:=cC.wh (k:=L.length) (id:=G.n) (lo:=.dead) (R':=R) (bad:=λ_=>False) (mW:=.dead) (gO:=gO) (by simp[cY]) az (λ_ _=>rfl)
  (λm hm=>by rw[hn]at hm;cases hm) (λm _ _ _ hm=>by rw[hn]at hm;cases hm) (λm _ _ _ hm=>by rw[hn]at hm;cases hm)
  (λ_ h=>by cases h) (λ_ _ h=>by cases h) (λ_ _ _ _ _ h=>by cases h) (λ_ _ pv _=>pv.bP) (λ_ o _ _=>o.bP) (λ_=>trivial)
 exact⟨gD,hs,ki⟩
def aHC(hC:lC P C)(cH:qN Cx P C Q self)(hJ:JQQ Cx P O R X V E G)(hn:O.length=V.n)(hK:K.length=V.lv)(c7:(E d).n=V.nt){t:VK}{cl:IV}(hg:g<P.funcs.size)
 (kW:VR (aM P O) R X V.l G cl (.one (.fn c Bp)))(hs:(WY P cfg self d f0 dst g t c Bp V k).sat P C Q K O)
 (hk:∀(pv:PV SE) (V':SS) I K' R' bA E' aB v,Bt Cx P d E K O V.nt V' I K' R' bA E' aB->E' d=E d->VR (aM P (O++I)) R' bA V'.l aB v pv->(k pv V').sat P C Q K' (O++I)->∃b,∀N,b<=N->aB.n<=N/\RW N v aB):
 ∃b,∀N,b<=N->eO P N g [cl] G (RW N):=by
 have⟨xs,z,hx,hc,hs⟩:=hs;obtain⟨t',rfl,aBm⟩:=(hC _ _ _ _ hc).2.2.2.1 g hg rfl
 have htt:t'=t:=by
  unfold lA at hx;simp[fZ,UU]at hx;omega
 subst htt;have hJu:JQQ Cx P (O++[z]) R X V E G:=hJ.up λe z h=>SE.eI P e h;have aBn:VR (aM P (O++[z])) R X V.l G cl (.one (.fn c Bp)):=kW;have mb:All2 (dT (aM P (O++[z])) R X V.l G) [.int 0] [.v (.i 0)]:=⟨⟨.int 0,rfl,.raw _,rfl⟩,trivial⟩;have dc:=He hJu (.cells [.int 0] 0 0) (.var [.v (.i 0)])
 have cC:J Cx (aM P (O++[z])) R (cY X V.l.length G.n) V.g (V.l++[.var [.v (.i 0)]]) E (G.add (.cells [.int 0] 0 0)):=
  hJu.oW _ _ ⟨G.n,[.int 0],by simp[cY],hJu.ur,az,mb.mono λ_ _ di=>di.step dc (Cl.bP _)⟩
 have K9:VR (aM P (O++[z])) R (cY X V.l.length G.n) (V.l++[.var [.v (.i 0)]]) (G.add (.cells [.int 0] 0 0)) (.ptr G.n 0 0 1) (.one (.pt V.l.length 0 1)):=⟨G.n,[.v (.i 0)],by simp[cY],az,rfl⟩;have aBo:=aBn.step dc (PV.bP _)
 let e1:aK:=(⟨3,.lf⟩:aK).put (aa 2) (.ptr G.n 0 0 1)
 have pQ:e1.at 2=.ptr G.n 0 0 1:=dm (by decide);have aq2:e1.n=3:=gu ..
 have gD:J Cx (aM P (O++[z])) R (cY X V.l.length G.n) ((d+1,2,.one (.pt V.l.length 0 1))::fR (d+1) V.g) (V.l++[.var [.v (.i 0)]]) (nM E (d+1) e1) (G.add (.cells [.int 0] 0 0)):=by
  refine{cC with slot:=λd' t pv zG=>?_};rcases oK zG with⟨rfl,rfl,rfl⟩|⟨cg,zG⟩
  .rw[cI,pQ];exact K9
  .have⟨h1,h2⟩:=r7 zG;rw[gj _ _ _ h1];exact cC.slot d' t pv h2
 have dX:∃fn,P.funcs[c]?=aa fn/\fn.body.isSome=ab/\(fn.name != "runtime.NumGoroutine")=ab:=by
  unfold rj at hs;split at hs<;>try cases hs
  rename_i fn dX;split at hs<;>try cases hs
  rename_i body hb;split at hs<;>try cases hs
  split at hs<;>try cases hs
  rename_i sK;simp only[VM]at sK;exact⟨fn,dX,by simp[hb],sK.2⟩
 have⟨fn,dX,hb,rZ⟩:=dX;have⟨ys,rX,xP⟩:=pV (av:=[]) aBo dX hb rZ;rw[Qy]at rX
 obtain⟨_,_,_,_,b,hcx⟩:=CH (d:=d+1) (V:={V with n:=V.n+1,l:=V.l++[.var [.v (.i 0)]],g:=(d+1,2,.one (.pt V.l.length 0 1))::fR (d+1) V.g,nt:=3}) (O:=O++[z]) (E:=nM E (d+1) e1)
  (RW:=λN _ dJ=>dJ.at G.n=aa (.cells [.int 0] 0 0)/\dJ.n<=N/\RW N (.int 0) (dJ.put G.n (.cells [.int 0] 0 0)))
  (PW:=λN v dJ=>∃u,v=.eT t' (.agg [.raw u])/\aw (.raw u)=ab/\dJ.at G.n=aa (.cells [.int 0] 0 0)/\dJ.n+1<=N/\G.n<dJ.n/\RW N (.raw u) (Dy dJ G.n (.raw u)))
  cH gD (by simp[hn]) hK (by rw[cI,aq2]) xP hs (by
   intro pv V' I K' R' bA E' aB v hf qI hv cB;split at cB<;>first|(cases cB)|skip
   rename_i j hj;have hE1:(E' (d+1)).at 2=.ptr G.n 0 0 1:=by rw[qI,cI,pQ]
   have⟨h1,h2,h3⟩:=aHP hf.hJ hj hE1;have⟨_,fQ⟩:=K8 hj;obtain⟨yC,_⟩:=hf.hJ.af4 h1 fQ h2 (dR:=[.int 0]) (cL:=[.v (.i 0)]) ⟨⟨.int 0,rfl,.raw _,rfl⟩,trivial⟩;have BU:E' d=E d:=by rw[hf.hE d ak,gj _ _ _ ak]
   obtain⟨b,hb⟩:=hk (.one (.v (.i 0))) {V' with g:=fR (d+1) V'.g,nt:=V.nt,l:=V'.l.set j (.var [.v (.i 0)])} ([z]++I) K' R' bA E' (aB.put G.n (.cells [.int 0] 0 0)) (.int 0)
    ⟨hf.hK,hf.iU,rfl,by rw[<-ZZ];exact xQ (V:={V' with l:=V'.l.set j (.var [.v (.i 0)])}) yC (d+1),by rw[<-ZZ];exact hf.hn,λi hi=>by rw[hf.hE i ak,gj _ _ _ ak],by rw[BU]⟩ BU
    (by rw[<-ZZ];exact⟨.int 0,rfl,.raw _,rfl⟩) (by rw[<-ZZ];exact cB)
   exact⟨max b aB.n,λN hN=>⟨ak,h3,ak,(hb N ak).2⟩⟩) (by
   intro tt pv V' I K' R' bA E' aB v hf qI hv cB;split at cB<;>first|(cases cB)|skip
   rename_i e j hj;split at cB<;>try exact cB.elim
   rename_i htt;have:=ZR htt;subst this;have⟨⟨y0,PZ⟩,cB⟩:=cB;have hE1:(E' (d+1)).at 2=.ptr G.n 0 0 1:=by rw[qI,cI,pQ]
   have⟨h1,h2,h3⟩:=aHP hf.hJ hj hE1;have⟨_,fQ⟩:=K8 hj;obtain⟨vs,rfl,fk⟩:=hv
   obtain⟨x0,rfl,y,Bi,JV,Nh⟩:∃x0,vs=[x0]/\∃y,aM P (O++[z]++I) e=aa y/\lr x0 y/\aw y=ab:=by
    match vs,fk with
    |[x0],fk=>exact⟨x0,rfl,fk.1⟩
   have hyr:aZ y=ab:=by
    have aiM:=Bi;simp only[UU,aiM,Z8]at PZ;split at PZ
    .assumption
    .cases PZ
   obtain⟨u,rfl⟩:∃u,y=.raw u:=by
    cases y<;>simp[aZ]at hyr;exact⟨_,rfl⟩
   have hxu:=dH JV;subst hxu;have⟨TV,dz,oT⟩:=hf.hJ.an1 (.cells [.int 0] 0 0) (.cells [.raw u] 0 0);have aBp:=gr fQ;have Y7:cY bA V'.l.length aB.n j=aa G.n:=by simp[cY,show j≠V'.l.length by omega,h1]
   have aBq:((V'.l++[LO.dead]).set V'.l.length LO.dead)[j]?=aa (.var [.v (.i 0)]):=by
    rw[YQ ak,VJ aBp];exact fQ
   have⟨hJb,_⟩:=TV.af4 Y7 aBq h2 (dR:=[.raw u]) (cL:=[.v e]) ⟨⟨.raw u,Bi,.raw _,Nh⟩,trivial⟩;have aq:=(hf.hJ.lt j G.n h1).2;have BU:E' d=E d:=by rw[hf.hE d ak,gj _ _ _ ak]
   obtain⟨b,hb⟩:=hk (.one (.v e)) {V' with g:=fR (d+1) V'.g,nt:=V.nt,l:=((V'.l++[LO.dead]).set V'.l.length LO.dead).set j (.var [.v e])} ([z]++I) K' R' (cY bA V'.l.length aB.n) E' (Dy aB G.n (.raw u)) (.raw u)
    ⟨hf.hK,hf.iU,rfl,by rw[<-ZZ];exact xQ (V:={V' with l:=((V'.l++[LO.dead]).set V'.l.length LO.dead).set j (.var [.v e])}) hJb (d+1),by rw[<-ZZ];exact hf.hn,λi hi=>by rw[hf.hE i ak,gj _ _ _ ak],by rw[BU]⟩ BU
    (by rw[<-ZZ];exact⟨.raw u,Bi,.raw _,Nh⟩) (by rw[<-ZZ];exact cB)
   refine⟨max b (aB.n+1),λN hN=>⟨ak,u,rfl,Nh,h3,ak,aq,(hb N ak).2⟩⟩)
 refine⟨max b (G.n+1),λN hN=>?_⟩;exact aBm N cl c ys G _ _ _ rX ak (hcx N ak) (λv dJ h=>h) λv dJ h=>h
variable{kx:Kx}
def nO(e:aK)(sk:aj Nat):Prop:=∀t,gT sk t=ab->e.at t=.undef
def nO.nil(e:aK):nO e []:=λ_ h=>by cases h
variable{sk:aj Nat}
theorem nO.put(h:nO e sk)(dst:aF Nat)(x:IV):nO (e.put dst x) (yx sk dst):=by
 cases dst with
 |none=>exact h
 |some d=>
  intro t ht;have⟨h1,h2⟩:=Ax ht;rw[iz h2];exact h t h1
theorem nO.add(h:nO e sk)(hd:∀t,dst=aa t->t<e.n):nO (e.put dst .undef) (Mo sk dst):=by
 cases dst with
 |none=>exact h
 |some d=>
  intro t ht;rcases kE ht with rfl|ht
  .exact dm (hd _ rfl)
  .exact h.put (aa d) .undef t ht
def nO.alw(h:nO e sk)(hs:rp sk ao o=ab):bE o ao e=af:=by
 unfold rp at hs;unfold bE;split at hs<;>try grind
 rename_i j w hg;rw[hg];simp only;split at hs<;>try grind
 rename_i t ht;rw[ht];simp only;rw[h t hs];split<;>rfl
def Ht(Cx:Cs)(P:V5)(C:Cr)(Q:IV->Prop)(cfg:fz)(self:qu)(kx:Kx)(d f0:Nat)(ao:Array YX)(rd:aF Nat)(df:aj Df)(kk:SS->au)(CX:Nat->nN)(sk:aj Nat)(l:aj YX):Prop:=
 ∀(V:SS) O K R X E G,nO (E d) sk->(jF P cfg self kx Cx d f0 af ao sk l V kk).sat P C Q K O->JQQ Cx P O R X V E G->O.length=V.n->K.length=V.lv->(E d).n=V.nt->KS Cx P C Q d E K O V.nt kk (λN e G=>CX N .normal e G)->KP Cx P C Q d E K O V.nt kx (λN v e G=>CX N (.dh v) e G)->
  ∃b,∀N,b<=N->eV P N rd ao l (E d) df G (CX N)
def jY(ih:Ht Cx P C Q cfg self kx d f0 ao rd df kk CX sk l)(rQ:∀x,nO ((E d).put dst x) sk)(hd:∀t,dst=aa t->t<(E d).n){nt:Nat}(c7:(E d).n=nt)(dZ:KS Cx P C Q d E K O nt kk λN e G=>CX N .normal e G)(jC:KP Cx P C Q d E K O nt kx λN v e G=>CX N (.dh v) e G)
 
 (hJ:JQQ Cx P (O++I) R1 fa V1 E1 aG)(hn:(O++I).length=V1.n)(hK:K<+:K1)(iU:K1.length=V1.lv)(ot:V1.nt=nt)(hE:∀j,j<d->E1 j=E j)(qI:E1 d=E d)
 (hx:VR (aM P (O++I)) R1 fa V1.l aG x pv)(hs:(jF P cfg self kx Cx d f0 af ao sk l (V1.da d dst pv) kk).sat P C Q K1 (O++I)):
 ∃b,∀N,b<=N->eV P N rd ao l ((E d).put dst x) df aG (CX N):=by
 have cC:=IG (d:=d) (dst:=dst) hJ hx (by rw[qI];exact hd);have RO:(V1.da d dst pv).nt=nt:=by cases dst<;>exact ot
 have ajf:(V1.da d dst pv).lv=V1.lv:=by cases dst<;>rfl
 have⟨b,hb⟩:=ih (V1.da d dst pv) (O++I) K1 R1 fa _ aG (by rw[cI,qI];exact rQ x) hs cC (by rw[K5];exact hn) (by rw[ajf];exact iU) (by rw[cI,gu,qI,c7,RO]) (by
  rw[RO];exact dZ.fwd hK (λj hj=>by rw[gj _ _ _ ak];exact hE j hj) (by rw[cI,gu,qI])) (by
  rw[RO];exact jC.fwd hK (λj hj=>by rw[gj _ _ _ ak];exact hE j hj) (by rw[cI,gu,qI]))
 refine⟨b,λN hN=>?_⟩;have:=hb N hN;rw[cI,qI]at this;exact this
theorem af5{vD:Bool}(h:D_ P cfg d vD o V=aa (g,dM)):
 ∃c f bs,o.op=.call c/\c.callee=.value f/\cJ P d V 0 f=.one (.fn g bs)/\dM=mK P d V c.args.toList c.argTypes.toList++bs.map (λ(p:Nat×Nat)=>.one (.pt p.1 0 p.2)):=by
 grind [D_]
def On{es:aj SE}(h:lA (P:=P) O (fZ es)=aa vs):All2 (λ(e:SE) y=>e.den P O=aa y) es vs:=by
 induction es generalizing vs with
 |nil=>
  simp only[lA,fZ,UU,ZY]at h;subst h;trivial
 |cons e es ih=>
  simp only[lA,fZ,UU]at h;cases h1:e.den P O with
  |none=>grind
  |some x=>
   rw[h1]at h;cases h2:(fZ es).den P O with
   |none=>grind
   |some y=>
    simp only[h2,Z8]at h;cases y<;>simp only at h<;>try grind
    cases h;exact⟨h1,ih (by unfold lA;rw[h2])⟩
def ajg(h:∀fn,P.funcs[g]?=aa fn->fn.body.isSome=ab->(fn.name != "runtime.NumGoroutine")=ab->False):∃n,Mj P cfg self kx d f0 dst g dM V k=.fail n:=by
 unfold Mj;split
 .split
  .split
   all_goals grind
  simp
 .unfold rj;split
  .split
   .split
    all_goals simp_all
   simp
  simp
def ajh(hC:lC P C)(cH:qN Cx P C Q self)(hJ:JQQ Cx P O R X V E G)(hn:O.length=V.n)(hK:K.length=V.lv)(c7:(E d).n=V.nt)(cj:All2 (VR (aM P O) R X V.l G) av dM)
 (hs:(Mj P cfg self kx d f0 dst g dM V k).sat P C Q K O)
 (hk:∀(pv:PV SE) (V':SS) I K' R' bA E' aB v,Bt Cx P d E K O V.nt V' I K' R' bA E' aB->E' d=E d->VR (aM P (O++I)) R' bA V'.l aB v pv->(k pv V').sat P C Q K' (O++I)->∃b,∀N,b<=N->aB.n<=N/\RW N v aB)
 (Co:∀t (pv:PV SE) (V':SS) I K' R' bA E' aB v,Bt Cx P d E K O V.nt V' I K' R' bA E' aB->E' d=E d->VR (aM P (O++I)) R' bA V'.l aB v pv->(kx t pv V').sat P C Q K' (O++I)->∃b,∀N,b<=N->aB.n<=N/\PW N (.eT t v) aB):
 ∃fn,P.funcs[g]?=aa fn/\fn.body.isSome=ab/\(fn.name != "runtime.NumGoroutine")=ab/\∃b,∀N,b<=N->yv P N g av G (RW N) (PW N):=by
 unfold Mj at hs;split at hs<;>try exact CH cH hJ hn hK c7 cj hs hk Co
 rename_i t c Bp jm;obtain⟨_,rfl,_⟩:=aHo jm;split at hs<;>try cases hs
 rename_i fn dX;split at hs<;>try exact hs.elim
 rename_i dj;simp only[VM]at dj
 match av,cj with
 |[cl],cj=>
  have⟨b,hb⟩:=aHC hC cH hJ hn hK c7 (Xh.1 dX).1 cj.1 hs hk;exact⟨fn,dX,dj.1,dj.2,b,λN hN=>(hb N hN).toX⟩
def aji(hC:lC P C)(cH:qN Cx P C Q self)(hJ:JQQ Cx P O R X V E G)(hn:O.length=V.n)(hK:K.length=V.lv)(c7:(E d).n=V.nt)(cj:All2 (VR (aM P O) R X V.l G) av dM)
 (hd:∀t,dst=aa t->t<(E d).n)
 {k:SS->au}(hs:(Mk P cfg self kx d f0 dst g dM V k).sat P C Q K O)
 (hk:∀(H:SS) vs R' bA E' aB v,JQQ Cx P (O++vs) R' bA H E' aB->(O++vs).length=H.n->H.lv=V.lv->H.nt=V.nt->(∀j,j<d->E' j=E j)->E' d=(E d).put dst v->(k H).sat P C Q K (O++vs)->∃b,∀N,b<=N->aB.n<=N/\RW N v aB)
 (Co:∀t (pv:PV SE) (V':SS) I K' R' bA E' aB v,Bt Cx P d E K O V.nt V' I K' R' bA E' aB->E' d=E d->VR (aM P (O++I)) R' bA V'.l aB v pv->(kx t pv V').sat P C Q K' (O++I)->∃b,∀N,b<=N->aB.n<=N/\PW N (.eT t v) aB):
 ∃fn,P.funcs[g]?=aa fn/\fn.body.isSome=ab/\(fn.name != "runtime.NumGoroutine")=ab/\∃b,∀N,b<=N->yv P N g av G (RW N) (PW N):=by
 simp only[Mk]at hs;split at hs<;>try cases hs
 refine ajh (V:={V with lv:=V.lv+1}) hC cH hJ hn (by simp[hK]) c7 cj hs ?_ λt pv V' I K' R' bA E' aB v hf=>Co t pv V' I K' R' bA E' aB v ⟨(aJ5 K _).trans hf.hK,hf.iU,hf.c7,hf.hJ,hf.hn,hf.hE,hf.J2⟩;intro pv V' I K' R' bA E' aB v hf qI hv cB;have cC:=IG (d:=d) (dst:=dst) hf.hJ hv (by rw[qI];exact hd);obtain⟨R2,gD,DU,_⟩:=aGL _ cC;split at cB
 .rename_i es fJ hi;have⟨vs,p,h1,h2,h3⟩:=cB;obtain⟨bf,yC⟩:=RN (vH:=O) gD hn ⟨I,rfl⟩ hi (On h1);have⟨t,ht⟩:=hf.hK;rw[<-ht,ZZ,Ub ak,hK,aK8]at h2;simp only[To,aJF,ZY]at h2;subst h2;exact hk _ vs R2 _ _ aB v yC (by rw[List.length_append,bf,hn]) rfl rfl (λj hj=>by rw[gj _ _ _ ak];exact hf.hE j hj) (by rw[cI,qI]) h3.2
 .cases cB
variable{e y:SE}
theorem aaI(h:(SE.rws e).den P O=aa z):∃s es,e.den P O=aa (.tree s es)/\z=.tree s es/\∀e∈es,∀c∈aD e,aZ c=ab:=by
 simp only[UU,ZS]at h
 grind
def aaJ(Cx:Cs)(P:V5)(C:Cr)(Q:IV->Prop)(K:aj (aj IV->Prop))(E:Nat->aK)(O:aj IV)(lv:Nat×Nat)(k:PV SE->SS->au)(KW:Nat->IV->St->Prop):Prop:=
 ∀(V1:SS) (I:aj IV) (R1:Rs) (fa:Ph) (aG:St) (x:IV) (pv:PV SE),JQQ Cx P (O++I) R1 fa V1 E aG->V1.ln=lv->(O++I).length=V1.n->V1.ln=lv->VR (aM P (O++I)) R1 fa V1.l aG x pv->(k pv V1).sat P C Q K (O++I)->∃b,∀N,b<=N->KW N x aG
def ajj{cs:aj IV}(h:bZ fr R G x (.agg cs)):∃xs,x=.agg xs/\All2 (bZ fr R G) xs cs:=by
 cases h with
 |agg v7 _ hl hh=>exact⟨v7,rfl,.mk hl hh⟩
 |pure _ hf hp=>
  refine⟨cs,rfl,.mk rfl λi a b h1 h2=>?_⟩;rw[h1]at h2;cases h2;cases hp with
  |agg _ hh=>exact .pure a hf (hh a (ZU h1))
def IK{t:VK}{f:au}(hz:e.den P O=aa z)(hc:lr x z)(hs:(wz P t e f).sat P C Q K O):f.sat P C Q K O/\VR (aM P O) R X L G x (ofType P t e):=by
 unfold wz at hs;unfold ofType;by_cases ha:isAgg P t=ab
 .rw[aW ha]at hs;have⟨⟨y,hy⟩,hk⟩:=hs;simp only[UU,hz,Z8]at hy;split at hy
  .rename_i cs;split at hy
   .rename_i sK;obtain⟨xs,rfl,pA⟩:=ajj hc;exists hk;rw[aW ha];refine⟨xs,rfl,.mk (by simp_all[pA.len]) λi a b h1 h2=>?_⟩;have hi:=(Z5.1 h1).1;rw[pA.len]at hi;rw[Z7,ND ak]at h2;simp only[ZO,ZY]at h2;subst h2;have PK:=UN hi;have bM:=(US.1 sK.2) _ (Z4 hi);exact⟨cs[i],by simp[UU,hz,PK,yA,bM],pA.get h1 PK,bM⟩
   grind
  grind
 .rw[aY ha]at hs;have⟨⟨y,hy⟩,hk⟩:=hs;have⟨h1,h2⟩:=uC hy;rw[hz]at h1;cases h1;rw[aY ha];exact⟨hk,z,hy,hc,h2⟩
theorem RP:∀{zs:aj SE} {v:IV},(fZ zs).den P O=aa v->∃ys,v=.agg ys/\All2 (λ(z:SE) y=>z.den P O=aa y) zs ys
 |[],v,h=>by
  simp only[fZ,UU,ZY]at h;exact⟨[],h.symm,trivial⟩
 |z::zs,v,h=>by
  have⟨x,hx,h⟩:=ZS.1 h;have⟨w,hw,h⟩:=ZS.1 h;obtain⟨ys,rfl,xP⟩:=RP hw;simp only[ZY]at h;exact⟨x::ys,h.symm,hx,xP⟩
theorem aIy:∀(av:aj (PV SE)),av=(xM av).1.map (λp=>PV.one (Cl.pt p.1 0 p.2))++(xM av).2
 |[]=>rfl
 |pv::r=>by
  unfold xM;split
  .rename_i k ext r' h;cases h;simp only[ZM,T7];rw[<-aIy r]
  .simp
theorem adR:∀{l:aj Nat},distinct l=ab->l.Nodup
 |[],_=>List.nodup_nil
 |k::l,h=>by
  simp only[distinct,VM,VH,List.any_eq_false]at h;refine UA.2 ⟨λhm=>?_,adR h.2⟩;exact h.1 k hm az
def ajk(es:aj SE)(h:∀e∈es,∃y,e.den P O=aa y):∃cs:aj IV,All2 (λ(z:SE) y=>z.den P O=aa y) es cs:=by
 induction es with
 |nil=>exact⟨[],trivial⟩
 |cons e es ih=>
  have⟨y,hy⟩:=h e az;have⟨cs,cD⟩:=ih λe he=>h e aI;exact⟨y::cs,hy,cD⟩
theorem aGR(hJ:JQQ Cx P O R X V E G):∀{l:aj (Nat×Nat)} {KN:aj (aj SE)},D9 V l=aa KN->
 ∃ins:aj (aj IV),KN.length=l.length/\ins.length=l.length/\All2 (λ(z:SE) y=>z.den P O=aa y) (KN.map fZ) (ins.map IV.agg)/\
  ∀(i:Nat) (p:Nat×Nat) (cs:aj IV),l[i]?=aa p->ins[i]?=aa cs->∃es:aj SE,V.l[p.1]?=aa (.var (es.map .v))/\cs.length=p.2/\All2 (λ(z:SE) y=>z.den P O=aa y) es cs
 |[],KN,h=>by
  simp only[D9,ZY]at h;subst h;exact⟨[],rfl,rfl,trivial,λi p cs h=>az⟩
 |(k,n)::l,KN,h=>by
  simp only[D9]at h;split at h<;>try grind
  rename_i ds hk;split at h<;>try grind
  rename_i hn;split at h<;>try grind
  rename_i es r q9 hr;simp only[ZY]at h;subst h;have Hf:=Oh q9;have mD:=ZR hn;have⟨ins,h1,h2,h3,h4⟩:=aGR hJ hr;have⟨id,dR,o1,o2,o3,o4⟩:=hJ.obj k _ hk
  have⟨cs,cD⟩:=ajk (P:=P) (O:=O) es λe he=>by
   have⟨q,hq⟩:=YN he;have⟨x,_,hx⟩:=o4.Gz (i:=q) (b:=.v e) aI;have⟨y,hy,_⟩:=hx
   grind
  refine⟨cs::ins,aI,aI,⟨ig cD,h3⟩,λi p cL hp hc=>?_⟩
  grind [cD.len]
theorem aIS:∀{l:aj (Nat×Nat)} {i:Nat} {L:aj (LO SE)},(pM y i l L).length=L.length
 |[],_,_=>rfl
 |(k,n)::l,i,L=>by simp[pM,aIS (l:=l)]
theorem GH:∀{l:aj (Nat×Nat)} {i j:Nat} {L:aj (LO SE)},j∉l.map (·.1)->(pM y i l L)[j]?=L[j]?
 |[],_,_,_,_=>rfl
 |(k,n)::l,i,j,L,h=>by
  simp only[ZM,ZP,not_or]at h;simp only[pM];rw[GH h.2,YQ λhc=>h.1 hc.symm]
theorem aJm:∀{l:aj (Nat×Nat)} {i q:Nat} {p:Nat×Nat} {L:aj (LO SE)},(l.map (·.1)).Nodup->l[q]?=aa p->p.1<L.length->
 (pM y i l L)[p.1]?=aa (.var ((YF p.2).map λj=>.v (.bt (.proj y (i+q+1)) j)))
 |[],_,_,_,_,_,h,_=>by grind
 |(k,n)::l,i,0,p,L,nj,h,aq=>by
  simp at h;subst h;simp only[ZM,UA]at nj;simp only[pM];rw[GH nj.1,List.getElem?_set_self aq]
 |(k,n)::l,i,q+1,p,L,nj,h,aq=>by
  simp only[ZM,UA]at nj;simp only[pM];rw[aJm (q:=q) nj.2 aI aI]
  grind
theorem ac2{B β:Type}{r:B->β->Prop}:∀{bs cs:aj β} {as:aj B},All2 r as (bs++cs)->∃as1 as2,as=as1++as2/\All2 r as1 bs/\All2 r as2 cs
 |[],cs,as,h=>⟨[],as,rfl,trivial,h⟩
 |b::bs,cs,[],h=>h.elim
 |b::bs,cs,a::as,h=>by
  obtain⟨as1,as2,rfl,h1,h2⟩:=ac2 h.2;exact⟨a::as1,as2,rfl,⟨h.1,h1⟩,h2⟩
def an2{a b:aj (aj IV)}(h:a.map IV.agg=b.map IV.agg):a=b:=(List.map_inj_right λx y hh=>aI).1 h
def an3(hC:lC P C)(hJ:JQQ Cx P O R X V E G)(hn:O.length=V.n){l:aj (Nat×Nat)}{aE:aj (PV SE)}
 (hp:All2 (VR (aM P O) R X V.l G) ps (l.map λp=>PV.one (Cl.pt p.1 0 p.2)))(hx:All2 (VR (aM P O) R X V.l G) xs aE)(hs:(aiI P g l aE V k).sat P C Q K O){KW:Nat->IV->St->Prop}(hk:aaJ Cx P C Q K E O V.ln k KW):
 ∃b,∀N,b<=N->eO P N g (ps++xs) G (KW N):=by
 unfold aiI at hs;split at hs<;>try cases hs
 rename_i zs V' KN fn hr K_ dX;split at hs
 .cases hs
 rename_i aBr;have iv:aE.all pL=ab:=by simpa using aBr
 split at hs
 .cases hs
 rename_i aBs;have nj:=adR (by simpa using aBs);split at hs<;>try exact hs.elim
 have⟨_,adI⟩:=u_ (P:=P) (O:=O) (R:=R) (X:=X) (G:=G) hr iv;have⟨ys,c1,c2⟩:=adI hx;have⟨ins,i1,i2,i3,i4⟩:=aGR hJ K_;have⟨us,z,d1,d2,d3⟩:=hs
 have vC:us=.agg (ins.map IV.agg)::ys:=by
  have cQ:All2 (λ(z:SE) y=>z.den P O=aa y) (fZ (KN.map fZ)::zs) (.agg (ins.map IV.agg)::ys):=⟨ig i3,c1⟩;have:=ig cQ;simp only[lA,show SE.ac (fZ (KN.map fZ)) (fZ zs)=fZ (fZ (KN.map fZ)::zs)from rfl,this]at d1;cases d1;rfl
 subst vC;obtain⟨aFH,Cd,outs,z0,e1,rfl,e3,e4,aBt⟩:=(hC _ _ _ _ d2).2.2.1 g (Xh.1 dX).1 rfl;simp only[Tg,IV.agg.injEq]at e1;obtain⟨e1,rfl⟩:=e1;have:=an2 e1;subst this;have yd:outs.length=ins.length:=by have:=congrArg VT e3;simpa using this
 have hup:∀e w,aM P O e=aa w->aM P (O++[IV.aU (z0::outs.map IV.agg)]) e=aa w:=λe w h=>SE.eI P e h;have oZ:(SE.var V.n).den P (O++[IV.aU (z0::outs.map IV.agg)])=aa (IV.aU (z0::outs.map IV.agg)):=by simp[UU,<-hn]
 have aBu:(SE.proj (.var V.n) 0).den P (O++[IV.aU (z0::outs.map IV.agg)])=aa z0:=by simp only[UU]at oZ⊢;rw[oZ];rfl
 refine adD hup hJ (ks:=l.map (·.1)) nj (L':=pM (.var V.n) 0 l V.l) (ins:=ins) (outs:=outs) (by simp[i2]) (λi k cs hk hi=>?_) ⟨by rw[hp.len,Ki,i2],λi cs p hi qF=>?_⟩ c2 aBt yd aIS (λj hj=>GH hj) (λi k cs hk hi=>?_) KW λR' aB v Nl hv=>?_
 .rw[Z7]at hk;obtain⟨p,Bv,rfl⟩:=Lq.1 hk;have⟨es,a1,_,a3⟩:=i4 i p cs Bv hi;refine⟨_,a1,.mk (by rw[Ki,a3.len]) λq c u hc hu=>?_⟩;rw[Z7]at hc;obtain⟨e,he,rfl⟩:=Lq.1 hc;exact⟨e,rfl,a3.get he hu⟩
 .have Fc:i<l.length:=by rw[<-i2];exact(Z5.1 hi).1
  have hli:=UN Fc;have⟨es,a1,a2,a3⟩:=i4 i _ cs hli hi;obtain⟨id,ds,b1,b2,b3⟩:=hp.get qF (by rw[Z7,hli];rfl);exact⟨id,by simp only[Z7,hli];exact b1,by rw[b3,a2]⟩
 .rw[Z7]at hk;obtain⟨p,Bv,rfl⟩:=Lq.1 hk;have Nk:i<ins.length:=by rw[<-yd];exact(Z5.1 hi).1
  have⟨es,a1,a2,_⟩:=i4 i p _ Bv (UN Nk);have aq:=(Z5.1 a1).1;exists _,aJm nj Bv aq
  have kW:cs.length=p.2:=by
   have h5:=congrArg (λq=>q[i]?) e3;simp only[Z7,hi,UN Nk,ZO,ZY]at h5;omega
  refine .mk (by simp[kW]) λq c u hc hu=>?_;have hq:=(Z5.1 hu).1;rw[Z7,ND ak]at hc;simp only[ZO,ZY]at hc;subst hc;exists _,rfl
  have hoi:(z0::outs.map IV.agg)[0+i+1]?=aa (.agg cs):=by
   rw[Yj,List.getElem?_cons_succ,Z7,hi];rfl
  have Od:=e4 cs (ZU hi) u (ZU hu);show(SE.bt _ _).den P _=_;simp only[UU]at oZ⊢;rw[oZ];simp only[Z8,hoi,hu];simp[yA,Od]
 .have⟨g1,g2⟩:=IK (R:=R') (X:=X) (L:=pM (.var V.n) 0 l V.l) (G:=aB) aBu hv d3;exact hk {V with n:=V.n+1,l:=pM (.var V.n) 0 l V.l} [IV.aU (z0::outs.map IV.agg)] R' X aB v _ Nl rfl (by simp[hn]) rfl g2 g1
def aJs(hC:lC P C)(hJ:JQQ Cx P O R X V E G)(hn:O.length=V.n)(hx:dT (aM P O) R X V.l G x (.sr j))
 (hz:All2 (λ(z:SE) y=>z.den P O=aa y) zs ys)(pA:All2 lr xs ys)(hs:(Ml P g zs j V k).sat P C Q K O){KW:Nat->IV->St->Prop}(hk:aaJ Cx P C Q K E O V.ln k KW):
 ∃b,∀N,b<=N->eO P N g (x::xs) G (KW N):=by
 unfold Ml at hs;split at hs<;>try cases hs
 rename_i s fr es hj;split at hs<;>try exact hs.elim
 have adJ:g<P.funcs.size:=jw;have⟨⟨_,hr⟩,us,z,h1,h2,h3⟩:=hs;have⟨s1,me,h4,_,oq⟩:=aaI hr
 have vC:us=.tree s1 me::ys:=by
  have:All2 (λ(z:SE) y=>z.den P O=aa y) (es::zs) (.tree s1 me::ys):=⟨h4,hz⟩;simp only[lA,ig this]at h1
  grind
 subst vC;obtain⟨s2,e2,xs2,bF,g1,rfl,G1⟩:=(hC _ _ _ _ h2).2.1 g adJ rfl;obtain⟨⟨rfl,rfl⟩,rfl⟩:=g1;have⟨_,rO,k1,_,_⟩:=hJ.obj j _ hj;have Cn:es.den P O=aa (.tree s rO):=k1;rw[h4]at Cn;cases Cn;have cC:=hJ.up (lP:=aM P (O++[.tree s bF])) λe y h=>SE.eI P e h
 have dL:dT (aM P (O++[.tree s bF])) R X V.l G x (.sr j):=by
  have hbv:VR (aM P O) R X V.l G x (.one (.sr j)):=hx;exact VR.up hJ hbv λe z h=>SE.eI P e h
 have gD:=cC.acP j;have hjd:(V.l.map (LO.drop j))[j]?=aa (.row s af af fr es):=by simp[hj,LO.drop]
 have fD:=dL.step (NX cC j) (Cl.bP _);have oZ:(SE.var V.n).den P (O++[.tree s bF])=aa (.tree s bF):=by simp[UU,<-hn]
 refine afY gD hjd (SE.eI P es h4) oZ oq fD pA (λd t pv hg=>aH0 hg) (λi o hi cg=>by
  rw[Z7]at hi;obtain⟨o',_,rfl⟩:=Lq.1 hi;exact o'.ra j) G1 KW λR' bA aB v a b=>?_
 exact hk ((({V with n:=V.n+1}:SS).xL j).setObj j (.row s af af af (.var V.n))) [.tree s bF] R' bA aB v (.one (.sr j)) a rfl (by simp[hn,SS.xL,SS.setObj]) rfl b h3
theorem aaK{KW:Nat->IV->St->Prop}(hC:lC P C)(hJ:J Cx (aM P O) R X V.g V.l E G)(hn:O.length=V.n)
 (cj:All2 (VR (aM P O) R X V.l G) xs dM)(hs:(WZ P g dM V k).sat P C Q K O)
 (hk:∀(V1:SS) (I:aj IV) (R1:Rs) (fa:Ph) (aG:St) (x:IV) (pv:PV SE),J Cx (aM P (O++I)) R1 fa V1.g V1.l E aG->V1.ln=V.ln->(O++I).length=V1.n->V1.ln=V.ln->VR (aM P (O++I)) R1 fa V1.l aG x pv->(k pv V1).sat P C Q K (O++I)->∃b,∀N,b<=N->KW N x aG):
 ∃b,∀N,b<=N->eO P N g xs G (KW N):=by
 unfold WZ at hs;split at hs
 .have he:=aIy dM;rw[he]at cj;obtain⟨ps,as,rfl,hp,hx⟩:=ac2 cj;exact an3 hC hJ hn hp hx hs hk
 split at hs<;>try cases hs
 rename_i c aE _;split at hs<;>try cases hs
 rename_i zs V' hr;split at hs
 .cases hs
 have xY:aE.all pL=ab:=aI;cases xs with
 |nil=>cases cj
 |cons x xs=>
  have⟨_,iv⟩:=u_ (P:=P) (O:=O) (R:=R) (X:=X) (G:=G) hr xY;have⟨ys,c1,c2⟩:=iv cj.2;split at hs<;>first|(cases hs)|skip<;>try exact aJs hC hJ hn cj.1 c1 c2 hs hk
  rename_i b s _;have hx:=cj.1;have⟨dc,yE⟩:=hx;have v8:(SE.tr s SE.an).den P O=aa (.tree s []):=by simp[UU,dc]
  have⟨_,gD⟩:=hJ.DE (fr:=af) dc v8;have rU:(V.l++[LO.row s af af af (SE.tr s SE.an)])[V.l.length]?=aa (.row s af af af (SE.tr s SE.an)):=az;exact aJs (V:={V with l:=V.l++[.row s af af af (.tr s .an)]}) hC gD hn (x:=x) ⟨s,af,af,af,_,[],rU,v8,.inl ⟨z8 hJ (XS _),rfl,aI⟩⟩ c1 c2 hs hk
def eO.zQ{f:V4}{RW RW':IV->St->Prop}(h:eO P N f av G RW)(hm:∀v aB,RW v aB->RW' v aB):eO P N f av G RW':=
 λZ us w hi hr=>(h Z us w hi hr).mono λ_ _ ⟨v,aB,h1,h2⟩=>⟨v,aB,hm _ _ h1,h2⟩
theorem aq3{p:IV}(h:kS 11 x p=aa z):x=.raw (.slice ah 0 0):=by
 unfold kS at h
 grind
theorem adL{KW:Nat->IV->St->Prop}(hC:lC P C)(hJ:J Cx (aM P O) R X V.g V.l E G)(hn:O.length=V.n)
 (cj:All2 (VR (aM P O) R X V.l G) xs dM)(hs:(Mn P g dM V k).sat P C Q K O)
 (hk:∀(V1:SS) (I:aj IV) (R1:Rs) (fa:Ph) (aG:St) (x:IV) (pv:PV SE),J Cx (aM P (O++I)) R1 fa V1.g V1.l E aG->V1.ln=V.ln->(O++I).length=V1.n->V1.ln=V.ln->VR (aM P (O++I)) R1 fa V1.l aG x pv->(k pv V1).sat P C Q K (O++I)->∃b,∀N,b<=N->KW N x aG):
 ∃b,∀N,b<=N->eO P N g xs G (KW N):=by
 unfold Mn at hs;split at hs
 rotate_left
 .exact aaK hC hJ hn cj hs hk
 rename_i s aE;split at hs<;>try cases hs
 rename_i zs V' hr;split at hs<;>try exact hs.elim
 rename_i dj;simp only[VM]at dj;have⟨⟨iv,aFI⟩,dc⟩:=dj;have adJ:g<P.funcs.size:=jw;have aBv:0<s:=jw;cases xs with
 |nil=>cases cj
 |cons x xs=>
  have⟨hx,lh⟩:=cj;have⟨_,hx⟩:=hx;subst hx;have⟨_,adI⟩:=u_ (P:=P) (O:=O) (R:=R) (X:=X) (G:=G) hr iv;have⟨ys,c1,c2⟩:=adI lh;have⟨us,z,d1,d2,⟨w,hw⟩,d3⟩:=hs
  have vC:us=.raw (.slice ah 0 0)::ys:=by
   have cQ:All2 (λ(z:SE) y=>z.den P O=aa y) (.raw (.slice ah 0 0)::zs) (.raw (.slice ah 0 0)::ys):=⟨rfl,c1⟩;simp only[lA,ig cQ]at d1
   grind
  subst vC;have oZ:(SE.var V.n).den P (O++[z])=aa z:=by simp[UU,<-hn]
  have hz:z=.raw (.slice ah 0 0):=by
   simp only[UU]at oZ hw;rw[oZ]at hw;exact aq3 hw
  subst hz;have⟨mC,_,_⟩:=(hC _ _ _ _ d2).1 adJ;have rN:kK P 0 g (.raw (.slice ah 0 0)::xs) G (.raw (.slice ah 0 0)) G:=fe.Vc mC ⟨.raw _,c2⟩;obtain⟨b,hb⟩:=hk {V with n:=V.n+1} [.raw (.slice ah 0 0)] R X G (.raw (.slice ah 0 0)) (.one (.nl ab s)) (hJ.up (λe y h=>SE.eI P e h)) rfl aI rfl ⟨aBv,rfl⟩ d3;exact⟨max b G.n,λN hN=>(eO.ofS rN ak).zQ λv aG hv=>aI⟩
def an4{KW:Nat->IV->St->Prop}(hC:lC P C)(hJ:JQQ Cx P O R X V E G)(hn:O.length=V.n){q:Bool}
 (cj:All2 (VR (aM P O) R X V.l G) xs dM)(hs:(if q=ab then Mn P g dM V k else WZ P g dM V k).sat P C Q K O)
 (hk:∀(V1:SS) (I:aj IV) (R1:Rs) (fa:Ph) (aG:St) (x:IV) (pv:PV SE),JQQ Cx P (O++I) R1 fa V1 E aG->V1.ln=V.ln->(O++I).length=V1.n->V1.ln=V.ln->VR (aM P (O++I)) R1 fa V1.l aG x pv->(k pv V1).sat P C Q K (O++I)->∃b,∀N,b<=N->KW N x aG):
 ∃b,∀N,b<=N->eO P N g xs G (KW N):=by
 split at hs
 .exact adL hC hJ hn cj hs hk
 .exact aaK hC hJ hn cj hs hk
end
def St.skip(G:St):St:=⟨G.n+1,G.t⟩
@[simp] theorem St.an5(G:St)(j:Nat):G.skip.at j=G.at j:=rfl
@[simp] theorem St.aq4(G:St):G.skip.n=G.n+1:=rfl
def ajl(h:Inv N Z (G.add ob) w)(h0:∀id,G.n<=id->G.at id=ah):Inv N Z G.skip w:=
 ⟨h.mem,h.sep,h.iO,h.fresh,h.inj,λid o ho=>h.obj id o (by
  rw[St.an5]at ho;rw[St.kB,aY λhc=>by rw[<-hc,h0 _ (XS _)]at ho;cases ho];exact ho),λid hid=>h0 id (by simp at hid;omega)⟩
def an6{cO:Io}{w1:Z0}(h:Le ro Z w G cO w1 (G.add ob)):Le ro Z w G cO w1 G.skip:=
 ⟨h.ext,h.own,h.EV,λ_ h1 _=>h1,λ_ _ _=>rfl,h.BO,h.os,h.tape,h.output,h.size,h.frame,h.zM⟩
variable{RW:IV->St->Prop}{bd jz:Code}{g:Operand}{iN pW:Nat}
def dP.range{CW:nN}{ps:Array Tmp}{f:V4}(rX:kA P (aT e g) [.vA (G.n+1)]=aa (.enter f av))(hN:G.n+2<=N)
 (h:eO P N f av (G.skip.add (.loop .ready ah 0 e.t e.n ps.toList jz bd G.n)) RW)
 (hRW:∀v oI,RW v oI->oI.n<=N/\∃s p f3 tm oE xJ M_ xK qp,oI.at (G.n+1)=aa (.loop s p f3 tm oE xJ M_ xK qp)/\s≠.busy/\
  ∃ex:Ex,ex.HU=af/\(∀t,ex≠.goto t)/\jT ex=p/\CW ex e (oI.put (G.n+1) (.loop .exhausted p f3 tm oE xJ M_ xK qp))):
 dP P N ah (.rangeFunc g ps jz bd) e df G CW:=by
 intro α F Z a w Q hF hi he hd hQ;refine wpIn_rangeFunc λTc _=>?_;obtain⟨w1,cO,ld,marks,i0,l0,yf,Pe,Wa⟩:=aHH (P:=P) (ro:=0) (rd:=ah) (aG:=G.add (.JH af)) (iN:=G.n) (mark:=[.zK G.n]) rfl eE hF hi;have i1:=ajl i0 hi.wf;have l1:=an6 l0
 have U2:Ik α cO w1 G.skip G.n:=by
  have⟨l',dq,hh⟩:=i0.obj G.n (.JH af) az;rw[yf]at dq;cases dq;refine⟨ld,yf,hi.wf _ (XS _),az,?_,hh⟩;rcases l0.own G.n ld.b ⟨0,ld,yf,rfl⟩with⟨e',l',h1,_⟩|h1
  .rw[hi.fresh G.n (XS _) ak e']at h1;grind
  .exact YE hd.1 h1
 have n9:=i1.fresh (G.n+1) (XS _) ak 0;have jE:=qo (l:=⟨w1.heap.size,1,1⟩) n9
 have⟨i2,l2⟩:=i1.G7 (ro:=0) (go:=.loop {state:=.ready,pending:=ah,fn:=Tc,tmps:=a.tmps,params:=ps,assign:=jz,body:=bd,defers:=ld.b}) (ob:=.loop .ready ah 0 e.t e.n ps.toList jz bd G.n) eE
  ⟨⟨w1.heap.size,1,1⟩,ld,a.tmps,Tc,dv _ _ _ _,jE _ _ _ yf,az,he.1.symm,λt=>((he.2 t).mono l1.ext).mono jE⟩
 have jL:fc cO (G.n+1) 0 ⟨w1.heap.size,1,1⟩ (G.n+1) 0=aa ⟨w1.heap.size,1,1⟩:=dv _ _ _ _;simp only[St.aq4]at i2 l2 jL jE;generalize JQ:({w1 with heap:=w1.heap.push (.loop {state:=.ready,pending:=ah,fn:=Tc,tmps:=a.tmps,params:=ps,assign:=jz,body:=bd,defers:=ld.b})}:Z0)=w2 at i2 l2;generalize fc cO (G.n+1) 0 ⟨w1.heap.size,1,1⟩=vB at i2 l2 jL jE;have⟨d,nK,kW⟩:=E4 (w:=w2) (((he.mono l1.ext).mono jE).eval g) (bu.cons (.vA (G.n+1) _ jL) bu.nil) rX;rcases kW with⟨f',as,vs,q7,hinv,fk,_⟩|⟨_,_,q7,_⟩
 .cases q7;refine⟨w1.heap.size,marks,w2,d,w2,f,vs.toArray,w2,aI,?_,λf' _=>hF.fn f',hinv,hF.depth,?_⟩
  .simp_all[resolve,Act.eval]
  .refine(hF.calls (h vB vs w2 i2 fk)).mono λed w3 hR=>?_;have⟨v,oI,yu,hR⟩:=hR;have⟨Ba,s,p,f3,tm,oE,xJ,M_,xK,qp,DT,dL,ex,EX,xG,XH,XI⟩:=hRW v oI yu;cases ed with
   |panicked chain=>cases hR
   |outgrown=>cases hR
   |returned u=>
    have⟨ι3,_,i3,l3⟩:=hR;have DV:=l3.ext _ _ _ jL;have⟨ld3,ts3,f3',hd3,yg,Td,H_⟩:=mI i3 DT DV;have⟨i4,l4⟩:=Du (ro:=0) (eX:=.exhausted) (CA:=p) (f':=f3') i3 (UT _) DT DV hd3 Td;refine⟨p,_,by simp only[Instr.endLoop,Z1,rW yg,Rn,aHy s dL,W8,if_false,jl (P:=P) yg az];rfl,?_⟩;have l34:=Le.then i2 Ba l3 l4;have E7:=Le.then i1 jw l2 l34;have v_:=Le.then hi eE l1 E7;have e4:=he.mono v_.ext
    have d5:∀{w4:Z0},Le 0 Z w G ι3 w4 (oI.put (G.n+1) (.loop .exhausted p f3 tm oE xJ M_ xK qp))->Le 0 cO w1 G.skip ι3 w4 (oI.put (G.n+1) (.loop .exhausted p f3 tm oE xJ M_ xK qp))->Ch α ι3 w4 (oI.put (G.n+1) (.loop .exhausted p f3 tm oE xJ M_ xK qp)) df (marks++a.defers):=by
     intro w4 v_ E7;have⟨Hb,ids,h1,h2,h3⟩:=hd;refine⟨YE Hb v_.size,G.n::ids,(Pe.mono E7.ext).append (h1.mono v_.ext),λid hid=>?_,UA.2 ⟨λhc=>?_,h3⟩⟩
     .rcases ZP.1 hid with rfl|hid
      .exact U2.step i1 E7
      .exact(h2 id hid).step hi v_
     .have⟨_,_,_,aq,_⟩:=h2 _ hc;omega
    cases ex with
    |normal=>subst XH;exact hQ _ _ _ XI _ _ _ [] i4 v_ e4 (d5 v_ E7) trivial
    |exit i=>subst XH;exact wpIn_exit (hQ _ _ _ XI {a with defers:=marks++a.defers} _ _ [] i4 v_ e4 (d5 v_ E7) trivial)
    |ret=>subst XH;exact wpIn_ret (hQ _ _ _ XI {a with defers:=marks++a.defers} _ _ [] i4 v_ e4 (d5 v_ E7) trivial)
    |goto t=>grind
    |dh v=>cases EX
 grind
variable{tm:T IV}{body:au}{sk:aj Nat}{lv:Nat}
def eV.round{CW:nN}{Wd:V4}{oE:Nat}{ps:aj Tmp}(hw:bE o ao e=ab)(hv:aN P 0 (aT e) o G=aa (.round pW av))
 (bx:G.at pW=aa (.loop .ready ah Wd tm oE ps jz bd iN))(bf:av.length=ps.length)
 (h:dP P N (aa pW) jz ((ps.zip av).foldl (λe (p,v)=>e.put (aa p) v) ⟨oE,tm⟩) [] G (λex e1 aG=>ex=.normal/\aG.n<=N/\∃f1 DI HV ps1 RQ bd1 vN,aG.at pW=aa (.loop .ready ah f1 DI HV ps1 RQ bd1 vN)/\
  dP P N (aa pW) bd e1 [] (aG.put pW (.loop .busy ah f1 DI HV ps1 RQ bd1 vN)) (λex e2 dJ=>ex.HU=af/\dJ.n<=N/\∃s3 p3 f3 M7 Gv xJ IL xK qp,dJ.at pW=aa (.loop s3 p3 f3 M7 Gv xJ IL xK qp)/\
   eV P N rd ao l (e.put o.dst (.bool (jT ex).isNone)) df (dJ.put pW (.loop (if(jT ex).isNone then .ready else .done) (jT ex) f3 M7 Gv xJ IL xK qp)) CW))):
 eV P N rd ao (o::l) e df G CW:=by
 refine .cons hw λα F Z a w Q k hl hF hi he hd hQ=>?_;exists λf _=>hF.fn f;rw[Oper.semAt_eq _ _ _ (lj hv az)];have⟨loc,us,ajm,hr,h2⟩:=tx hi he.eval hv;have⟨ld,ts,f',hd0,hh,hE,aq⟩:=mI hi bx ajm;have cd:us.toArray.size=ps.toArray.size:=by simp[<-h2.1,bf]
 have hy:(Na loc.b us.toArray).run P w=.ok (.round loc.b f' ((ps.zip us).foldl (λtmps (t,a)=>tmps.setIfInBounds t a) ts) jz bd) w:=by
  have hz:((ps.toArray.zip us.toArray).foldl (λtmps (t,a)=>tmps.setIfInBounds t a) ts)=(ps.zip us).foldl (λtmps (t,a)=>tmps.setIfInBounds t a) ts:=az;simp only[Na,Z1,rW hh,Rn,cd,ne_eq,not_true_eq_false,if_false,Sem.run_pure,hz]
 rw[hr,hy,Oper.uponIn_round];refine⟨hF.depth,roundIn_of_wpIn (hF.fn f') ?_⟩;rw[hF.inRound];refine h w.heap.size (Z9.inRound loc.b) Z {tmps:=_,defers:=[]} w _ (.inr ⟨pW,loc,rfl,ajm,rfl⟩) hi (Ku hE h2) Ch.start λex e1 aG hc=>?_;obtain⟨rfl,fY,f1,DI,HV,ps1,RQ,bd1,vN,xi,av3⟩:=hc;intro a1 w1 cO gP i1 l1 dt d1 p1;have x_:=l1.ext _ _ _ ajm;have⟨ld1,ts1,f1',E5,A_,pQ,nL⟩:=mI i1 xi x_;have⟨i2,l2⟩:=Du (ro:=0) (eX:=.busy) (CA:=ah) (f':=f1') i1 (UT _) xi x_ E5 pQ;refine⟨_,by simp only[Instr.beginRound,Z1,rW A_,Rn,jl (P:=P) A_ az];rfl,?_⟩;refine av3 w.heap.size (Z9.inRound loc.b) cO a1 _ _ (.inr ⟨pW,loc,rfl,x_,rfl⟩) i2 dt (d1.step i1 l2) λex e2 dJ hc=>?_;have⟨hnp,DU,s3,p3,f3,M7,Gv,xJ,IL,xK,qp,DT,P8⟩:=hc;intro a2 w2 vB ch2 i3 l3 e2' d2 p2;refine aH9 (by simp[hnp]) ?_;have jL:=l3.ext _ _ _ x_;have⟨ld2,ts2,f2',M8,uc,E6,cR⟩:=mI i3 DT jL;have⟨i4,l4⟩:=Du (ro:=0) (eX:=if(jT ex).isNone then .ready else .done) (CA:=jT ex) (f':=f2') i3 (UT _) DT jL M8 E6;have E7:=Le.then i2 DU l3 l4;have v_:=Le.then i1 (by exact fY) l2 E7;have l04:=Le.then hi fY l1 v_;refine⟨.bool (jT ex).isNone,_,by simp only[Instr.endRound,Z1,rW uc,Rn,jl (P:=P) uc az];rfl,?_⟩;exact P8 α F vB _ _ Q (k+1) hl (hF.mono l04.ext) i4 ((he.mono l04.ext).put (.raw _) _) (by have:=hd.step hi l04;cases o.dst<;>exact this) λex e' aB hc=>(hQ ex e' aB hc).from hi l04 (by exact DU)
section
variable{kx:Kx}
variable{sn zD:aj (Nat×PV SE)}{es:SE}{kt:Nat}{rM:VK}
def J.adM(hJ:J Cx (aM P O) R X Γ L E G){c st eX:Nat}{rc:ald}{s:LoopState}{p:aF Code}(mE:X j=aa pW)(hj:L[j]?=aa (.lp c st sn))(hR:R pW=ah)
 (hc:eX<2->Cx[c]?=aa rc)(hl:ZD eX s p)(q_:∀q∈zD,q.2.uj=ab/\VR (aM P O) R X L G ((⟨rc.n,tm⟩:aK).at q.1) q.2):
 J Cx (aM P O) R X Γ (L.set j (.lp c eX zD)) E (G.put pW (.loop s p f tm rc.n rc.ps rc.jz rc.bd iN))/\
 ni (aM P O) (aM P O) R X L G R X (L.set j (.lp c eX zD)) (G.put pW (.loop s p f tm rc.n rc.ps rc.jz rc.bd iN)) (λ_=>False):=by
 obtain⟨h1,h2⟩:=hJ.wh (R':=R) (bad:=λ_=>False) (mW:=.lp c eX zD) (gO:=.loop s p f tm rc.n rc.ps rc.jz rc.bd iN) mE hj (λ_ _=>rfl)
  (λm hm=>by rw[hR]at hm;cases hm) (λm _ _ _ hm=>by rw[hR]at hm;cases hm) (λm _ _ _ hm=>by rw[hR]at hm;cases hm)
  (λ_ h=>by cases h) (λ_ _ h=>by cases h) (λ_ _ _ _ _ h=>by cases h) (λ_ _ pv _=>pv.bP) (λ_ o _ _=>o.bP)
  (λiP=>⟨pW,rc,tm,iN,s,p,f,mE,hR,hc,by rw[St.eF,aW rfl],hl,λq hq=>⟨(q_ q hq).1,(q_ q hq).2.step iP (PV.bP _)⟩⟩)
  (λ_ _ _ _=>⟨c,eX,zD,rfl⟩)
 exact⟨h2,h1⟩
theorem aHv:∀{sn:aj (Nat×PV SE)},dk d' t (Pv d sn)=aa pv->d'=d/\(t,pv)∈sn
 |[],h=>by cases h
 |q::sn,h=>by
  rcases oK (show dk d' t ((d,q.1,q.2)::Pv d sn)=aa pv from h)with⟨rfl,rfl,rfl⟩|⟨_,h2⟩
  .simp
  .have⟨h3,h4⟩:=aHv h2
   grind
theorem aH2{D:Nat}:∀{ps:aj Tmp} {av:aj IV} {dM:aj (PV SE)} {Γ:Gm SE} {e0:aK},J Cx (aM P O) R X Γ L (nM E D e0) G->All2 (VR (aM P O) R X L G) av dM->(∀p∈ps,p<e0.n)->
 J Cx (aM P O) R X (Mm D ps dM Γ) L (nM E D ((ps.zip av).foldl (λe (p,v)=>e.put (aa p) v) e0)) G/\((ps.zip av).foldl (λe (p,v)=>e.put (aa p) v) e0).n=e0.n
 |[],_,_,_,_,h,_,_=>⟨by simpa[Mm]using h,rfl⟩
 |p::ps,[],[],_,_,h,_,_=>⟨by simpa[Mm]using h,rfl⟩
 |p::ps,a::av,v::dM,Γ,e0,h,ha,hp=>by
  have h1:=h.put D (t:=p) (x:=a) (pv:=v) (by rw[cI];exact hp p az) ha.1;rw[cI,afz]at h1;have⟨h2,h3⟩:=aH2 (ps:=ps) h1 ha.2 (λq hq=>by rw[gu];exact hp q (by simp[hq]));exact⟨h2,by simp only[List.zip_cons_cons,Zv];rw[h3,gu]⟩
 |p::ps,[],_::_,_,_,_,h,_=>h.elim
 |p::ps,_::_,[],_,_,_,h,_=>h.elim
def an7(h:W1 pv j=ab):pv=.one (.yl j):=by
 unfold W1 at h;split at h
 all_goals simp_all
def af6(cH:qN Cx P C Q self)(ih:Ht Cx P C Q cfg self kx d f0 ao rd df kk CX sk l)(hJ:JQQ Cx P O R X V E G)(hn:O.length=V.n)(hK:K.length=V.lv)(c7:(E d).n=V.nt)
 (hd:∀t,o.dst=aa t->t<(E d).n)(rQ:∀x,nO ((E d).put o.dst x) sk)(dZ:KS Cx P C Q d E K O V.nt kk λN e G=>CX N .normal e G)(jC:KP Cx P C Q d E K O V.nt kx λN v e G=>CX N (.dh v) e G)(hw:bE o ao (E d)=ab)
 {fo:Operand}(ho:o.op=.call c)(hc:c.callee=.value fo)(hf:cJ P d V 0 fo=.one (.yl j))
 (hs:(W4 P self Cx d f0 o.dst fo j (mK P d V c.args.toList c.argTypes.toList) V λpv V=>jF P cfg self kx Cx d f0 af ao sk l (V.da d o.dst pv) kk).sat P C Q K O):
 ∃b,∀N,b<=N->eV P N rd ao (o::l) (E d) df G (CX N):=by
 have vG:=b_ hJ d 0 fo;rw[hf]at vG;have⟨pW,_,_,_,p1,_,p3⟩:=vG
 have link:∀{V':SS} {ν':aj IV} {R':Rs} {bA:Ph} {E':Nat->aK} {aB:St},J Cx (aM P ν') R' bA V'.g V'.l E' aB->E' d=E d->W1 (cJ P d V' 0 fo) j=ab->bA j=aa pW:=by
  intro V' ν' R' bA E' aB Nl qI hy;have hv:=b_ Nl d 0 fo;rw[an7 hy]at hv;have⟨id,_,_,_,a1,_,a3⟩:=hv;rw[qI,p3]at a3;cases a3;exact a1
 unfold W4 at hs;split at hs<;>try cases hs
 rename_i c0 sn hj;split at hs<;>try cases hs
 rename_i rc G1;split at hs<;>try cases hs
 rename_i dj;simp only[VM,ZT,US]at dj;have⟨bf,nf⟩:=dj;have⟨id,rc',tm,iN,s,p,f,q1,q2,q3,q4,q5,q6⟩:=hJ.obj j _ hj;rw[p1]at q1;cases q1;have aq5:=q3 ak;rw[G1]at aq5;cases aq5;obtain⟨rfl,rfl⟩:=q5;have cj:=lB hJ d c.args.toList c.argTypes.toList;have eG:(c.args.toList.map (aT (E d))).length=rc.ps.length:=by rw[cj.len];exact bf
 have gC:aN P 0 (aT (E d)) o G=aa (.round pW (c.args.toList.map (aT (E d)))):=by
  simp only[aN,ho,hc];rw[p3];rfl
 have oL:J Cx (aM P O) R X (Pv (d+1) sn++fR (d+1) V.g) V.l (nM E (d+1) ⟨rc.n,tm⟩) G:=by
  refine{hJ with slot:=λd' t pv hg=>?_};rcases GG hg with hg|hg
  .obtain⟨rfl,h2⟩:=aHv hg;rw[cI];exact(q6 _ h2).2
  .have⟨h1,h2⟩:=r7 hg;rw[gj _ _ _ h1];exact hJ.slot d' t pv h2
 obtain⟨cC,fY⟩:=aH2 oL cj λq hq=>by have:=nf q hq;simpa using this
 obtain⟨b,hb⟩:=cH ab (d+1) _ rc.jz {V with g:=Mm (d+1) rc.ps (mK P d V c.args.toList c.argTypes.toList) (Pv (d+1) sn++fR (d+1) V.g),nt:=rc.n} _ O K R X _ G
  (λN ex e1 aG=>ex=.normal/\aG.n<=N/\∃f1 DI HV ps1 RQ bd1 vN,aG.at pW=aa (.loop .ready ah f1 DI HV ps1 RQ bd1 vN)/\
   dP P N (aa pW) rc.bd e1 [] (aG.put pW (.loop .busy ah f1 DI HV ps1 RQ bd1 vN)) (λex e2 dJ=>ex.HU=af/\dJ.n<=N/\∃s3 p3 f3 M7 Gv xJ IL xK qp,dJ.at pW=aa (.loop s3 p3 f3 M7 Gv xJ IL xK qp)/\
    eV P N rd ao l ((E d).put o.dst (.bool (jT ex).isNone)) df (dJ.put pW (.loop (if(jT ex).isNone then .ready else .done) (jT ex) f3 M7 Gv xJ IL xK qp)) (CX N)))
  (aa pW) [] az hs cC hn hK (by rw[cI,fY]) (by
   intro ex V' I K' R' bA E' aB x hF hx cB;dsimp only at cB;split at cB<;>first|(cases cB)|skip
   rename_i c1 sn1 hj1;split at cB<;>first|(cases cB)|skip
   rename_i sK;simp only[VM,ZT]at sK;obtain⟨rfl,PD⟩:=sK;obtain rfl:=hx;have aq6:E' d=E d:=by rw[hF.hE d ak,gj _ _ _ ak]
   have r0:=link hF.hJ aq6 PD;have⟨id1,Nt,DI,vN,s1,p1',f1,r1,r2,r3,r4,r5,r6⟩:=hF.hJ.obj j _ hj1;rw[r0]at r1;cases r1;have aq7:=r3 ak;rw[G1]at aq7;cases aq7;obtain⟨rfl,rfl⟩:=r5;obtain⟨gD,_⟩:=hF.hJ.adM (eX:=1) (f:=f1) (iN:=vN) (s:=.busy) (p:=ah) r0 hj1 r2 (λ_=>G1) ⟨rfl,rfl⟩ r6
   obtain⟨b2,fD⟩:=cH ab (d+1) _ rc.bd {V' with l:=V'.l.set j (.lp c0 1 sn1)} _ (O++I) K' R' bA E' _
    (λN ex e2 dJ=>ex.HU=af/\dJ.n<=N/\∃s3 p3 f3 M7 Gv xJ IL xK qp,dJ.at pW=aa (.loop s3 p3 f3 M7 Gv xJ IL xK qp)/\
     eV P N rd ao l ((E d).put o.dst (.bool (jT ex).isNone)) df (dJ.put pW (.loop (if(jT ex).isNone then .ready else .done) (jT ex) f3 M7 Gv xJ IL xK qp)) (CX N))
    (aa pW) [] az cB gD hF.hn hF.iU (by rw[hF.J2,cI,fY,hF.c7]) (by
     intro ex2 V2 μ2 K2 R2 Fq E2 dJ x2 Nu xG ki;dsimp only at ki;split at ki<;>try cases ki
     rename_i c2 sn2 DP;split at ki<;>try cases ki
     rename_i aq8;simp only[VM,ZT]at aq8;obtain⟨rfl,aBw⟩:=aq8;have aq9:E2 d=E d:=by rw[Nu.hE d ak,aq6]
     have t0:=link Nu.hJ aq9 aBw;have⟨WL,rc2,tm2,XK,s2,p2,f2,t1,t2,t3,t4,t5,t6⟩:=Nu.hJ.obj j _ DP;rw[t0]at t1;cases t1;have aq_:=t3 ak;rw[G1]at aq_;cases aq_
     have fin:∀(eX:Nat) (zD:aj (Nat×PV SE)) (b0:Bool) (jp:aF Code),(∀q∈zD,q∈sn2)->ZD eX (if jp.isNone then .ready else .done) jp->jp.isNone=b0->
      (jF P cfg self kx Cx d f0 af ao sk l (SS.da {V2 with g:=fR (d+1) V2.g,nt:=V.nt,l:=V2.l.set j (.lp c0 eX zD)} d o.dst (.one (.v (.b b0)))) kk).sat P C Q K2 (O++I++μ2)->
      ∃b,∀N,b<=N->eV P N rd ao l ((E d).put o.dst (.bool b0)) df (dJ.put pW (.loop (if jp.isNone then .ready else .done) jp f2 tm2 rc.n rc.ps rc.jz rc.bd XK)) (CX N):=by
      intro eX zD b0 jp lk Tx hb0 oG;have⟨yC,_⟩:=Nu.hJ.adM (eX:=eX) (zD:=zD) (f:=f2) (iN:=XK) t0 DP t2 (λ_=>G1) Tx λq hq=>t6 q (lk q hq);have hJ4:=xQ (V:={V2 with l:=V2.l.set j (.lp c0 eX zD)}) yC (d+1)
      have:=jY (V1:={V2 with g:=fR (d+1) V2.g,nt:=V.nt,l:=V2.l.set j (.lp c0 eX zD)}) (I:=I++μ2) (K1:=K2) (R1:=R2) (fa:=Fq) (E1:=E2) (x:=.bool b0) (pv:=.one (.v (.b b0))) ih rQ hd c7 dZ jC
       (by rw[<-ZZ];exact hJ4) (by rw[<-ZZ];exact Nu.hn) (hF.hK.trans Nu.hK) Nu.iU rfl (λi hi=>by rw[Nu.hE i ak,hF.hE i ak,gj _ _ _ ak]) aq9
       ⟨.raw (.bool b0),rfl,.raw _,rfl⟩ (by rw[<-ZZ];exact oG)
      exact this
     cases ex2 with
     |dh t pv=>cases ki
     |normal=>
      obtain rfl:=xG;obtain⟨b3,fq⟩:=fin 0 sn2 ab ah (λq hq=>hq) ⟨rfl,rfl⟩ rfl ki;exact⟨max b3 dJ.n,λN hN=>⟨ak,rfl,ak,s2,p2,f2,tm2,_,_,_,_,XK,t4,fq N ak⟩⟩
     |ret=>
      obtain rfl:=xG;obtain⟨b3,fq⟩:=fin 2 [] af (aa .ret) (λq hq=>by cases hq) ⟨az,rfl⟩ rfl ki;exact⟨max b3 dJ.n,λN hN=>⟨ak,rfl,ak,s2,p2,f2,tm2,_,_,_,_,XK,t4,fq N ak⟩⟩
     |exit i=>
      obtain rfl:=xG;obtain⟨b3,fq⟩:=fin (i+4) [] af (aa (.exit i)) (λq hq=>by cases hq) ⟨az,rfl⟩ rfl ki;exact⟨max b3 dJ.n,λN hN=>⟨ak,rfl,ak,s2,p2,f2,tm2,_,_,_,_,XK,t4,fq N ak⟩⟩)
   exact⟨max b2 aB.n,λN hN=>⟨ak,rfl,ak,f1,DI,_,_,_,_,vN,r4,fD N ak⟩⟩)
 refine⟨b,λN hN=>?_⟩;have:=hb N hN;rw[cI]at this;exact .round hw gC q4 eG this
theorem J.skip(hJ:J Cx (aM P O) R X Γ L E G):J Cx (aM P O) R X Γ L E G.skip:=by
 have hg:lq R G R G.skip:=⟨λ_ m h=>⟨m,h,XS _⟩,λid m cs aV mn _ bx=>⟨cs,aV,bx,XS _,λ_ _=>rfl⟩,hJ.fits⟩;have hs:ni (aM P O) (aM P O) R X L G R X L G.skip (λ_=>False):=.mk' (λ_ _ h=>h) hg (λk cs hk=>⟨⟨cs,hk⟩,rfl⟩) (λk kt es hk=>⟨⟨es,hk⟩,rfl⟩) (λk s st cut fr z hk _=>⟨⟨st,hk⟩,rfl,λ_ _=>rfl⟩) λk c st snap hk=>⟨⟨c,st,snap,hk⟩,rfl⟩
 exact⟨λd t pv hg=>(hJ.slot d t pv hg).step hs pv.bP,λk o hk=>(hJ.obj k o hk).step hs rfl (λ_ _=>⟨rfl,rfl⟩) o.bP,hJ.inj,λk id hk=>⟨(hJ.lt k id hk).1,aKt (hJ.lt k id hk).2⟩,
  λid m h=>aKt (hJ.tC id m h),hJ.fits,hJ.wf,λid hid=>hJ.top id (Nat.le_of_succ_le hid)⟩
def J.cx(hJ:J Cx (aM P O) R X Γ L E G){Cx':Cs}(h:∀(k c st:Nat) (sn:aj (Nat×PV SE)),L[k]?=aa (LO.lp c st sn)->st<2->∀rc,Cx[c]?=aa rc->Cx'[c]?=aa rc):J Cx' (aM P O) R X Γ L E G:=by
 refine{hJ with obj:=λk o hk=>?_};have ho:=hJ.obj k o hk;cases o with
 |lp c st sn=>
  have⟨id,rc,tm,iN,s,p,f,q1,q2,q3,q4,q5,q6⟩:=ho;exact⟨id,rc,tm,iN,s,p,f,q1,q2,λbI=>h k c st sn hk bI rc (q3 bI),q4,q5,q6⟩
 |_=>exact ho
theorem af7{q:Nat×PV SE}(h:q∈sL d V):dk d q.1 V.g=aa q.2/\q.2.uj=ab:=by
 grind [sL]
theorem aH5{c:Nat}:∀{L:aj (LO SE)} {k0:Nat},Fo c j k0 L=ab->∀{k c' st:Nat} {sn:aj (Nat×PV SE)},L[k]?=aa (.lp c' st sn)->k0+k≠j->st<2->c'<c
 |[],_,_,k,_,_,_,h,_,_=>by grind
 |o::L,k0,hl,k,c',st,sn,h,hj,bI=>by
  cases k with
  |zero=>
   simp at h;subst h;simp only[Fo,VM,P6,ZT,Yr]at hl;rcases hl.1 with(h1|h1)|h1
   .omega
   .omega
   simp_all
  |succ k=>
   have dq:Fo c j (k0+1) L=ab:=by
    cases o<;>simp only[Fo]at hl<;>first|omega|grind
   exact aH5 dq ES ak bI
def af8{ly:Cs->qu}(P4:∀Cx,qN Cx P C Q (ly Cx))(hJ:JQQ Cx P O R X V E G)(hn:O.length=V.n)(hK:K.length=V.lv)(c7:(E d).n=V.nt){k:zC->SS->au}(mf:KW Cx P C Q d E K O V.nt k CW)
 {params:Array Tmp}{assign body:Code}{F:V4}{f1:Nat}(hg:cJ P d V 0 g=.one (.fn F bs))
 (hs:(rj P cfg (ly (Cx++[⟨params.toList,assign,body,V.nt⟩])) (λ_ _ _=>.fail 135) (d+1) f1 ah F (.one (.yl V.l.length)::bs.map λ(k,ext)=>.one (.pt k 0 ext))
    {V with g:=(d+1,0,.one (.yl V.l.length))::fR (d+1) V.g,l:=V.l++[.lp Cx.length 0 (sL d V)],nt:=1} λ_ W=>match dk (d+1) 0 W.g,W.l[V.l.length]? with
     |some (.one (.yl j)),aa (.lp c' st _)=>if ZW j V.l.length&&ZW c' Cx.length&&Fo Cx.length V.l.length 0 W.l then aqE V.l.length Cx.length st {W with g:=fR (d+1) W.g,nt:=V.nt} k else .fail 137
     |_,_=>.fail 137).sat P C Q K O):
 ∃b,∀N,b<=N->dP P N ah (.rangeFunc g params assign body) (E d) df G (CW N):=by
 have dX:∃fn,P.funcs[F]?=aa fn/\fn.body.isSome=ab/\(fn.name != "runtime.NumGoroutine")=ab:=by
  unfold rj at hs;split at hs<;>try cases hs
  split at hs<;>try cases hs
  split at hs<;>try cases hs
  split at hs<;>try cases hs
  grind
 have⟨fn,dX,hb,rZ⟩:=dX
 have hJc:J (Cx++[⟨params.toList,assign,body,V.nt⟩]) (aM P O) R X V.g V.l E G.skip:=hJ.skip.cx λk c st sn _ _ rc h=>by
  grind
 have dc:=He hJc (.loop .ready ah 0 (E d).t (E d).n params.toList assign body G.n) (.lp Cx.length 0 (sL d V))
 have cC:=hJc.oW (.loop .ready ah 0 (E d).t (E d).n params.toList assign body G.n) (.lp Cx.length 0 (sL d V))
  ⟨G.skip.n,⟨params.toList,assign,body,V.nt⟩,(E d).t,G.n,.ready,ah,0,by simp[cY],hJc.ur,λ_=>az,jw,⟨rfl,rfl⟩,λq hq=>by
   have⟨h1,h2⟩:=af7 hq;exact⟨h2,(hJc.slot d q.1 q.2 h1).step dc (PV.bP _)⟩⟩
 have ara:=b_ (V:={V with l:=V.l++[.lp Cx.length 0 (sL d V)]}) cC d 0 g;rw[show cJ P d {V with l:=V.l++[.lp Cx.length 0 (sL d V)]} 0 g=.one (.fn F bs)from hg]at ara;have⟨ys,rX,xP⟩:=pV (av:=[.vA (G.n+1)]) ara dX hb rZ
 have PD:VR (aM P O) R (cY X V.l.length G.skip.n) (V.l++[.lp Cx.length 0 (sL d V)]) (G.skip.add (.loop .ready ah 0 (E d).t (E d).n params.toList assign body G.n)) (.vA (G.n+1)) (.one (.yl V.l.length)):=
  ⟨G.n+1,Cx.length,0,sL d V,by simp[cY],az,rfl⟩
 obtain⟨e1,pQ⟩:∃e1,e1=(⟨1,.lf⟩:aK).put (aa 0) (.vA (G.n+1)):=⟨_,rfl⟩;have aBx:e1.at 0=.vA (G.n+1):=by rw[pQ];rfl
 have aq2:e1.n=1:=by rw[pQ];rfl
 have gD:J (Cx++[⟨params.toList,assign,body,V.nt⟩]) (aM P O) R (cY X V.l.length G.skip.n) ((d+1,0,.one (.yl V.l.length))::fR (d+1) V.g) (V.l++[.lp Cx.length 0 (sL d V)]) (nM E (d+1) e1) (G.skip.add (.loop .ready ah 0 (E d).t (E d).n params.toList assign body G.n)):=by
  refine{cC with slot:=λd' t pv zG=>?_};rcases oK zG with⟨rfl,rfl,rfl⟩|⟨cg,zG⟩
  .simp_all
  .have⟨h1,h2⟩:=r7 zG;rw[gj _ _ _ h1];exact cC.slot d' t pv h2
 obtain⟨_,_,_,_,b,hcx⟩:=CH (d:=d+1) (V:={V with g:=(d+1,0,.one (.yl V.l.length))::fR (d+1) V.g,l:=V.l++[.lp Cx.length 0 (sL d V)],nt:=1}) (E:=nM E (d+1) e1) (av:=.vA (G.n+1)::ys) (dM:=.one (.yl V.l.length)::bs.map λ(p:Nat×Nat)=>.one (.pt p.1 0 p.2))
  (RW:=λN _ oI=>oI.n<=N/\∃s p f3 tm oE xJ M_ xK qp,oI.at (G.n+1)=aa (.loop s p f3 tm oE xJ M_ xK qp)/\s≠.busy/\
   ∃ex:Ex,ex.HU=af/\(∀t,ex≠.goto t)/\jT ex=p/\CW N ex (E d) (oI.put (G.n+1) (.loop .exhausted p f3 tm oE xJ M_ xK qp)))
  (PW:=λ_ _ _=>False) (P4 _) gD hn hK jw ⟨PD,xP⟩ hs (by
   intro pv V' I K' R' bA E' aB v hF qI hv cB;split at cB<;>try contradiction
   rename_i j1 c1 sM sn1 hg1 x_;split at cB<;>try contradiction
   rename_i sK;simp only[VM,ZT]at sK;obtain⟨⟨rfl,rfl⟩,aix⟩:=sK;have Kk:=hF.hJ.slot (d+1) 0 _ hg1;have⟨vY,_,_,_,a1,_,a3⟩:=Kk;rw[qI,cI,aBx]at a3;cases a3;have⟨id,Nt,DI,vN,s1,p1,f1,r1,r2,r3,r4,r5,r6⟩:=hF.hJ.obj _ _ x_;rw[a1]at r1;cases r1;have BU:E' d=E d:=by rw[hF.hE d ak,gj _ _ _ ak]
   have fin:∀(eX:Nat) (ex2:zC) (ex:Ex),2<=eX->ZD eX .exhausted p1->(∀(R:Rs) X L G,XR P (O++I) R X L G ex2 ex)->
    (k ex2 {V' with g:=fR (d+1) V'.g,nt:=V.nt,l:=V'.l.set V.l.length (.lp Cx.length eX [])}).sat P C Q K' (O++I)->
    ∃b,∀N,b<=N->aB.n<=N/\CW N ex (E d) (aB.put (G.n+1) (.loop .exhausted p1 f1 DI Nt.n Nt.ps Nt.jz Nt.bd vN)):=by
    intro eX ex2 ex bI Tx hxr oG;have⟨yC,_⟩:=hF.hJ.adM (eX:=eX) (zD:=[]) (rc:=Nt) (tm:=DI) (f:=f1) (iN:=vN) (s:=.exhausted) (p:=p1) a1 x_ r2 (λh=>ak) Tx λq hq=>aI
    have hJ4:J Cx (aM P (O++I)) R' bA V'.g (V'.l.set V.l.length (.lp Cx.length eX [])) E' (aB.put (G.n+1) (.loop .exhausted p1 f1 DI Nt.n Nt.ps Nt.jz Nt.bd vN)):=yC.cx λk2 c st sn q8 aBy rc G1=>by
     rw[aKf]at q8;split at q8<;>try grind
     have aq:=aH5 aix q8 ak aBy
     grind
    have hJ5:=xQ (V:={V' with l:=V'.l.set V.l.length (.lp Cx.length eX [])}) hJ4 (d+1)
    obtain⟨b,hb⟩:=mf ex2 {V' with g:=fR (d+1) V'.g,nt:=V.nt,l:=V'.l.set V.l.length (.lp Cx.length eX [])} I K' R' bA E' _ ex
     ⟨hF.hK,hF.iU,rfl,hJ5,hF.hn,λi hi=>by rw[hF.hE i ak,gj _ _ _ ak],aI⟩ (hxr _ _ _ _) oG
    refine⟨b,λN hN=>⟨(hb N hN).1,?_⟩⟩
    grind
   rcases sM with _|_|_|_|i
   .obtain⟨rfl,rfl⟩:=r5;obtain⟨b,hb⟩:=fin 3 .normal .normal ak ⟨az,rfl⟩ (λ_ _ _ _=>rfl) cB;exact⟨b,λN hN=>⟨(hb N hN).1,(hb N hN).1,_,_,_,_,_,_,_,_,_,r4,az,.normal,rfl,az,rfl,(hb N hN).2⟩⟩
   .cases cB
   .obtain⟨dL,rfl⟩:=r5;obtain⟨b,hb⟩:=fin 2 .ret .ret ak ⟨az,rfl⟩ (λ_ _ _ _=>rfl) cB;exact⟨b,λN hN=>⟨(hb N hN).1,(hb N hN).1,_,_,_,_,_,_,_,_,_,r4,dL,.ret,rfl,az,rfl,(hb N hN).2⟩⟩
   .cases cB
   .obtain⟨dL,rfl⟩:=r5;obtain⟨b,hb⟩:=fin (i+4) (.exit i) (.exit i) ak ⟨az,rfl⟩ (λ_ _ _ _=>rfl) cB;exact⟨b,λN hN=>⟨(hb N hN).1,(hb N hN).1,_,_,_,_,_,_,_,_,_,r4,dL,.exit i,rfl,az,rfl,(hb N hN).2⟩⟩) (by
   intro t pv V' I K' R' bA E' aB v hF qI hv cB;cases cB)
 refine⟨max b (G.n+2),λN hN=>.range (f:=F) (av:=.vA (G.n+1)::ys) ?_ ak ((hcx N ak).toW λ_ _ h=>h) λv oI h=>h⟩
 grind
def ou(h:V1.ln=V.ln):V1.lv=V.lv/\V1.nt=V.nt:=by
 simp_all[SS.ln]
theorem af9(hC:lC P C)(cH:qN Cx P C Q self)(ih:Ht Cx P C Q cfg self kx d f0 ao rd df kk CX sk l)(hJ:J Cx (aM P O) R X V.g V.l E G)(hn:O.length=V.n)(hK:K.length=V.lv)(c7:(E d).n=V.nt)
 (hd:∀t,o.dst=aa t->t<(E d).n)(rQ:∀x,nO ((E d).put o.dst x) sk)(dZ:KS Cx P C Q d E K O V.nt kk (λN e G=>CX N .normal e G))(jC:KP Cx P C Q d E K O V.nt kx (λN v e G=>CX N (.dh v) e G))(hw:bE o ao (E d)=ab)
 (hs:(Pw P cfg self kx Cx d f0 af o V λpv V=>jF P cfg self kx Cx d f0 af ao sk l (V.da d o.dst pv) kk).sat P C Q K O):
 ∃b,∀N,b<=N->eV P N rd ao (o::l) (E d) df G (CX N):=by
 have av4:(jB P d o V λpv V=>jF P cfg self kx Cx d f0 af ao sk l (V.da d o.dst pv) kk).sat P C Q K O->∃b,∀N,b<=N->eV P N rd ao (o::l) (E d) df G (CX N):=by
  intro hs;have⟨x,aG,R1,fa,pv,V1,I,h1,h2,h3,h4,h5,h6⟩:=afX hJ hn hs;obtain⟨b,hb⟩:=jY ih rQ hd c7 dZ jC h2 h4 (Y8 K) (by rw[(ou h5).1];omega) (ou h5).2 (λ_ _=>rfl) rfl h3 h6;exact⟨max b aG.n,λN hN=>.val hw h1 ak (hb N ak)⟩
 unfold Pw at hs;split at hs
 .rename_i c ho;unfold Yu at hs;split at hs
  .simp_all
  .rename_i f hc;split at hs
   rotate_left
   .rename_i j hf;simp only[W8,if_false]at hs;exact af6 cH ih hJ hn hK c7 hd rQ dZ jC hw ho hc hf hs
   .exact hs.elim
   rename_i g bs hf;simp only at hs;split at hs
   .rename_i t cf Bp jm;obtain⟨rfl,vE,_⟩:=aHo jm;split at hs<;>try exact hs.elim
    rename_i fn dX;split at hs<;>try exact hs.elim
    rename_i dj;simp only[VM]at dj;have vG:=b_ hJ d 0 f;rw[hf]at vG;have cj:=lB hJ d c.args.toList c.argTypes.toList;have⟨ys,rX,xP⟩:=pV (av:=c.args.toList.map (aT (E d))) vG dX dj.1.2 dj.2
    have Om:ys=[]:=by
     cases ys with
     |nil=>rfl
     |cons=>exact xP.elim
    subst Om;rw[Z_]at rX
    have gC:aN P 0 (aT (E d)) o G=aa (.enter g (c.args.toList.map (aT (E d)))):=by
     simp_all[aN,ho,hc]
    rw[vE]at cj
    obtain⟨cl,kW,aBz⟩:∃cl,c.args.toList.map (aT (E d))=[cl]/\VR (aM P O) R X V.l G cl (.one (.fn cf Bp)):=by
     generalize c.args.toList.map (aT (E d))=l at cj
     match l,cj with
     |[cl],cj=>exact⟨cl,rfl,cj.1⟩
    have⟨b,hb⟩:=aHC (RW:=λN v aG=>aG.n<=N/\eV P N rd ao l ((E d).put o.dst v) df aG (CX N)) hC cH hJ hn hK c7 (Xh.1 dX).1 aBz hs (by
     intro pv V' I K' R' bA E' aB v hF qI hv cB;have⟨b,hb⟩:=jY ih rQ hd c7 dZ jC hF.hJ hF.hn hF.hK hF.iU hF.c7 hF.hE qI hv cB;exact⟨max b aB.n,λN hN=>⟨ak,ak,hb N ak⟩⟩)
    rw[kW]at gC;exact⟨b,λN hN=>.call hw gC (hb N hN) λv aG hv=>hv⟩
   split at hs
   .rename_i hp;simp only[VM,XT]at hp;have kX:=hp.1;subst kX
    have sE:∃(av:aj IV) (v:IV) (aG:St) (R1:Rs) (fa:Ph) (pv:PV SE) (V1:SS) (I:aj IV),aN P 0 (aT (E d)) o G=aa (.enter g av)/\(∀ro,kK P ro g av G v aG)/\(aG=G\/∃ob,aG=G.add ob)/\J Cx (aM P (O++I)) R1 fa V1.g V1.l E aG/\VR (aM P (O++I)) R1 fa V1.l aG v pv/\(O++I).length=V1.n/\V1.ln=V.ln/\
     (jF P cfg self kx Cx d f0 af ao sk l (V1.da d o.dst pv) kk).sat P C Q K (O++I):=by
     exact aIf hC hJ hn ho hc hf hs
    have⟨av,v,aG,R1,fa,pv,V1,I,gC,rN,_,g1,g2,g3,g4,g5⟩:=sE;obtain⟨b,hb⟩:=jY ih rQ hd c7 dZ jC g1 g3 (Y8 K) (by rw[(ou g4).1];omega) (ou g4).2 (λ_ _=>rfl) rfl g2 g5;exact⟨max b aG.n,λN hN=>.call hw gC (eO.ofS (rN 0) ak) λv1 dJ hv=>aI⟩
   split at hs
   .rename_i hp;simp only[VM,XT]at hp;have kX:=hp.1;subst kX;split at hs<;>try exact hs.elim
    rename_i fn dX;split at hs<;>try exact hs.elim
    rename_i dj;simp only[VM]at dj;have vG:=b_ hJ d 0 f;rw[hf]at vG;have cj:=lB hJ d c.args.toList c.argTypes.toList;have⟨ys,rX,xP⟩:=pV (av:=c.args.toList.map (aT (E d))) vG dX dj.1.2 dj.2
    have Om:ys=[]:=by
     cases ys with
     |nil=>rfl
     |cons=>exact xP.elim
    subst Om;rw[Z_]at rX
    have gC:aN P 0 (aT (E d)) o G=aa (.enter g (c.args.toList.map (aT (E d)))):=by
     simp_all[aN]
    obtain⟨b,hb⟩:=an4 (KW:=λN v aG=>aG.n<=N/\eV P N rd ao l ((E d).put o.dst v) df aG (CX N)) hC hJ hn cj hs (by
     intro V1 I R1 fa aG x pv h2 h4 bf h5 hx h6;obtain⟨b,hb⟩:=jY ih rQ hd c7 dZ jC h2 bf (Y8 K) (by rw[(ou h5).1];omega) (ou h5).2 (λ_ _=>rfl) rfl hx h6;exact⟨max b aG.n,λN hN=>⟨ak,hb N ak⟩⟩)
    exact⟨b,λN hN=>.call hw gC (hb N hN) λv aG hv=>hv⟩
   split at hs
   .rename_i hp;simp only[VM,XT]at hp;have kX:=hp.1;subst kX;split at hs<;>try cases hs
    rename_i zs V' fn hr dX;split at hs<;>try exact hs.elim
    rename_i dj;simp only[VM]at dj;have⟨g',av,z,R1,pv,V1,I,h1,h2,h3,h4,h5,h6,h7⟩:=aei hC hJ hn ho hc hf hr dX dj.1.2 dj.2 dj.1.1 hs;obtain⟨b,hb⟩:=jY ih rQ hd c7 dZ jC h3 h5 (Y8 K) (by rw[(ou h6).1];omega) (ou h6).2 (λ_ _=>rfl) rfl h4 h7;refine⟨max b G.n,λN hN=>.call hw h1 (eO.ofS (h2 0) ak) λv aG hv=>?_⟩
    grind
   .split at hs<;>try grind
    have vG:=b_ hJ d 0 f;rw[hf]at vG;have cj:=lB hJ d c.args.toList c.argTypes.toList
    have dX:∃fn,P.funcs[g]?=aa fn/\fn.body.isSome=ab/\(fn.name != "runtime.NumGoroutine")=ab:=by
     unfold rj at hs;split at hs<;>try cases hs
     split at hs<;>try cases hs
     split at hs<;>try cases hs
     split at hs<;>try cases hs
     grind
    have⟨fn,dX,hb,rZ⟩:=dX;have⟨ys,rX,xP⟩:=pV (av:=c.args.toList.map (aT (E d))) vG dX hb rZ
    have gC:aN P 0 (aT (E d)) o G=aa (.enter g (c.args.toList.map (aT (E d))++ys)):=by
     simp_all[aN]
    have⟨_,_,_,_,b,XI⟩:=CH (RW:=λN v aG=>aG.n<=N/\eV P N rd ao l ((E d).put o.dst v) df aG (CX N)) (PW:=λN v aG=>CX N (.dh v) (E d) aG) cH hJ hn hK c7 (cj.app xP) hs (by
     intro pv V' I K' R' bA E' aB v hF qI hv cB;have⟨b,hb⟩:=jY ih rQ hd c7 dZ jC hF.hJ hF.hn hF.hK hF.iU hF.c7 hF.hE qI hv cB;exact⟨max b aB.n,λN hN=>⟨ak,ak,hb N ak⟩⟩) (by
     intro t pv V' I K' R' bA E' aB v hF qI hv cB;have⟨b,hb⟩:=jC t pv V' I K' R' bA E' aB v hF hv cB;exact⟨b,λN hN=>⟨(hb N hN).1,aI⟩⟩)
    exact⟨b,λN hN=>.acR hw gC (XI N hN) (λv aG hv=>hv) λv aG hv=>hv⟩
  .cases hs
 simp_all
def XM{u:IV}(h:U9 a=aa u)(hx:VR (aM P O) R X V.l G x (.one (.v a))):x=u:=by
 unfold U9 at h;split at h<;>first|grind|skip<;>(cases h;have⟨y,h1,h2,_⟩:=hx;simp only[UU,ZY]at h1;subst h1;exact dH h2)
theorem ajo(hJ:J Cx (aM P O) R X V.g V.l E G)(h:W5 P d V o=aa pv):∃x,aN P 0 (aT (E d)) o G=aa (.val x G)/\VR (aM P O) R X V.l G x pv:=by
 unfold W5 at h;split at h
 .rename_i op t x y yt ho;split at h<;>try grind
  rename_i a b ha hb;split at h<;>try grind
  rename_i u v hu hv;have hx:=b_ hJ d t x;have hy:=b_ hJ d t y;rw[ha]at hx;rw[hb]at hy;rw[Lq]at h;obtain⟨e,h1,rfl⟩:=h;rw[ZS]at h1;have⟨w,h2,h3⟩:=h1;refine⟨w,?_,?_⟩
  .simp only[aN,ho,XM hu hx,XM hv hy,h2,ret]
  .unfold alk at h3
   repeat' split at h3<;>try grind
   all_goals (cases h3;exact⟨_,rfl,.raw _,rfl⟩)
 .rename_i t x ix ho;split at h<;>try grind
  rename_i n el cs z hu oF cX;split at h<;>try grind
  rename_i s ba cd Xd;split at h<;>try grind
  rename_i hc;have hx:=b_ hJ d t x;have hi:=b_ hJ d 0 ix;rw[oF]at hx;rw[cX]at hi;have eW:=XM (a:=.i z) rfl hi;have⟨dR,JY,cD⟩:=hx
  have⟨v,hv,hr⟩:=xN (pv:=pv) cd Xd cD hc.2.2 (by
   grind)
  refine⟨v,?_,hr⟩;simp only[aN,ho,hu,JY,eW,cd];rw[aW ⟨hc.1,hc.2.1⟩,hv];rfl
 grind
def an8(hJ:JQQ Cx P O R X V E G){c:Cl SE}(h:Y2 P d V o=aa (es,s,c))(hz:(SE.sub s es (.len es) (.i 0)).den P O=aa z):
 ∃x,aN P 0 (aT (E d)) o G=aa (.val x G)/\VR (aM P O) R X V.l G x (.one c):=by
 unfold Y2 at h;split at h<;>try (cases h;done)
 rename_i c0 ho;split at h<;>try (cases h;done)
 rename_i hc;have cj:=lB hJ d c0.args.toList c0.argTypes.toList;split at h<;>try (cases h;done)
 rename_i base ca hh;rw[hh]at cj;have⟨x0,x1,hx,yp,yF⟩:=Oe cj;split at h<;>try (cases h;done)
 rename_i t0 t1 ht0 TK;split at h<;>try (cases h;done)
 rename_i et et1 het aiU;split at h<;>try (cases h;done)
 rename_i s' z' bytes cd zE Nn;split at h<;>try (cases h;done)
 rename_i dj;simp only[P6,VH,not_or,Bool.not_eq_false]at dj;have⟨⟨dz,oT⟩,hc3⟩:=dj;have aBA:=ZR oT;have aFJ:bytes<=1000000:=by simpa using hc3
 have dc:s'≠0:=λh=>by subst h;simp at dz
 split at h<;>try (cases h;done)
 rename_i fr bF raw b w aiV;cases h;simp only[UU,ZS]at hz;have⟨a1,q9,b1,⟨a2,arb,bf⟩,h0⟩:=hz;rw[q9]at arb;cases arb
 have:a1=.tree s []:=by
  obtain⟨a,ha,h0⟩:=h0;cases ha;unfold KO at bf;split at bf<;>try (cases bf;done)
  cases bf;simp only[wi,lz]at h0;split at h0<;>try cases h0
  rename_i hc;obtain⟨rfl,_,h1,_,_⟩:=hc;have:=List.eq_nil_of_length_eq_zero (by simpa using h1);rw[this]
 subst this;have cg:jo s []=ab:=rfl;have⟨g1,aH,g2,g3,_,g5⟩:=KU hJ aiV yF q9 ak cg (λ_=>⟨.tree s [],by simp[UU,q9]⟩);have pO:aH=[]:=by simpa using g3
 subst pO;have⟨hw,yE⟩:=yp;refine⟨x0,?_,hw,yE⟩;have av5:gH 0 s 0 0 [] x0 G=aa (.val x0 G):=by subst yE;cases b<;>simp[gH,ret]
 have px:tZ x0=aa 0:=by subst yE;cases b<;>rfl
 simp only[aN,ho,hc,gI,hx,oP,ht0,TK,sZ het,sZ aiU,cd,zE,Nn,xE,g1,g2,px];rw[aY (by rintro(h|h);exact dc h;exact h aBA),aW ⟨az,az,eE,az⟩];exact av5
variable{x:SE}
def af_(h:Px P d V o=aa (j,kt,rM,es,x)):
 ∃it,o.op=.next it af/\cJ P d V 0 it=.one (.mp j)/\V.l[j]?=aa (.mp kt x)/\1000000<=kt/\V.l[kt % 1000000]?=aa (.mp rM es)/\¬rL rM=ab:=by
 unfold Px at h;split at h<;>try grind
 split at h<;>try grind
 split at h<;>try grind
 split at h<;>try grind
 split at h<;>try grind
 split at h<;>try grind
 simp_all
def aga(hJ:J Cx (aM P O) R X V.g V.l E G)(hn:O.length=V.n){x0:SE}{ds XN:aj IV}{seen:aj Nat}(hj:V.l[j]?=aa (.mp kt x0))(mH:1000000<=kt)(mE:X j=aa id)(hR:R id=ah)
 (PU:∃uo z',V.l[kt % 1000000]?=aa (.mp uo z'))(hm:X (kt % 1000000)=aa m)(hs:∀s∈seen,s<ds.length)(hl:Left ds (seen++[i]) XN)(hy:ds[i]?=aa y)(bx:G.at id=aa ob):
 J Cx (aM P (O++[y,.aU [.aU ds,.aU XN,y]])) R X V.g (V.l.set j (.mp kt (.var (V.n+1)))) E (G.put id (.na (aa m) ds.length (seen++[i]) ds.length)):=by
 have cC:=hJ.up (lP:=aM P (O++[y,.aU [.aU ds,.aU XN,y]])) (λe y h=>SE.eI P e h)
 exact(cC.wh (R':=R) (bad:=λ_=>False) (mW:=.mp kt (.var (V.n+1))) (gO:=.na (aa m) ds.length (seen++[i]) ds.length) mE hj (λ_ _=>rfl)
  (λm hm=>by rw[hR]at hm;cases hm) (λm _ _ _ hm=>by rw[hR]at hm;cases hm) (λm _ _ _ hm=>by rw[hR]at hm;cases hm)
  (λ_ h=>by cases h) (λ_ _ _=>by rename_i h;cases h;exact⟨_,rfl⟩) (λ_ _ _ _ _ h=>by cases h) (λ_ _ pv _=>pv.bP) (λ_ o _ _=>o.bP)
  (λiP=>by
   rw[oj,aW (KK mH)];refine .inr ⟨mH,id,m,ds,seen++[i],XN,[y],by simp[UU,<-hn],mE,hR,?_,hm,by rw[St.eF,aW rfl],λs cB=>?_,hl,.inr ⟨i,y,rfl,az,hy⟩⟩
   .have⟨uo,z',hz⟩:=PU;rw[aKf];split<;>try exact⟨_,_,hz⟩
    have aq:=(Z5.1 hj).1;rw[aW aq];exact⟨_,_,rfl⟩
   .simp only[List.mem_append,List.mem_singleton]at cB;rcases cB with cB|rfl
    .exact hs s cB
    .exact(Z5.1 hy).1)).2
def ajp(ih:Ht Cx P C Q cfg self kx d f0 ao rd df kk CX sk l)(hJ:JQQ Cx P O R X V E G)(hn:O.length=V.n)(hK:K.length=V.lv)(c7:(E d).n=V.nt)
 (hd:∀t,o.dst=aa t->t<(E d).n)(rQ:∀x,nO ((E d).put o.dst x) sk)(dZ:KS Cx P C Q d E K O V.nt kk λN e G=>CX N .normal e G)(jC:KP Cx P C Q d E K O V.nt kx λN v e G=>CX N (.dh v) e G)(hw:bE o ao (E d)=ab)
 (hit:Px P d V o=aa (j,kt,rM,es,x))
 (hs:(adf P j kt rM es x V λpv V=>jF P cfg self kx Cx d f0 af ao sk l (V.da d o.dst pv) kk).sat P C Q K O):
 ∃b,∀N,b<=N->eV P N rd ao (o::l) (E d) df G (CX N):=by
 have⟨it,ho,hm,hj,mH,hjm,iR⟩:=af_ hit;have uE:=b_ hJ d 0 it;rw[hm]at uE;have⟨id,kt3,x3,g1,g2,g3⟩:=uE;rw[hj]at g2;cases g2;rw[aW (KK mH)]at g3;have gp:=hJ.obj j _ hj;rw[oj,aW (KK mH)]at gp;rcases gp with⟨h0,_⟩|⟨_,bY,m,ds,seen,rem,aE,e1,e2,e3,e4,e5,e6,e7,e8,e9⟩
 .exact(avT mH h0).elim
 rw[g1]at e2;cases e2;have dt:x.den P O=aa (.aU (.aU ds::.aU rem::aE)):=e1;have Xt:=hJ.obj _ _ hjm;rw[oj,aY iR]at Xt;have⟨WL,TX,clock,Wx,c1,c2,c3,c4,c5,c6⟩:=Xt;rw[e5]at c2;cases c2;have sN:=c1;unfold adf at hs;split at hs<;>try exact hs.elim
 have⟨sH,XN,d1,⟨r,d2⟩,DL,av6⟩:=hs;rw[dt]at d2;obtain⟨rfl,rfl,_⟩:=d2;simp only[sN,ZY,IV.aU.injEq]at d1;subst d1;have bf:=All2.len c5
 obtain⟨B1,XO⟩:∃b,∀N,b<=N->(∀i,i<TX.length->i∈seen)->eV P N rd ao l ((E d).put o.dst (.aU [.bool af])) df G (CX N):=by
  by_cases cQ:∀i,i<TX.length->i∈seen
  .obtain⟨b,hb⟩:=jY (V1:=V) (I:=[]) (x:=.aU [.bool af]) (pv:=.tu [(af,[.v (.b af)])]) ih rQ hd c7 dZ jC (by rw[Z_];exact hJ) (by rw[Z_];exact hn) (Y8 K) hK rfl (λ_ _=>rfl) rfl
    (by rw[Z_];exact⟨_,rfl,⟨_,rfl,.raw (.bool af),rfl,.raw _,rfl⟩,trivial⟩) (by rw[Z_];exact DL (e8.empty λi hi=>cQ i (by rw[bf];exact hi)))
   exact⟨b,λN hN _=>hb N hN⟩
  .exact⟨0,λ_ _ h=>bH h cQ⟩
 obtain⟨B2,hB2⟩:=aJy (p:=λi N=>∀en,TX[i]?=aa en->i∉seen->eV P N rd ao l ((E d).put o.dst (.aU [.bool ab,lift en.1,en.2.1])) df (G.put id (.na (aa m) TX.length (seen++[i]) TX.length)) (CX N)) TX.length λi hi=>by
  by_cases pR:i∈seen
  .exact⟨0,λ_ _ _ _ h=>bH pR h⟩
  have⟨q,y,hq,hy,hl⟩:=e8.has (by rw[<-bf];exact hi) pR;have gD:=aga hJ hn hj mH g1 e3 e4 e5 e7 hl hy e6
  obtain⟨b,hb⟩:=jY (V1:={V with n:=V.n+2,l:=V.l.set j (.mp kt (.var (V.n+1)))}) (I:=[y,.aU [.aU Wx,.aU (rem.eraseIdx q),y]]) (x:=.aU [.bool ab,lift TX[i].1,TX[i].2.1]) (pv:=.tu [(af,[.v (.b ab)]),(af,[.un]),(af,[.un])]) ih rQ hd c7 dZ jC gD (by simp[hn]) (Y8 K) hK rfl (λ_ _=>rfl) rfl
   ⟨_,rfl,⟨_,rfl,.raw (.bool ab),rfl,.raw _,rfl⟩,⟨_,rfl,trivial⟩,⟨_,rfl,trivial⟩,trivial⟩ (av6 q y hq)
  refine⟨b,λN hN en tz _=>?_⟩;rw[UN hi]at tz;cases tz;rw[bf];exact hb N hN
 refine⟨max G.n (max B1 B2),λN hN=>.avU hw ho g3 (by rw[bf];exact e6) c4 c6 ak (XO N ak) λi en tz pR=>hB2 i (Z5.1 tz).1 N ak en tz pR⟩
def ajq(hC:lC P C)(cH:qN Cx P C Q self)(ih:Ht Cx P C Q cfg self kx d f0 ao rd df kk CX sk l)(hJ:JQQ Cx P O R X V E G)(hn:O.length=V.n)(hK:K.length=V.lv)(c7:(E d).n=V.nt)
 (hd:∀t,o.dst=aa t->t<(E d).n)(rQ:∀x,nO ((E d).put o.dst x) sk)(dZ:KS Cx P C Q d E K O V.nt kk λN e G=>CX N .normal e G)(jC:KP Cx P C Q d E K O V.nt kx λN v e G=>CX N (.dh v) e G)(hw:bE o ao (E d)=ab)
 (hs:(Iu P cfg self kx Cx d f0 af o V λpv V=>jF P cfg self kx Cx d f0 af ao sk l (V.da d o.dst pv) kk).sat P C Q K O):
 ∃b,∀N,b<=N->eV P N rd ao (o::l) (E d) df G (CX N):=by
 unfold Iu at hs;split at hs
 .rename_i hit;exact ajp ih hJ hn hK c7 hd rQ dZ jC hw hit hs
 split at hs
 .rename_i es s c hq;split at hq<;>try cases hq
  have⟨⟨z,hz⟩,hk⟩:=hs;have⟨x,h1,h2⟩:=an8 hJ hq hz;obtain⟨b,hb⟩:=jY (V1:=V) (I:=[]) (x:=x) (pv:=.one c) ih rQ hd c7 dZ jC (by rw[Z_];exact hJ) (by rw[Z_];exact hn) (Y8 K) hK rfl (λ_ _=>rfl) rfl (by rw[Z_];exact h2) (by rw[Z_];exact hk);exact⟨max b G.n,λN hN=>.val hw h1 ak (hb N ak)⟩
 .split at hs<;>try exact af9 hC cH ih hJ hn hK c7 hd rQ dZ jC hw hs
  rename_i pv hq;split at hq<;>try cases hq
  have⟨x,h1,h2⟩:=ajo hJ hq;obtain⟨b,hb⟩:=jY (V1:=V) (I:=[]) (x:=x) (pv:=pv) ih rQ hd c7 dZ jC (by rw[Z_];exact hJ) (by rw[Z_];exact hn) (Y8 K) hK rfl (λ_ _=>rfl) rfl (by rw[Z_];exact h2) (by rw[Z_];exact hs);exact⟨max b G.n,λN hN=>.val hw h1 ak (hb N ak)⟩
def ajr{aE:aj YX}{t:VK}(h:adg P d V o aE=aa (t,pv)):
 ∃x p b,o.op=.makeInterface t x/\o.dst=aa b/\o.guard=ah/\aE=[p]/\p.op=.panic (.tmp b)/\p.guard=ah/\(∀u,(P.underlying t=aa (.interface u)->False)/\(P.underlying t=ah->False))/\pv=cJ P d V t x:=by
 unfold adg at h;split at h<;>try grind
 rename_i t1 x1 p1 ho;split at h<;>try grind
 rename_i a b hp gh hg1 hg2;split at h<;>try grind
 rename_i hc;simp only[VM]at hc;have⟨di,oT⟩:=hc;have:=ZR di;subst this;cases h;refine⟨x1,p1,a,ho,gh,hg1,rfl,hp,hg2,λu=>⟨λhu=>?_,λhu=>?_⟩,rfl⟩
 all_goals simp_all[aG1]
theorem RR(hC:lC P C)(cH:qN Cx P C Q self):∀(l:aj YX) (sk:aj Nat),Ht Cx P C Q cfg self kx d f0 ao rd df kk CX sk l
 |[],sk=>by
  intro V O K R X E G _ hs hJ hn hK c7 dZ _;have⟨b,hb⟩:=dZ.now hJ hn hK hs;exact⟨b,λN hN=>.nil (hb N hN).2⟩
 |o::l,sk=>by
  intro V O K R X E G La hs hJ hn hK c7 dZ jC;have ih:=λsk=>RR hC cH l sk;simp only[jF]at hs
  have hd0:∀t,o.dst=aa t->t<V.nt:=by
   intro t ht;rw[ht]at hs;by_cases aq:t<V.nt
   .exact aq
   .have:UO t V.nt=af:=by
     cases h:UO t V.nt
     .rfl
     .exact bH (by simpa using h) aq
    simp only[this]at hs;cases hs
  rw[aY]at hs
  rotate_left
  .cases hh:o.dst with
   |none=>simp
   |some t=>simp[hd0 t hh]
  .have hd:∀t,o.dst=aa t->t<(E d).n:=by rw[c7];exact hd0
   split at hs
   .rename_i t pv ajs;obtain⟨x,p,b0,ho,gh,hg1,rfl,hp,hg2,hty,rfl⟩:=ajr ajs;have hx:=b_ hJ d t x;have cC:=IH (d:=d) (dst:=o.dst) (x:=.eT t (aT (E d) x)) hJ;have Q0:(V.np d o.dst).ln=V.ln:=II ..
    have⟨iU,ot⟩:=ou Q0
    obtain⟨b,hb⟩:=jC t _ (V.np d o.dst) [] K R X _ G (aT (E d) x) ⟨Y8 K,by rw[iU];exact hK,ot,by rw[Z_];exact cC,by rw[Z_,K6];exact hn,λj hj=>gj _ _ _ ak,by rw[cI,gu]⟩
     (by rw[Z_];cases o.dst<;>exact hx) (by rw[Z_];exact hs)
    rw[cI]at hb;refine⟨max b G.n,λN hN=>?_⟩;have hw1:bE o ao (E d)=ab:=by unfold bE;rw[hg1]
    have gC:aN P 0 (aT (E d)) o G=aa (.val (.eT t (aT (E d) x)) G):=by
     simp only[aN,ho];split
     .rename_i u hu;exact((hty u).1 hu).elim
     .rfl
     .rename_i hu;exact((hty #[]).2 hu).elim
    refine .val hw1 gC ak ?_;have aq:=hd b0 gh;refine .panic (by unfold bE;rw[hg2]) (v:=.eT t (aT (E d) x)) ?_ (hb N ak).2;simp only[aN,hp,aT];rw[gh,dm aq]
   rename_i ajs;clear ajs
   have jU:∀(V1:SS),JQQ Cx P O R X V1 E G->V1.n=V.n->V1.ln=V.ln->bE o ao (E d)=ab->
    (match D_ P cfg d af o V1 with
     |some (g,av)=>Mk P cfg self kx d f0 o.dst g av V1 λV=>jF P cfg self kx Cx d f0 af ao (yx sk o.dst) l V kk
     |none=>Iu P cfg self kx Cx d f0 af o V1 λpv V=>jF P cfg self kx Cx d f0 af ao (yx sk o.dst) l (V.da d o.dst pv) kk).sat P C Q K O->∃b,∀N,b<=N->eV P N rd ao (o::l) (E d) df G (CX N):=by
    intro V1 cC fY Cc hw iP;have⟨iU,ot⟩:=ou Cc;split at iP
    .rename_i g dM hj;obtain⟨c,f,bs,ho,hc,hf,rfl⟩:=af5 hj;have vG:=b_ cC d 0 f;rw[hf]at vG;have cj:=lB cC d c.args.toList c.argTypes.toList
     have dX:∃fn,P.funcs[g]?=aa fn/\fn.body.isSome=ab/\(fn.name != "runtime.NumGoroutine")=ab:=by
      by_cases hh:∃fn,P.funcs[g]?=aa fn/\fn.body.isSome=ab/\(fn.name != "runtime.NumGoroutine")=ab
      .exact hh
      .exfalso;simp only[Mk]at iP;split at iP<;>try exact iP
       rename_i hfb
       have⟨n,hn⟩:=ajg (P:=P) (cfg:=cfg) (self:=self) (kx:=λ_ _ _=>.fail 0) (d:=d) (f0:=f0) (dst:=o.dst) (V:={V1 with lv:=V1.lv+1}) (k:=λpv W=>.bad 999999 (W.da d o.dst pv).n (W.da d o.dst pv).lv 0 0 (W.da d o.dst pv).g (W.da d o.dst pv).l (W.da d o.dst pv).g (W.da d o.dst pv).l) (g:=g)
        (dM:=mK P d V1 c.args.toList c.argTypes.toList++bs.map λ(p:Nat×Nat)=>.one (.pt p.1 0 p.2)) λfn h1 h2 h3=>hh ⟨fn,h1,h2,h3⟩
       rw[hn]at hfb;cases hfb
     have⟨fn,dX,hb,rZ⟩:=dX;have⟨ys,rX,xP⟩:=pV (av:=c.args.toList.map (aT (E d))) vG dX hb rZ
     have gC:aN P 0 (aT (E d)) o G=aa (.enter g (c.args.toList.map (aT (E d))++ys)):=by
      simp only[aN,ho,hc];exact rX
     have⟨_,_,_,_,b,XI⟩:=aji (RW:=λN v aG=>aG.n<=N/\eV P N rd ao l ((E d).put o.dst v) df aG (CX N)) (PW:=λN v aG=>CX N (.dh v) (E d) aG) hC cH cC (by rw[fY];exact hn) (by rw[iU];exact hK) (by rw[ot];exact c7) (cj.app xP) hd iP (by
      intro H vs R' bA E' aB v Nl mD aBB T5 hE' BU cB
      have⟨b,hb⟩:=ih (yx sk o.dst) H (O++vs) K R' bA E' aB (by rw[BU];exact La.put o.dst _) cB Nl mD (by rw[aBB,iU];exact hK) (by rw[BU,gu,T5,ot];exact c7) (by
       rw[T5,ot];exact dZ.fwd (Y8 K) hE' (by rw[BU,gu])) (by
       rw[T5,ot];exact jC.fwd (Y8 K) hE' (by rw[BU,gu]))
      refine⟨max b aB.n,λN hN=>⟨ak,ak,?_⟩⟩;have:=hb N ak;rw[BU]at this;exact this) (by
      intro t pv V' I K' R' bA E' aB v hF qI hv cB;have⟨b,hb⟩:=jC t pv V' I K' R' bA E' aB v (ot▸hF) hv cB;exact⟨b,λN hN=>⟨(hb N hN).1,by rw[<-qI];exact(hb N hN).2⟩⟩)
     exact⟨b,λN hN=>.acR hw gC (XI N hN) (λv aG hv=>hv) λv aG hv=>hv⟩
    .exact ajq hC cH (ih (yx sk o.dst)) cC (by rw[fY];exact hn) (by rw[iU];exact hK) (by rw[ot];exact c7) hd (λx=>La.put o.dst x) (by rw[ot];exact dZ) (by rw[ot];exact jC) hw iP
   have IM:∀(V1:SS),JQQ Cx P O R X V1 E G->V1.n=V.n->V1.ln=V.ln->bE o ao (E d)=af->
    (jF P cfg self kx Cx d f0 af ao (Mo sk o.dst) l (V1.np d o.dst) kk).sat P C Q K O->∃b,∀N,b<=N->eV P N rd ao (o::l) (E d) df G (CX N):=by
    intro V1 cC fY Cc hw iP;have Q0:(V1.np d o.dst).ln=V.ln:=by rw[II,Cc]
    have⟨iU,ot⟩:=ou Q0
    have⟨b,hb⟩:=ih (Mo sk o.dst) (V1.np d o.dst) O K R X _ G (by rw[cI];exact La.add hd) iP (IH (x:=.undef) cC) (by rw[K6,fY];exact hn) (by rw[iU];exact hK) (by rw[cI,gu,ot];exact c7) (by
     rw[ot];have:=dZ.fwd (Fu:=[]) (E1:=nM E d ((E d).put o.dst .undef)) (Y8 K) (λj hj=>gj _ _ _ ak) (by rw[cI,gu]);rw[Z_]at this;exact this) (by
     rw[ot];have:=jC.fwd (Fu:=[]) (E1:=nM E d ((E d).put o.dst .undef)) (Y8 K) (λj hj=>gj _ _ _ ak) (by rw[cI,gu]);rw[Z_]at this;exact this)
    refine⟨b,λN hN=>.skip hw ?_⟩;have:=hb N hN;rw[cI]at this;exact this
   have⟨w1,w2,w3⟩:=aHm (o:=o) hJ c7 (ao:=ao)
   have w2':(if rp sk ao o=ab then Want.skip else yw ao d V o)=.skip->bE o ao (E d)=af:=λh=>by
    by_cases hq:rp sk ao o=ab
    .exact La.alw hq
    .rw[aY hq]at h;exact w2 h
   have w0:∀w,w≠.skip->(if rp sk ao o=ab then Want.skip else yw ao d V o)=w->yw ao d V o=w:=λw hw h=>by
    by_cases hq:rp sk ao o=ab
    .rw[aW hq]at h;exact bH h.symm hw
    .rw[aY hq]at h;exact h
   split at hs
   .rename_i hh;exact jU V hJ rfl rfl (w1 (w0 _ az hh)) hs
   .rename_i hh;exact IM V hJ rfl rfl (w2' hh) hs
   .rename_i t e want hh;replace hh:=w0 _ az hh;have⟨hg,hb⟩:=w3 _ _ _ hh;rcases hs with⟨h1,hs⟩|⟨h1,hs⟩
    .have⟨bx,cC⟩:=J.refine hJ hg h1;have hw:=hb _ bx;cases want
     .exact IM _ cC rfl rfl (by rw[hw];rfl) hs
     .exact jU _ cC rfl rfl (by rw[hw];rfl) hs
    .have⟨bx,cC⟩:=J.refine hJ hg h1;have hw:=hb _ bx;cases want
     .exact jU _ cC rfl rfl (by rw[hw];rfl) hs
     .exact IM _ cC rfl rfl (by rw[hw];rfl) hs
   .cases hs
end
section
variable{kx:Kx}
def adO(Cx:Cs)(fr:Bool)(P:V5)(C:Cr)(Q:IV->Prop)(cfg:fz)(self:qu)(kx:Kx)(d f0:Nat)(ao:Array YX)(pl:fK)(kk:SS->au)(CX:Nat->nN)(sk:aj Nat)(l:aj (YX×Nat)):Prop:=
 ∀(V:SS) O K R X E G,nO (E d) sk->(jF P cfg self kx Cx d f0 ab ao sk (l.map Yd) V kk).sat P C Q K O->JQQ Cx P O R X V E G->O.length=V.n->K.length=V.lv->(E d).n=V.nt->KS Cx P C Q d E K O V.nt kk (λN e G=>CX N .normal e G)->
  ∃e' aB,jb P 0 ao pl fr l (E d) G e' aB/\∃b,∀N,b<=N->aB.n<=N/\CX N .normal e' aB
variable{l:aj (YX×Nat)}{pl:fK}
def IN(ih:adO Cx fr P C Q cfg self kx d f0 ao pl kk CX sk l)(rQ:∀x,nO ((E d).put dst x) sk)(hd:∀t,dst=aa t->t<(E d).n){nt:Nat}(c7:(E d).n=nt)(dZ:KS Cx P C Q d E K O nt kk λN e G=>CX N .normal e G)
 
 (hJ:JQQ Cx P (O++I) R1 fa V1 E aG)(hn:(O++I).length=V1.n)(iU:K.length=V1.lv)(ot:V1.nt=nt)
 (hx:VR (aM P (O++I)) R1 fa V1.l aG x pv)(hs:(jF P cfg self kx Cx d f0 ab ao sk (l.map Yd) (V1.da d dst pv) kk).sat P C Q K (O++I)):
 ∃e' aB,jb P 0 ao pl fr l ((E d).put dst x) aG e' aB/\∃b,∀N,b<=N->aB.n<=N/\CX N .normal e' aB:=by
 have cC:=IG (d:=d) (dst:=dst) hJ hx hd;have RO:(V1.da d dst pv).nt=nt:=by cases dst<;>exact ot
 have ajf:(V1.da d dst pv).lv=V1.lv:=by cases dst<;>rfl
 have:=ih (V1.da d dst pv) (O++I) K R1 fa _ aG (by rw[cI];exact rQ x) hs cC (by rw[K5];exact hn) (by rw[ajf];exact iU) (by rw[cI,gu,c7,RO]) (by
  rw[RO];exact dZ.fwd (Y8 K) (λj hj=>by rw[gj _ _ _ ak]) (by rw[cI,gu]))
 rw[cI]at this;exact this
def aHg(cfg:fz)(g:V4):zX (DB cfg) g=af:=by
 cases h:zX (DB cfg) g with
 |false=>rfl
 |true=>
  simp only[zX,VM]at h;have⟨aq,h⟩:=h;have⟨n,hn,hg⟩:=UC.1 h;have:=ZR hg;have h2:=(Qz.1 hn).2;simp at h2 aq;omega
def aju(hC:lC P C)(hq:∀g,zX cfg g=ab->fr=ab)(ih:adO Cx fr P C Q cfg self kx d f0 ao pl kk CX sk l)(hJ:JQQ Cx P O R X V E G)(hn:O.length=V.n)(hK:K.length=V.lv)(c7:(E d).n=V.nt)
 (hd:∀t,o.dst=aa t->t<(E d).n)(rQ:∀x,nO ((E d).put o.dst x) sk)(dZ:KS Cx P C Q d E K O V.nt kk λN e G=>CX N .normal e G)(hw:bE o ao (E d)=ab)
 (hs:(Iu P cfg self kx Cx d f0 ab o V λpv V=>jF P cfg self kx Cx d f0 ab ao sk (l.map Yd) (V.da d o.dst pv) kk).sat P C Q K O):
 ∃e' aB,jb P 0 ao pl fr ((o,j)::l) (E d) G e' aB/\∃b,∀N,b<=N->aB.n<=N/\CX N .normal e' aB:=by
 have av4:(jB P d o V λpv V=>jF P cfg self kx Cx d f0 ab ao sk (l.map Yd) (V.da d o.dst pv) kk).sat P C Q K O->∃e' aB,jb P 0 ao pl fr ((o,j)::l) (E d) G e' aB/\∃b,∀N,b<=N->aB.n<=N/\CX N .normal e' aB:=by
  intro hs;have⟨x,aG,R1,fa,pv,V1,I,h1,h2,h3,h4,h5,h6⟩:=afX hJ hn hs;have⟨e',aB,g1,g2⟩:=IN ih rQ hd c7 dZ h2 h4 (by rw[(ou h5).1];omega) (ou h5).2 h3 h6;exact⟨e',aB,.val hw h1 g1,g2⟩
 simp only[Iu,if_true,Bool.not_true,TN,W8,if_false]at hs;unfold Pw at hs;split at hs
 .rename_i c ho;unfold Yu at hs;split at hs
  .simp_all
  .rename_i f hc;split at hs
   rotate_left
   .contradiction
   .cases hs
   rename_i g bs hf;simp only at hs;split at hs
   .split at hs
    all_goals contradiction
   split at hs
   .rename_i hp;simp only[VM,XT]at hp;have⟨kX,sE⟩:=hp;subst kX
    have aBC:∃(av:aj IV) (v:IV) (aG:St) (R1:Rs) (fa:Ph) (pv:PV SE) (V1:SS) (I:aj IV),aN P 0 (aT (E d)) o G=aa (.enter g av)/\(∀ro,kK P ro g av G v aG)/\(aG=G\/∃ob,aG=G.add ob)/\JQQ Cx P (O++I) R1 fa V1 E aG/\VR (aM P (O++I)) R1 fa V1.l aG v pv/\(O++I).length=V1.n/\V1.ln=V.ln/\
     (jF P cfg self kx Cx d f0 ab ao sk (l.map Yd) (V1.da d o.dst pv) kk).sat P C Q K (O++I):=by
     exact aIf hC hJ hn ho hc hf hs
    have⟨av,v,aG,R1,fa,pv,V1,I,gC,rN,yb,g1,g2,g3,g4,g5⟩:=aBC;have⟨e',aB,r1,r2⟩:=IN ih rQ hd c7 dZ g1 g3 (by rw[(ou g4).1];omega) (ou g4).2 g2 g5;rcases yb with rfl|⟨ob,rfl⟩
    .exact⟨e',aB,.UZ hw gC rN r1,r2⟩
    .exact⟨e',aB,.acM (hq g sE) hw gC rN r1,r2⟩
   split at hs
   .split at hs<;>exact hs.elim
   split at hs<;>try cases hs
   rename_i hp;simp only[VM,XT]at hp;have kX:=hp.1;subst kX;split at hs<;>try cases hs
   rename_i zs V' fn hr dX;split at hs<;>try exact hs.elim
   rename_i dj;simp only[VM]at dj;have⟨g',av,z,R1,pv,V1,I,h1,h2,h3,h4,h5,h6,h7⟩:=aei hC hJ hn ho hc hf hr dX dj.1.2 dj.2 dj.1.1 hs;have⟨e',aB,g1,g2⟩:=IN ih rQ hd c7 dZ h3 h5 (by rw[(ou h6).1];omega) (ou h6).2 h4 h7;exact⟨e',aB,.UZ hw h1 h2 g1,g2⟩
  .cases hs
 simp_all
theorem Bw(hC:lC P C)(hq:∀g,zX cfg g=ab->fr=ab):∀(l:aj (YX×Nat)) (sk:aj Nat),adO Cx fr P C Q cfg self kx d f0 ao pl kk CX sk l
 |[],sk=>by
  intro V O K R X E G _ hs hJ hn hK c7 dZ;exact⟨E d,G,.nil _ _,dZ.now hJ hn hK hs⟩
 |(o,j)::l,sk=>by
  intro V O K R X E G La hs hJ hn hK c7 dZ;have ih:=λsk=>Bw hC hq l sk;simp only[ZM,jF,if_true]at hs
  have hd0:∀t,o.dst=aa t->t<V.nt:=by
   intro t ht;rw[ht]at hs;by_cases aq:t<V.nt
   .exact aq
   .have:UO t V.nt=af:=by
     cases h:UO t V.nt
     .rfl
     .exact bH (by simpa using h) aq
    simp only[this]at hs;cases hs
  rw[aY]at hs
  rotate_left
  .cases hh:o.dst with
   |none=>simp
   |some t=>simp[hd0 t hh]
  .have hd:∀t,o.dst=aa t->t<(E d).n:=by rw[c7];exact hd0
   have jU:∀(V1:SS),JQQ Cx P O R X V1 E G->V1.n=V.n->V1.ln=V.ln->bE o ao (E d)=ab->
    (match D_ P cfg d ab o V1 with
     |some (g,av)=>Mk P cfg self kx d f0 o.dst g av V1 λV=>jF P cfg self kx Cx d f0 ab ao (yx sk o.dst) (l.map Yd) V kk
     |none=>Iu P cfg self kx Cx d f0 ab o V1 λpv V=>jF P cfg self kx Cx d f0 ab ao (yx sk o.dst) (l.map Yd) (V.da d o.dst pv) kk).sat P C Q K O->
    ∃e' aB,jb P 0 ao pl fr ((o,j)::l) (E d) G e' aB/\∃b,∀N,b<=N->aB.n<=N/\CX N .normal e' aB:=by
    intro V1 cC fY Cc hw iP;have⟨iU,ot⟩:=ou Cc;have:D_ P cfg d ab o V1=ah:=by simp[D_]
    rw[this]at iP;exact aju hC hq (ih (yx sk o.dst)) cC (by rw[fY];exact hn) (by rw[iU];exact hK) (by rw[ot];exact c7) hd (λx=>La.put o.dst x) (by rw[ot];exact dZ) hw iP
   have IM:∀(V1:SS),JQQ Cx P O R X V1 E G->V1.n=V.n->V1.ln=V.ln->bE o ao (E d)=af->
    (jF P cfg self kx Cx d f0 ab ao (Mo sk o.dst) (l.map Yd) (V1.np d o.dst) kk).sat P C Q K O->∃e' aB,jb P 0 ao pl fr ((o,j)::l) (E d) G e' aB/\∃b,∀N,b<=N->aB.n<=N/\CX N .normal e' aB:=by
    intro V1 cC fY Cc hw iP;have Q0:(V1.np d o.dst).ln=V.ln:=by rw[II,Cc]
    have⟨iU,ot⟩:=ou Q0
    have⟨e',aB,g1,g2⟩:=ih (Mo sk o.dst) (V1.np d o.dst) O K R X _ G (by rw[cI];exact La.add hd) iP (IH (x:=.undef) cC) (by rw[K6,fY];exact hn) (by rw[iU];exact hK) (by rw[cI,gu,ot];exact c7) (by
     rw[ot];have:=dZ.fwd (Fu:=[]) (E1:=nM E d ((E d).put o.dst .undef)) (Y8 K) (λj hj=>gj _ _ _ ak) (by rw[cI,gu]);rw[Z_]at this;exact this)
    rw[cI]at g1;exact⟨e',aB,.skip hw g1,g2⟩
   have⟨w1,w2,w3⟩:=aHm (o:=o) hJ c7 (ao:=ao)
   have w2':(if rp sk ao o=ab then Want.skip else yw ao d V o)=.skip->bE o ao (E d)=af:=λh=>by
    by_cases hq:rp sk ao o=ab
    .exact La.alw hq
    .rw[aY hq]at h;exact w2 h
   have w0:∀w,w≠.skip->(if rp sk ao o=ab then Want.skip else yw ao d V o)=w->yw ao d V o=w:=λw hw h=>by
    by_cases hq:rp sk ao o=ab
    .rw[aW hq]at h;exact bH h.symm hw
    .rw[aY hq]at h;exact h
   split at hs
   .rename_i hh;exact jU V hJ rfl rfl (w1 (w0 _ az hh)) hs
   .rename_i hh;exact IM V hJ rfl rfl (w2' hh) hs
   .rename_i t e want hh;replace hh:=w0 _ az hh;have⟨hg,hb⟩:=w3 _ _ _ hh;rcases hs with⟨h1,hs⟩|⟨h1,hs⟩
    .have⟨bx,cC⟩:=J.refine hJ hg h1;have hw:=hb _ bx;cases want
     .exact IM _ cC rfl rfl (by rw[hw];rfl) hs
     .exact jU _ cC rfl rfl (by rw[hw];rfl) hs
    .have⟨bx,cC⟩:=J.refine hJ hg h1;have hw:=hb _ bx;cases want
     .exact jU _ cC rfl rfl (by rw[hw];rfl) hs
     .exact IM _ cC rfl rfl (by rw[hw];rfl) hs
   .cases hs
def aaL(hJ:JQQ Cx P O R X V E G)(c7:(E d).n=V.nt):om G.n (E d) (yy d V):=by
 refine⟨c7,λt ht=>?_,λt ht=>by cases ht⟩;simp only[gT,UC]at ht;have⟨t',TS,hb⟩:=ht;have:=ZR hb;subst this;have h2:=(Qz.1 TS).2;split at h2
 .rename_i k ay ext hg;have⟨id,cs,h3,_,h5⟩:=hJ.slot d t _ hg;exact .inl ⟨id,ay,0,ext,h5,(hJ.lt k id h3).2⟩
 .rename_i cs hg;have⟨ds,h3,_⟩:=hJ.slot d t _ hg;exact .inr (.inl ⟨ds,h3⟩)
 grind
def aIp(hJ:JQQ Cx P O R X V E G):uu P ao X (E d) G (yy d V):=by
 refine⟨λt h ht=>?_,(λi a d h hm=>by cases hm),λt h ht=>?_⟩
 rotate_left
 .have⟨⟨d',t',pv⟩,_,h2⟩:=aJ6.1 (show(t,h)∈V.g.filterMap _ from ht);simp only at h2;split at h2<;>try grind
  split at h2<;>try grind
  split at h2<;>try grind
  split at h2<;>try grind
  rename_i k hg _ kt es hl hit;cases h2;have⟨id,uo,bF,h3,h4,h5⟩:=hJ.slot d _ _ hg
  grind
 have⟨⟨d',t',pv⟩,_,h2⟩:=aJ6.1 (show(t,h)∈V.g.filterMap _ from ht);simp only at h2;split at h2<;>try grind
 split at h2<;>try grind
 rename_i k ay ext hg;cases h2;have⟨id,cs,h3,_,h5⟩:=hJ.slot d _ _ hg
 grind
def Oo{n0:Nat}(hR:∀id m,R id=aa m->id<n0)(h:bZ fr R G x y):Rk n0 x:=by
 cases h with
 |raw v=>exact⟨(λ_ _ _ _ _ _ h=>(by cases h)),(λ_ _ _ _ h=>(by cases h))⟩
 |nil s hs=>exact⟨(λ_ _ _ _ _ _ h=>(by cases h)),(λ_ _ _ _ h=>(by cases h))⟩
 |emp s hs=>exact⟨(λ_ _ _ _ _ _ h=>(by cases h)),(λ_ _ _ _ h=>(by cases h))⟩
 |eT t x y h=>exact⟨(λ_ _ _ _ _ _ h=>(by cases h)),(λ_ _ _ _ h=>(by cases h))⟩
 |agg cs ds hl h=>exact⟨(λ_ _ _ _ _ _ h=>(by cases h)),(λ_ _ _ _ h=>(by cases h))⟩
 |aU cs ds hl h=>exact⟨(λ_ _ _ _ _ _ h=>(by cases h)),(λ_ _ _ _ h=>(by cases h))⟩
 |pure x hf hp=>exact⟨(λ_ _ _ _ _ _ h=>by subst h;cases hp),(λ_ _ _ _ h=>by subst h;cases hp)⟩
 |sl id ay len cap ep s m cs aV mn es h1=>exact⟨λ_ _ _ _ _ _ h=>by cases h;exact hR _ _ h1,(λ_ _ _ _ h=>(by cases h))⟩
def ajv(hJ:JQQ Cx P O R X V E G)(ht:gT (yy d V).pv t=ab):WJ G.n G ((E d).at t):=by
 simp only[gT,UC]at ht;have⟨t',TS,hb⟩:=ht;have:=ZR hb;subst this;have h2:=(Qz.1 TS).2;split at h2<;>try grind
 rename_i k ay ext hg;split at h2<;>try grind
 rename_i cs hl;have⟨id,cL,h3,h4,h5⟩:=hJ.slot d t _ hg;have⟨bY,dR,h6,_,h7,h8⟩:=hJ.obj k _ hl;rw[h3]at h6;cases h6;refine⟨id,ay,0,ext,h5,(hJ.lt k id h3).2,λBr a b bx c hc=>?_⟩;rw[h7]at bx;cases bx;have⟨j,hj⟩:=List.mem_iff_getElem?.1 hc;have fQ:j<cs.length:=by grind [h8.len]
 have hr:=h8.get hj (UN fQ);have hv:=US.1 h2 _ (Z4 fQ);generalize cs[j]=x at hr hv;cases x<;>try grind
 have⟨y,_,hy,_⟩:=hr;exact Oo (λ_ _ h=>by cases h) hy
def akM(hJ:JQQ Cx P O R X V E G):qq P ao G.n (E d) G (yy d V):=by
 refine⟨XS _,λt ht=>?_,(λt ht=>(by cases ht)),(λt ht=>(by cases ht)),(λi a d hm=>(by cases hm)),λt ht=>?_⟩
 rotate_left
 .exact ajv hJ ht
 simp only[gT,UC]at ht;have⟨t',TS,hb⟩:=ht;have:=ZR hb;subst this;have h2:=(Qz.1 TS).2;split at h2
 .rename_i z hg;have⟨y,_,h3,_⟩:=hJ.slot d t _ hg;exact Oo (λ_ _ h=>by cases h) h3
 .rename_i fr z hg;have⟨y,_,h3,_⟩:=hJ.slot d t _ hg;exact Oo hJ.tC h3
 grind
def ajw(fG:P.follows .mixedOrders=ab)(hC:lC P C){fn:V4}(iv:((cU ao).ok&&(Ff ao (cU ao)||lu P (cU ao) ao.toList.zipIdx (yy d V)))=ab)(hs:(jF P (if lu P (cU ao) ao.toList.zipIdx (yy d V)then cfg else DB cfg) self kx Cx d f0 ab ao [] ao.toList V kk).sat P C Q K O)
 (hJ:JQQ Cx P O R X V E G)(hn:O.length=V.n)(hK:K.length=V.lv)(c7:(E d).n=V.nt)(dZ:KS Cx P C Q d E K O V.nt kk λN e G=>CX N .normal e G):
 ∃b,∀N,b<=N->dP P N rd (.region id ao ab) (E d) df G (CX N):=by
 simp only[VM,P6]at iv;have cd:ao.toList.zipIdx.map (·.1)=ao.toList:=az;by_cases hq:lu P (cU ao) ao.toList.zipIdx (yy d V)=ab
 .rw[aW hq]at hs;obtain⟨e',aB,h1,b,hb⟩:=Bw (fr:=ab) (pl:=cU ao) (CX:=CX) hC (λ_ _=>rfl) ao.toList.zipIdx [] V O K R X E G (nO.nil _) (by rw[cd];exact hs) hJ hn hK c7 dZ;exact⟨b,λN hN=>dP.ofS (fn:=fn) (λ_=>jn.acY fG iv.1 hq (aaL hJ c7) hJ.inj ⟨aIp hJ,akM hJ⟩ hJ.wf h1) (hb N hN).1 (hb N hN).2⟩
 .rw[aY hq]at hs;obtain⟨e',aB,h1,b,hb⟩:=Bw (fr:=af) (pl:=cU ao) (CX:=CX) hC (λg hg=>by rw[aHg]at hg;cases hg) ao.toList.zipIdx [] V O K R X E G (nO.nil _) (by rw[cd];exact hs) hJ hn hK c7 dZ;rcases iv.2 with ux|ux
  .exact⟨b,λN hN=>dP.ofS (fn:=fn) (λ_=>jn.draw fG iv.1 ux hJ.wf h1) (hb N hN).1 (hb N hN).2⟩
  .exact bH ux hq
def aF2(fG:P.follows .mixedOrders=ab)(hC:lC P C)(cH:qN Cx P C Q self)(iv:(U3 ao j&&(cU (ao.extract 0 j)).ok&&(Ff (ao.extract 0 j) (cU (ao.extract 0 j))||lu P (cU (ao.extract 0 j)) (ao.extract 0 j).toList.zipIdx (yy d V)))=ab)
 (hs:(jF P (if lu P (cU (ao.extract 0 j)) (ao.extract 0 j).toList.zipIdx (yy d V)then cfg else DB cfg) self kx Cx d f0 ab (ao.extract 0 j) [] (ao.extract 0 j).toList V λV=>jF P cfg self kx Cx d f0 af ao [] (ao.toList.drop j) V kk).sat P C Q K O)
 (hJ:JQQ Cx P O R X V E G)(hn:O.length=V.n)(hK:K.length=V.lv)(c7:(E d).n=V.nt)(dZ:KS Cx P C Q d E K O V.nt kk λN e G=>CX N .normal e G)(jC:KP Cx P C Q d E K O V.nt kx λN v e G=>CX N (.dh v) e G):
 ∃b,∀N,b<=N->dP P N rd (.region id ao ab) (E d) df G (CX N):=by
 simp only[VM,P6]at iv;have⟨⟨ht,ue⟩,hq0⟩:=iv;have cd:(ao.extract 0 j).toList.zipIdx.map (·.1)=(ao.extract 0 j).toList:=az
 have arc:KS Cx P C Q d E K O V.nt (λV=>jF P cfg self kx Cx d f0 af ao [] (ao.toList.drop j) V kk) (λN e G=>(λN (_:Ex) e G=>eV P N rd ao (ao.toList.drop j) e df G (CX N)) N .normal e G):=by
  intro V' I K' R' bA E' aB hf cB;have⟨b,hb⟩:=RR (CX:=CX) (rd:=rd) (df:=df) hC cH (ao.toList.drop j) [] V' (O++I) K' R' bA E' aB (nO.nil _) cB hf.hJ hf.hn hf.iU (by rw[hf.J2,c7,hf.c7]) (by rw[hf.c7];exact dZ.fwd hf.hK hf.hE hf.J2) (by rw[hf.c7];exact jC.fwd hf.hK hf.hE hf.J2);exact⟨max b aB.n,λN hN=>⟨ak,hb N ak⟩⟩
 by_cases hq:lu P (cU (ao.extract 0 j)) (ao.extract 0 j).toList.zipIdx (yy d V)=ab
 .rw[aW hq]at hs;obtain⟨e',aB,h1,b,hb⟩:=Bw (fr:=ab) (pl:=cU (ao.extract 0 j)) (CX:=λN _ e G=>eV P N rd ao (ao.toList.drop j) e df G (CX N)) hC (λ_ _=>rfl) (ao.extract 0 j).toList.zipIdx [] V O K R X E G (nO.nil _) (by rw[cd];exact hs) hJ hn hK c7 arc;exact⟨b,λN hN=>dP.aef fG ht ue (λ_=>N0.acY ue hq (aaL hJ c7) hJ.inj ⟨aIp hJ,akM hJ⟩ hJ.wf h1) (hb N hN).1 (hb N hN).2⟩
 .rw[aY hq]at hs;obtain⟨e',aB,h1,b,hb⟩:=Bw (fr:=af) (pl:=cU (ao.extract 0 j)) (CX:=λN _ e G=>eV P N rd ao (ao.toList.drop j) e df G (CX N)) hC (λg hg=>by rw[aHg]at hg;cases hg) (ao.extract 0 j).toList.zipIdx [] V O K R X E G (nO.nil _) (by rw[cd];exact hs) hJ hn hK c7 arc;rcases hq0 with ux|ux
  .exact⟨b,λN hN=>dP.aef fG ht ue (λ_=>N0.draw ue ux hJ.wf h1) (hb N hN).1 (hb N hN).2⟩
  .exact bH ux hq
variable{x:Ex}{lR:Bool}
theorem XR.goto(h:XR P O R X L G ex x)(l:Nat):x≠.goto l:=by
 cases ex with
 |dh t pv=>obtain⟨v,rfl,_⟩:=h;simp
 |_=>rw[show x=_ from h];simp
def XR.norm(h:XR P O R X L G ex x)(cg:ex≠.normal):x≠.normal:=by
 cases ex with
 |normal=>grind
 |dh t pv=>obtain⟨v,rfl,_⟩:=h;simp
 |_=>rw[show x=_ from h];simp
def aaM{c:Cl SE}(hc:c≠.un)(h:cJ P d V 0 (.tmp t)=.one c):dk d t V.g=aa (.one c):=by
 simp only[cJ]at h;cases hg:dk d t V.g with
 |none=>grind
 |some pv=>grind
def KW.ks{kk:zC->SS->au}{nt:Nat}(h:KW Cx P C Q d E K O nt kk CW):KS Cx P C Q d E K O nt (kk .normal) (λN e G=>CW N .normal e G):=
 λV' I K' R' bA E' aB hf hs=>h .normal V' I K' R' bA E' aB _ hf rfl hs
variable{ws:aj (Nat×Nat×Nat)}
theorem aIQ{a:Code}{k:zC->SS->au}{mm f:Nat}{bad:SS->au}(hKl:K.length=lv)(iQ:lR=af->rd=ah)(cH:qN Cx P C Q self)(aBD:∀W K O,¬(bad W).sat P C Q K O)
 (hK:K.length+1=H.lv)(hHn:H.n=n+mm)(hn:O.length=n)(mf:KW Cx P C Q d E K O H.nt k CW):∀(m:Nat) {vs:aj IV} {R:Rs} {X:Ph} {E1:Nat->aK} {G:St},JQQ Cx P (O++vs) R X H E1 G->vs.length=mm->(∀j,j<d->E1 j=E j)->(E1 d).n=(E d).n->(E d).n=H.nt->
  (Nat.rec (motive:=λ_=>aj IV->Prop) (λ_=>False) (λ_ ih vs=>(self lR d f a H λex W=>match ex with
   |.normal=>match inst n mm H (Mg ws H W)with
    |some (av,_)=>.next lv (fZ av)
    |none=>bad W
   |ex=>k ex W).sat P C Q (K++[ih]) (O++vs)) m) vs->∃b,∀N,b<=N->sY P N rd m a (E1 d) df G (CW N)
 |0,_,_,_,_,_,_,_,_,_,_,h=>h.elim
 |m+1,vs,R,X,E1,G,hJ,fk,hE,hE1,hE2,h=>by
  obtain⟨b,hb⟩:=cH lR d f a H _ (O++vs) _ R X E1 G (λN=>Bj N (λe1 aG=>sY P N rd m a e1 df aG (CW N)) (CW N)) rd df iQ h hJ aI aI ak (by
   intro ex V' I K' R' bA E' aB x hf hx hs
   have other:∀Bx,Bx≠.normal->XR P (O++vs++I) R' bA V'.l aB Bx x->(k Bx V').sat P C Q K' (O++vs++I)->∃b,∀N,b<=N->aB.n<=N/\Bj N (λe1 aG=>sY P N rd m a e1 df aG (CW N)) (CW N) x (E' d) aB:=by
    intro Bx cg hx hs;have aBE:∀x,KW Cx P C Q d E1 (K++[x]) (O++vs) H.nt k CW:=λx=>mf.fwd (aJ5 K [x]) hE hE1;have⟨b,hb⟩:=aBE _ Bx V' I K' R' bA E' aB x hf hx hs;exact⟨b,λN hN=>⟨(hb N hN).1,(hb N hN).1,λh=>bH h (hx.norm cg),λ_=>(hb N hN).2⟩⟩
   cases ex with
   |normal=>
    obtain rfl:=hx;simp only at hs;split at hs
    .rename_i es fJ hi;have⟨R2,gD,DU,_⟩:=aje ws H hf.hJ;have⟨us,p,h1,h2,h3⟩:=hs;have⟨bf,yC⟩:=RN (vH:=O) gD hn ⟨vs++I,az⟩ hi (On h1);have⟨t,ht⟩:=hf.hK;rw[<-ht,ZZ,Ub ak,hKl,aK8]at h2;simp only[To,aJF,ZY]at h2;subst h2;have⟨b,hb⟩:=aIQ hKl iQ cH aBD hK hHn hn mf m yC bf (λj hj=>by rw[hf.hE j hj,hE j hj]) (by rw[hf.J2,hE1]) hE2 h3;exact⟨max b aB.n,λN hN=>⟨ak,ak,λ_=>hb N ak,λh=>bH rfl h⟩⟩
    grind
   |exit i=>exact other (.exit i) az hx hs
   |ret=>exact other .ret az hx hs
   |dh t pv=>exact other (.dh t pv) az hx hs)
  exact⟨b,λN hN=>.succ (hb N hN)⟩
theorem akt{a:Code}{k:zC->SS->au}(iQ:lR=af->rd=ah)(cH:qN Cx P C Q self):∀(n:Nat) (V:SS) O K R X E G,(Rz self lR d f a k n V).sat P C Q K O->JQQ Cx P O R X V E G->O.length=V.n->K.length=V.lv->(E d).n=V.nt->KW Cx P C Q d E K O V.nt k CW->
 ∃b,∀N,b<=N->sY P N rd n a (E d) df G (CW N)
 |0,_,_,_,_,_,_,_,hs,_,_,_,_,_=>hs.elim
 |n+1,V,O,K,R,X,E,G,hs,hJ,hn,hK,c7,mf=>by
  obtain⟨b,hb⟩:=cH lR d f a V _ O K R X E G (λN=>Bj N (λe1 aG=>sY P N rd n a e1 df aG (CW N)) (CW N)) rd df iQ hs hJ hn hK c7 (by
   intro ex V' I K' R' bA E' aB x0 hf hx cB
   have other:∀Bx,Bx≠.normal->XR P (O++I) R' bA V'.l aB Bx x0->(k Bx V').sat P C Q K' (O++I)->∃b,∀N,b<=N->aB.n<=N/\Bj N (λe1 aG=>sY P N rd n a e1 df aG (CW N)) (CW N) x0 (E' d) aB:=by
    intro Bx cg hx hs;have⟨b,hb⟩:=mf Bx V' I K' R' bA E' aB x0 hf hx hs;exact⟨b,λN hN=>⟨(hb N hN).1,(hb N hN).1,λh=>bH h (hx.norm cg),λ_=>(hb N hN).2⟩⟩
   cases ex with
   |normal=>
    obtain rfl:=hx
    obtain⟨b,hb⟩:=akt iQ cH n V' (O++I) K' R' bA E' aB cB hf.hJ hf.hn hf.iU (by rw[hf.J2,c7,hf.c7]) (by
     rw[hf.c7];exact mf.fwd hf.hK hf.hE hf.J2)
    exact⟨max b aB.n,λN hN=>⟨ak,ak,λ_=>hb N ak,λh=>bH rfl h⟩⟩
   |exit i=>exact other (.exit i) az hx cB
   |ret=>exact other .ret az hx cB
   |dh t pv=>exact other (.dh t pv) az hx cB)
  exact⟨b,λN hN=>.succ (hb N hN)⟩
def aFX(fG:P.follows .mixedOrders=ab)(hC:lC P C){ly:Cs->qu}(P4:∀Cx Q,qN Cx P C Q (ly Cx)):qN Cx P C Q (zY P cfg Cx ly):=by
 have cH:=P4 Cx Q;intro lR d f c V k O K R X E G CW rd df iQ hs hJ hn hK c7 mf;cases c with
 |skip=>
  obtain⟨b,hb⟩:=mf.now hJ hn hK (ex:=.normal) rfl hs;exact⟨b,λN hN=>.skip (hb N hN).2⟩
 |label l=>
  obtain⟨b,hb⟩:=mf.now hJ hn hK (ex:=.normal) rfl hs;exact⟨b,λN hN=>.label (hb N hN).2⟩
 |exit id=>
  obtain⟨b,hb⟩:=mf.now hJ hn hK (ex:=.exit id) rfl hs;exact⟨b,λN hN=>.exit (hb N hN).2⟩
 |ret=>
  obtain⟨b,hb⟩:=mf.now hJ hn hK (ex:=.ret) rfl hs;exact⟨b,λN hN=>.ret (hb N hN).2⟩
 |region id ao draw=>
  cases draw with
  |true=>
   simp only[zY,if_true]at hs;split at hs
   .split at hs<;>try cases hs
    rename_i iv;exact aF2 fG hC cH iv hs hJ hn hK c7 mf.ks mf.kp
   split at hs
   .rename_i iv;exact ajw (fn:=0) fG hC iv hs hJ hn hK c7 mf.ks
   .cases hs
  |false=>
   obtain⟨b,hb⟩:=RR (CX:=CW) (rd:=rd) (df:=df) hC cH ao.toList [] V O K R X E G (nO.nil _) hs hJ hn hK c7 mf.ks mf.kp;exact⟨b,λN hN=>.region (hb N hN)⟩
 |seq x y=>
  obtain⟨b,hb⟩:=cH lR d f x V _ O K R X E G (λN=>Bj N (λe1 aG=>dP P N rd y e1 df aG (CW N)) (CW N)) rd df iQ hs hJ hn hK c7 (by
   intro ex V' I K' R' bA E' aB x0 hf hx cB
   have other:∀Bx,Bx≠.normal->XR P (O++I) R' bA V'.l aB Bx x0->(k Bx V').sat P C Q K' (O++I)->∃b,∀N,b<=N->aB.n<=N/\Bj N (λe1 aG=>dP P N rd y e1 df aG (CW N)) (CW N) x0 (E' d) aB:=by
    intro Bx cg hx hs;have⟨b,hb⟩:=mf Bx V' I K' R' bA E' aB x0 hf hx hs;exact⟨b,λN hN=>⟨(hb N hN).1,(hb N hN).1,λh=>bH h (hx.norm cg),λ_=>(hb N hN).2⟩⟩
   cases ex with
   |normal=>
    obtain rfl:=hx
    have⟨b,hb⟩:=cH lR d f y V' k (O++I) K' R' bA E' aB CW rd df iQ cB hf.hJ hf.hn hf.iU (by rw[hf.J2,c7,hf.c7]) (by
     rw[hf.c7];exact mf.fwd hf.hK hf.hE hf.J2)
    exact⟨max b aB.n,λN hN=>⟨ak,ak,λ_=>hb N ak,λh=>bH rfl h⟩⟩
   |exit i=>exact other (.exit i) az hx cB
   |ret=>exact other .ret az hx cB
   |dh t pv=>exact other (.dh t pv) az hx cB)
  exact⟨b,λN hN=>.seq (hb N hN)⟩
 |cond c x y=>
  simp only[zY]at hs;have hc:=b_ hJ d 0 c;split at hs
  .rename_i hh;rw[hh]at hc;have⟨u,h1,h2,_⟩:=hc;simp only[UU,ZY]at h1;subst h1;have⟨b,hb⟩:=cH lR d f x V k O K R X E G CW rd df iQ hs hJ hn hK c7 mf;exact⟨b,λN hN=>.cond (dH h2) aI⟩
  .rename_i hh;rw[hh]at hc;have⟨u,h1,h2,_⟩:=hc;simp only[UU,ZY]at h1;subst h1;have⟨b,hb⟩:=cH lR d f y V k O K R X E G CW rd df iQ hs hJ hn hK c7 mf;exact⟨b,λN hN=>.cond (dH h2) aI⟩
  .rename_i e _ _ hh;split at hs<;>try cases hs
   split at hs
   .cases hs
   .have hg:=aaM az hh;rcases hs with⟨h1,hs⟩|⟨h1,hs⟩
    .have⟨bx,cC⟩:=J.refine hJ (.inl hg) h1;have⟨b,hb⟩:=cH lR d f x _ k O K R X E G CW rd df iQ hs cC hn hK c7 mf;exact⟨b,λN hN=>.cond (t:=ab) bx aI⟩
    .have⟨bx,cC⟩:=J.refine hJ (.inl hg) h1;have⟨b,hb⟩:=cH lR d f y _ k O K R X E G CW rd df iQ hs cC hn hK c7 mf;exact⟨b,λN hN=>.cond (t:=af) bx aI⟩
  .rename_i e hh;split at hs<;>try cases hs
   split at hs
   .cases hs
   .have hg:=aaM az hh;rcases hs with⟨h1,hs⟩|⟨h1,hs⟩
    .have⟨bx,cC⟩:=J.refine hJ (.inr ⟨_,hg⟩) h1;have⟨b,hb⟩:=cH lR d f x _ k O K R X E G CW rd df iQ hs cC hn hK c7 mf;exact⟨b,λN hN=>.cond (t:=ab) bx aI⟩
    .have⟨bx,cC⟩:=J.refine hJ (.inr ⟨_,hg⟩) h1;have⟨b,hb⟩:=cH lR d f y _ k O K R X E G CW rd df iQ hs cC hn hK c7 mf;exact⟨b,λN hN=>.cond (t:=af) bx aI⟩
  .cases hs
 |block id x=>
  obtain⟨b,hb⟩:=cH lR d f x V _ O K R X E G (λN ex e1 aG=>CW N (match ex with|.exit i=>if i=id then .normal else .exit i|ex=>ex) e1 aG) rd df iQ hs hJ hn hK c7 (by
   intro ex V' I K' R' bA E' aB x0 hf hx cB;cases ex with
   |normal=>obtain rfl:=hx;exact mf .normal V' I K' R' bA E' aB _ hf rfl cB
   |ret=>obtain rfl:=hx;exact mf .ret V' I K' R' bA E' aB _ hf rfl cB
   |dh t pv=>obtain⟨v,rfl,hv⟩:=hx;exact mf (.dh t pv) V' I K' R' bA E' aB _ hf ⟨v,rfl,hv⟩ cB
   |exit i=>
    obtain rfl:=hx;simp only at cB;split at cB
    .rename_i hh;have:=ZR hh;subst this;simpa using mf .normal V' I K' R' bA E' aB _ hf rfl cB
    .have cg:i≠id:=by rintro rfl;simp_all
     simpa[cg]using mf (.exit i) V' I K' R' bA E' aB _ hf rfl cB)
  exact⟨b,λN hN=>.block (hb N hN)⟩
 |scope x=>
  have⟨b,hb⟩:=cH lR d f x V k O K R X E G (λN ex e1 aG=>(∀l,ex≠.goto l)/\CW N ex e1 aG) rd df iQ hs hJ hn hK c7 (by
   intro ex V' I K' R' bA E' aB x0 hf hx cB;have⟨b,hb⟩:=mf ex V' I K' R' bA E' aB x0 hf hx cB;exact⟨b,λN hN=>⟨(hb N hN).1,hx.goto,(hb N hN).2⟩⟩)
  exact⟨b,λN hN=>.scope (hb N hN)⟩
 |loop x=>
  simp only[zY]at hs;split at hs
  .rename_i nn _;have⟨b,hb⟩:=akt (rd:=rd) (df:=df) iQ cH nn V O K R X E G hs hJ hn hK c7 mf;exact⟨b,λN hN=>.loop (hb N hN)⟩
  split at hs<;>try cases hs
  rename_i es fJ hi
  obtain⟨_,hs⟩:True/\(au.loop (fZ es) _).sat P C Q K O:=by
   split at hs
   .exact⟨trivial,hs⟩
   grind
  have⟨vs,h1,m,h2⟩:=hs;obtain⟨R2,gD,DU,_⟩:=aGL _ hJ;have⟨bf,yC⟩:=RN (vH:=O) gD ak ⟨[],az⟩ hi (On h1);obtain⟨b,hb⟩:=aIQ (rd:=rd) (df:=df) (CW:=CW) (E:=E) (bad:=λW=>.bad _ _ _ _ _ _ _ W.g W.l) hK iQ cH (λ_ _ _ h=>h) aI cE (hn.trans DU.symm) ak m yC bf (λ_ _=>rfl) rfl ak h2;exact⟨b,λN hN=>.loop (hb N hN)⟩
 |rangeFunc g params assign body=>
  simp only[zY]at hs;split at hs<;>try cases hs
  obtain rfl:=iQ aI;split at hs<;>try cases hs
  rename_i F bs hg;exact af8 (λCx=>P4 Cx Q) hJ hn hK c7 mf hg hs
 |_=>cases hs
theorem aHF(fG:P.follows .mixedOrders=ab)(hC:lC P C):∀n Cx Q,qN Cx P C Q (exec P cfg n Cx)
 |0,_,_=>λ_ _ _ _ _ _ _ _ _ _ _ _ _ _ _ _ hs _ _ _ _ _=>hs.elim
 |n+1,_,_=>aFX fG hC (aHF fG hC n)
def RS(fG:P.follows .mixedOrders=ab)(hC:lC P C)(n:Nat)(Cx:Cs):qN Cx P C Q (exec P cfg n Cx):=aHF fG hC n Cx Q
end
def lY.vr1(h:lY P O R X V G R1 V1)(hx:zA (aM P O) R X V.l G x p):zA (aM P O) R1 X V1.l G x p:=by
 unfold zA at hx⊢;split
 .rename_i hp;rw[aW hp]at hx;have⟨xs,h1,h2⟩:=hx;exact⟨xs,h1,h2.mono λ_ _ di=>h.W9 di⟩
 .rename_i hp;rw[aY hp]at hx;have⟨c,h1,h2⟩:=hx;exact⟨c,h1,h.W9 h2⟩
theorem aaN:∀{vs:aj (Bool×aj (Cl SE))} {V V':SS} {R:Rs} {fr:Bool} {zs:aj SE},J Cx (aM P O) R X V.g V.l E G->BQ.PR V vs=aa (fr,zs,V')->
 ∃R',lY P O R X V G R' V'/\J Cx (aM P O) R' X V'.g V'.l E G/\∀xs,All2 (zA (aM P O) R X V.l G) xs vs->∃ys,All2 (λ(z:SE) y=>z.den P O=aa y) zs ys/\All2 (bZ fr R' G) xs ys
 |[],V,V',R,fr,zs,h,hr=>by
  obtain⟨rfl,rfl,rfl⟩:=hr;refine⟨R,.refl h,h,λxs hx=>?_⟩;cases xs with
  |nil=>exact⟨[],trivial,trivial⟩
  |cons=>cases hx
 |(a,cs)::vs,V,V',R,fr,zs,h,hr=>by
  simp only[BQ.PR]at hr;split at hr
  .rename_i f1 z1 V1 h1;split at hr
   .rename_i f2 ys2 V2 h2;have⟨R1,a1,a2,_,a3⟩:=DD h h1;have⟨R2,b1,b2,b3⟩:=aaN a2 h2
    have key:∀z,(a=ab->z=fZ z1)->(a=af->z1=[z])->(f1||f2,z::ys2,V2)=(fr,zs,V')->∃R',lY P O R X V G R' V'/\J Cx (aM P O) R' X V'.g V'.l E G/\∀xs,All2 (zA (aM P O) R X V.l G) xs ((a,cs)::vs)->∃ys,All2 (λ(z:SE) y=>z.den P O=aa y) zs ys/\All2 (bZ fr R' G) xs ys:=by
     intro z xO Hp he;obtain⟨rfl,rfl,rfl⟩:=he;refine⟨R2,a1.trans b1,b2,λxs hx=>?_⟩;cases xs with
     |nil=>cases hx
     |cons x xs=>
      have⟨ys,d1,d2⟩:=b3 xs (hx.2.mono λ_ _ di=>a1.vr1 di);have EX:=hx.1;unfold zA at EX;cases a with
      |true=>
       obtain⟨us,rfl,h5⟩:=EX;have⟨ws,e1,e2,_⟩:=a3 us h5;refine⟨.agg ws::ys,⟨by rw[xO rfl];exact ig e1,d1⟩,⟨?_,d2.mono λ_ _ di=>di.wide (λh=>by simp[h])⟩⟩;exact .agg us ws e2.len λi c e g1 g2=>((e2.get g1 g2).mono b1.2.2.2.grow).wide (λh=>aI)
      |false=>
       simp only at EX;have⟨c,hc,h5⟩:=EX;have⟨ws,e1,e2,_⟩:=a3 [x] (by rw[hc];exact⟨h5,trivial⟩);rw[Hp rfl]at e1;cases ws with
       |nil=>cases e1
       |cons y ws=>
        exact⟨y::ys,⟨e1.1,d1⟩,⟨(e2.1.mono b1.2.2.2.grow).wide (λh=>aI),d2.mono λ_ _ di=>di.wide (λh=>aI)⟩⟩
    grind
   grind
  grind
theorem ac4{z:SE}(h:J Cx (aM P O) R X V.g V.l E G)(hr:BQ V pv=aa (fr,z,V'))(hx:VR (aM P O) R X V.l G x pv):
 ∃R' y,z.den P O=aa y/\bZ fr R' G x y:=by
 cases pv with
 |one c=>
  have⟨R',_,_,h3⟩:=RI h hr (λ_ h=>by cases h)
  grind
 |ag cs=>
  have⟨R',_,_,h3⟩:=RI h hr (λ_ h=>by cases h)
  grind
 |tu vs=>
  simp only[BQ]at hr;split at hr
  .rename_i f zs V1 yF;obtain⟨rfl,rfl,rfl⟩:=hr;have⟨R',_,_,h3⟩:=aaN h yF;obtain⟨xs,rfl,xG⟩:=hx;have⟨ys,a,b⟩:=h3 xs xG;exact⟨R',.aU ys,by simp[UU,ig a],.aU xs ys b.len λi c e h1 h2=>b.get h1 h2⟩
  grind
variable{f:V4}{k dO b:au}{aH nm:Bool}{K':aj (aj IV->Prop)}{init e:SE}
def Lb{f:au}(hp:∀v∈av,Pure v):∀{ts:aj VK} {j:Nat},(yz P j ts f).sat P C Q K av->j+ts.length=av.length->f.sat P C Q K av/\All2 (VR (aM P av) R X L G) (av.drop j) (mw P j ts)
 |[],j,hs,hl=>by
  simp at hl;rw[ZX ak];exact⟨hs,trivial⟩
 |t::ts,j,hs,hl=>by
  simp at hl;have hj:j<av.length:=ak;have hd:(SE.var j).den P av=aa av[j]:=by simp[UU]
  have⟨h1,h2,_⟩:=K3 (R:=R) (X:=X) (L:=L) (G:=G) hd (hp _ (Z4 hj)) hs;have⟨h4,h5⟩:=Lb hp h1 ak;exists h4;rw[UQ hj];exact⟨h2,h5⟩
def aGA(h:aZ z=ab)(hc:bZ fr R G x z):bZ af R G x z:=by
 cases z<;>simp only[aZ]at h<;>try grind
 rw[dH hc];exact .raw _
def eO.XV(fG:P.follows .mixedOrders=ab)(hC:lC P C){c:Code}{ps:aj (PV SE)}{k:zC->SS->au}(dX:P.funcs[f]?=aa fn)(hb:fn.body=aa c)(hm:av.length=m)(bf:m<=fn.ntmps)
 (cQ:All2 (VR (aM P av) (λ_=>ah) (λ_=>ah) [] ⟨0,.lf⟩) av ps)(hs:(exec P cfg n [] af 0 f c ⟨setArgs 0 0 ps,[],m,0,fn.ntmps⟩ k).sat P C Q [] av)
 (hk:∀V' I K' R' bA (E':Nat->aK) aB,J [] (aM P (av++I)) R' bA V'.g V'.l E' aB->(k .normal V').sat P C Q K' (av++I)->∃v,fv P fn (E' 0) aB=aa v/\RW v aB)
 (h2:∀V,k .ret V=k .normal V:=by intro V;rfl)(h3:∀i V,∃a,k (.exit i) V=.fail a:=by intro i V;exact⟨_,rfl⟩)(h4:∀t p V,∃a,k (.dh t p) V=.fail a:=by intro t p V;exact⟨_,rfl⟩):∃N,eO P N f av ⟨0,.lf⟩ RW:=by
 subst hm
 have hJ:J [] (aM P av) (λ_=>ah) (λ_=>ah) (setArgs 0 0 ps) [] (λ_=>fV av fn.ntmps) ⟨0,.lf⟩:=by
  refine⟨λd t pv hg=>?_,λk ob h=>aI,λk k' id h=>(by cases h),λk id h=>(by cases h),λid m h=>(by cases h),λid m cs aV mn h=>(by cases h),T.WF.lf,λid _=>rfl⟩;obtain⟨rfl,_,h3⟩:=rq (B:=IV) hg;have ht:t<av.length:=by grind [cQ.len]
  show VR _ _ _ _ _ ((fV av fn.ntmps).at t) pv;rw[(jd bf).2 ht,UN ht];exact cQ.get (UN ht) (by simpa using h3)
 obtain⟨b,Mr⟩:=RS fG hC n [] af 0 f c ⟨setArgs 0 0 ps,[],av.length,0,fn.ntmps⟩ k av [] _ _ _ _
  (λN ex e1 aG=>(ex=.normal\/ex=.ret)/\aG.n<=N/\∃v,fv P fn e1 aG=aa v/\RW v aG) ah [] (λ_=>rfl) hs hJ rfl rfl (jd (t:=0) bf).1 (by
   intro ex V' I K' R' bA E' aB x0 hf yE cB;cases ex with
   |exit i=>have⟨a,h⟩:=h3 i V';rw[h]at cB;cases cB
   |dh t p=>have⟨a,h⟩:=h4 t p V';rw[h]at cB;cases cB
   |normal=>
    obtain rfl:=yE;exact⟨aB.n,λN hN=>⟨hN,.inl rfl,hN,hk V' I K' R' bA E' aB hf.hJ cB⟩⟩
   |ret=>
    obtain rfl:=yE;exact⟨aB.n,λN hN=>⟨hN,.inr rfl,hN,hk V' I K' R' bA E' aB hf.hJ (h2 V'▸cB)⟩⟩)
 exact⟨b,eO.body dX hb bf (Mr b (XS _))⟩
def fe.nu(fG:P.follows .mixedOrders=ab)(hC:lC P C)(he:jc P cfg n aH f=dO)(hl:(P.funcs[f]?).map (·.params.size)=aa av.length)(hp:∀x∈av,Pure x)
 (hs:dO.sat P C (·=z) [] av):fe P af aH f av z:=by
 subst he;unfold jc at hs;split at hs<;>try grind
 rename_i fn dX;split at hs<;>try cases hs
 rename_i c hb;split at hs<;>try cases hs
 have NJ:fn.params.size<=fn.ntmps:=jw;simp only[dX,ZO,ZY]at hl;have⟨hs,cQ⟩:=Lb (R:=λ_=>ah) (X:=λ_=>ah) (L:=[]) (G:=⟨0,.lf⟩) hp hs aI
 have⟨_,h⟩:=eO.XV (RW:=λv aG=>Can (!aH) aG v z) fG hC dX hb hl.symm NJ cQ hs λV' I K' R' bA E' aB hJ ki=>by
  simp only at ki;split at ki<;>try contradiction
  rename_i xw hr;have⟨vs,h1,h2⟩:=va hJ hr;have hv:=RL h2;split at ki<;>try contradiction
  rename_i fr e _ iQ;have⟨R2,y,h3,h4⟩:=ac4 hJ iQ hv;obtain⟨z',h5,rfl⟩:=ki;exists K7 vs,uF h1;cases aH with
  |false=>
   simp only[TN,W8,if_false,h3]at h5;cases h5;exact h4.dI.can
  |true=>
   cases fr with
   |false=>
    simp only[Bool.and_false,W8,if_false,h3]at h5;cases h5;exact h4.can
   |true=>
    simp only[aKS,if_true,UU,h3,Z8]at h5;split at h5
    .rename_i oq;cases h5;exact(aGA oq h4).can
    grind
 exact fe.Ty h λv aB h=>h
def aP(d f i:Nat)(l:List Nat)(o:List (Nat×Nat):=[])(r:List Nat:=[]):Hint:=⟨d,f,i,l.map λn=>(d,n,0),o,r.map λn=>(d,n),[]⟩
def adP(d f i:Nat)(l:List (Nat×Nat×Nat))(o r:List (Nat×Nat):=[])(w:List (Nat×Nat×Nat):=[]):Hint:=⟨d,f,i,l,o,r,w⟩
abbrev bG(P:V5)(c:fz)(f:Nat):au:=jc P c 400 af f
def kx{p:Prop}(h:p:=by as_aux_lemma=>kernel_rfl):p:=h
def kr{B:Type}{a b:B}(h:a=b:=by kernel_rfl):a=b:=h
def au.Oq(f:au)(hk:KQ K K')(h:f.sat P C Q K O):f.sat P C Q K' O:=au.kG P f (λ_ h=>h) hk h
def Lc{A:Type}(e:A->aj IV)(μ:A->Prop)(I:A->Nat)(a0:A)(IP:lA P O init=aa (e a0))(h0:μ a0)
 (h:∀a,μ a->body.sat P C Q (K++[λvs=>∃a',vs=e a'/\μ a'/\I a'<I a]) (O++e a)):(au.loop init body).sat P C Q K O:=by
 exists e a0,IP,I a0+1
 have key:∀m a,μ a->I a<m->(Nat.rec (motive:=λ_=>aj IV->Prop) (λ_=>False) (λ_ ih vs=>body.sat P C Q (K++[ih]) (O++vs)) m) (e a):=by
  intro m;induction m with
  |zero=>simp
  |succ m ih=>
   intro a ha hm;refine body.Oq ((KQ.refl K).snoc ?_) (h a ha)
   grind
 exact key (I a0+1) a0 h0 (Nat.lt_succ_self _)
def gK{A:Type}(n:Nat)(e:Nat->A->aj IV)(μ:Nat->A->Prop)(a0:A)(IP:lA P O init=aa (e 0 a0))(h0:μ 0 a0)
 (h:∀i a,i<=n->μ i a->body.sat P C Q (K++[λvs=>∃a',vs=e (i+1) a'/\i+1<=n/\μ (i+1) a']) (O++e i a)):(au.loop init body).sat P C Q K O:=by
 refine Lc (A:=Nat×A) (λp=>e p.1 p.2) (λp=>p.1<=n/\μ p.1 p.2) (λp=>n- p.1) (0,a0) IP ⟨UT _,h0⟩ λ⟨i,a⟩ ⟨hi,hI⟩=>?_;refine body.Oq ((KQ.refl K).snoc ?_) (h i a hi hI);rintro vs ⟨a',rfl,h1,h2⟩;exact⟨(i+1,a'),rfl,⟨h1,h2⟩,ak⟩
def an9{a:au}(p:aj IV->Prop)(h:a.sat P C Q (K++[p]) O)(hb:∀vs,p vs->vs.length=m/\b.sat P C Q K (O++vs)):(au.qH a m b).sat P C Q K O:=
 a.Oq ((KQ.refl K).snoc hb) h
@[simp] theorem aBF{w:Nat}:(au.fail w).sat P C Q K O↔False:=M3
@[simp] theorem aaO:(au.ret e).sat P C Q K O↔∃z,e.den P O=aa z/\Q z:=M3
@[simp] theorem Ot:(au.aQ e k).sat P C Q K O↔(∃z,e.den P O=aa z)/\k.sat P C Q K O:=M3
@[simp] theorem acy:(au.bind e k).sat P C Q K O↔∃z,e.den P O=aa z/\k.sat P C Q K (O++[z]):=M3
@[simp] theorem aGs:(au.call f aH e k).sat P C Q K O↔∃xs z,lA P O e=aa xs/\C f aH xs z/\k.sat P C Q K (O++[z]):=M3
@[simp] theorem aI9{a:au}:(au.test e a b).sat P C Q K O↔(e.den P O=aa (.raw (.bool ab))/\a.sat P C Q K O)\/(e.den P O=aa (.raw (.bool af))/\b.sat P C Q K O):=M3
@[simp] theorem aI1:(au.next lv e).sat P C Q K O↔∃vs p,lA P O e=aa vs/\K[lv]?=aa p/\p vs:=M3
@[simp] theorem aBG{es x:SE}:(au.same es x k).sat P C Q K O↔∃ds r,es.den P O=aa (.aU ds)/\x.den P O=aa (.aU (.aU ds::r))/\k.sat P C Q K O:=M3
@[simp] theorem aEC:lA P O .an=aa []:=rfl
@[simp] theorem aBH{r:SE}:lA P O (.ac a r)=(a.den P O).bind λx=>(lA P O r).map λxs=>x::xs:=by
  unfold lA;simp only[UU];cases a.den P O with
  |none=>rfl
  |some x=>
   cases r.den P O with
   |none=>rfl
   |some y=>grind
abbrev iB(b:Bool):IV:=.raw (.bool b)
abbrev iI(n:Int):IV:=.raw (.int .i64 n)
abbrev iS(l:aj UInt8):IV:=.raw (.string ⟨l.toArray⟩)
abbrev iL(l:aj Int):IV:=.tree 1 (l.map iI)
@[simp] theorem avG(q:IntKind)(n:Int):yA (.raw (.int q n))=aa (.raw (.int q n)):=rfl
@[simp] theorem ard(n:Bool):yA (.raw (.bool n))=aa (.raw (.bool n)):=rfl
@[simp] theorem avH(n:ByteArray):yA (.raw (.string n))=aa (.raw (.string n)):=rfl
@[simp] theorem ajx(s:Nat)(es:aj IV):yA (.tree s es)=aa (.tree s es):=rfl
@[simp] theorem avI(s:Nat)(es:aj IV):KO (.tree s es)=aa (.raw (.int .i64 es.length)):=rfl
def cM{q:IntKind}(h:es[i]?=aa x)(hx:(aD x).length=s):cu s (.tree s es) (.raw (.int q (i:Nat)))=aa x:=by
 simp[cu,lz,h,hx]
@[simp] theorem aEY(P:V5)(t:VK)(a b:Int):dN P .lss t (iI a) (iI b)=aa (iB (decide (a<b))):=rfl
@[simp] theorem aEZ(P:V5)(t:VK)(a b:Int):dN P .gtr t (iI a) (iI b)=aa (iB (decide (a>b))):=rfl
@[simp] theorem aE0(P:V5)(t:VK)(a b:Int):dN P .leq t (iI a) (iI b)=aa (iB (decide (a<=b))):=rfl
@[simp] theorem aE1(P:V5)(t:VK)(a b:Int):dN P .geq t (iI a) (iI b)=aa (iB (decide (a≥b))):=rfl
@[simp] theorem aE2(P:V5)(t:VK)(a b:Int):dN P .eql t (iI a) (iI b)=aa (iB (a==b)):=rfl
@[simp] theorem aE3(P:V5)(t:VK)(a b:Int):dN P .neq t (iI a) (iI b)=aa (iB (a !=b)):=rfl
@[simp] theorem aE4(P:V5)(t:VK)(a b:Int):dN P .add t (iI a) (iI b)=aa (iI (QY.wrap (a+b))):=rfl
@[simp] theorem aE5(P:V5)(t:VK)(a b:Int):dN P .sub t (iI a) (iI b)=aa (iI (QY.wrap (a- b))):=rfl
@[simp] theorem aE6(P:V5)(t:VK)(a b:Int):dN P .mul t (iI a) (iI b)=aa (iI (QY.wrap (a*b))):=rfl
@[simp] theorem aE7(P:V5)(t:VK)(a b:aj UInt8):dN P .lss t (iS a) (iS b)=aa (iB (TH a b)):=by
  rfl
@[simp] theorem aE8(P:V5)(t:VK)(a b:aj UInt8):dN P .gtr t (iS a) (iS b)=aa (iB (!(TH a b||a==b))):=by
  rfl
@[simp] theorem aE9(P:V5)(t:VK)(a b:aj UInt8):dN P .neq t (iS a) (iS b)=aa (iB (!(a==b))):=by
  rfl
def av7(P:V5)(t:VK)(hu:P.underlying t=aa .bool)(a b:Bool):dN P .eql t (iB a) (iB b)=aa (iB (a==b)):=by
 show(a_ P (do eqGuard .eql t _ _ _ _;Go.binOp .eql t _ _)).map lift=_;rw[bw];show(a_ P (do pure (.bool (<-NI (9999+1) t (.bool a) (.bool b))))).map lift=_;unfold NI;rw[bw,bw,Go.Ev.run_underlying hu,Z8];rfl
def av8(P:V5)(t:VK)(hu:P.underlying t=aa .bool)(a b:Bool):dN P .neq t (iB a) (iB b)=aa (iB (!(a==b))):=by
 show(a_ P (do eqGuard .neq t _ _ _ _;Go.binOp .neq t _ _)).map lift=_;rw[bw];show(a_ P (do pure (.bool (!(<-NI (9999+1) t (.bool a) (.bool b)))))).map lift=_;unfold NI;rw[bw,bw,Go.Ev.run_underlying hu,Z8];rfl
@[simp] theorem aE_(P:V5)(a:Bool):U_ P .not (iB a)=aa (iB (!a)):=rfl
theorem eU{a:Int}(h1: -9223372036854775808<=a)(h2:a<=9223372036854775807):QY.wrap a=a:=by
 grind [IntKind.wrap,IntKind.bits,IntKind.signed]
section run
variable(P:V5)(cfg:fz)
def DH(n s:Nat)(f:V4):au:=
 match P.funcs[f]? with
 |some fn=>match fn.body,fn.params.toList with
  |some c,_::ts=>
   if ZK fn.params.size fn.ntmps then
    yz P 1 ts<|exec P cfg n [] af 0 f c ⟨setArgs 0 0 (.one (.sr 0)::mw P 1 ts),[.row s af af ab (.var 0)],fn.params.size,0,fn.ntmps⟩ λex V=>match ex with
     |.exit _=>.fail 141
     |.dh _ _=>.fail 146
     |_=>match xo P 0 V fn.results.toList with
      |some [.one (.sr k)]=>match V.l[k]? with
       |some (.row s' af af fr z)=>if ZW s s' then .ret (if fr then .rws z else z)else .fail 146
       |_=>.fail 147
      |_=>.fail 148
   else .fail 143
  |_,_=>.fail 144
 |none=>.fail 145
end run
def IQ{x:IV}{f:au}(hp:All2 lr av xs):∀{ts:aj VK} {j:Nat},(yz P (j+1) ts f).sat P C Q K (z::xs)->j+ts.length=xs.length->f.sat P C Q K (z::xs)/\All2 (VR (aM P (z::xs)) R X L G) (av.drop j) (mw P (j+1) ts)
 |[],j,hs,hl=>by
  simp at hl;rw[ZX (by have:=hp.len;omega)];exact⟨hs,trivial⟩
 |t::ts,j,hs,hl=>by
  simp at hl;have hj:j<xs.length:=ak;have tj:j<av.length:=by have:=hp.len;omega
  have hd:(SE.var (j+1)).den P (z::xs)=aa xs[j]:=by simp[UU]
  have⟨h1,h2⟩:=IK (R:=R) (X:=X) (L:=L) (G:=G) hd (hp.get (UN tj) (UN hj)) hs;have⟨h4,h5⟩:=IQ (x:=x) hp h1 ak;exists h4;rw[UQ tj];exact⟨h2,h5⟩
theorem IE.nu(fG:P.follows .mixedOrders=ab)(hC:lC P C)(he:DH P cfg n s f=dO)(hl:(P.funcs[f]?).map (·.params.size)=aa (xs.length+1))
 (hs:dO.sat P C (·=.tree s bF) [] (.tree s es::xs)):IE P s f es xs bF:=by
 subst he;unfold DH at hs;split at hs<;>try grind
 rename_i fn dX;split at hs<;>try cases hs
 rename_i c t0 ts hb lD;split at hs<;>try cases hs
 have NJ:fn.params.size<=fn.ntmps:=jw;rw[dX]at hl
 have cd:ts.length=xs.length:=by
  have:fn.params.toList.length=fn.params.size:=az
  grind
 intro R X E G x av oL hX0 cj KW Xu;have eG:=cj.len;obtain⟨dc,rO,k1,k2,k3⟩:=oL.obj 0 _ rfl;have Cn:=k1;cases Cn;have⟨iP,cQ⟩:=IQ (x:=x) (j:=0) (R:=R) (X:=X) (L:=[.row s af af ab (.var 0)]) (G:=G) cj hs ak;rw[aKI]at cQ;have oZ:(SE.var 0).den P (.tree s es::xs)=aa (.tree s es):=by rfl
 have hX:dT (aM P (.tree s es::xs)) R X [.row s af af ab (.var 0)] G x (.sr 0):=by
  have⟨s1,sM,Ec,Ea,z1,me,b1,b2,b3⟩:=hX0;have Cm:=b1;cases Cm;have zF:=b2;cases zF;exact⟨s,af,af,ab,.var 0,es,rfl,oZ,b3⟩
 have IS:All2 (VR (aM P (.tree s es::xs)) R X [.row s af af ab (.var 0)] G) (x::av) (.one (.sr 0)::mw P 1 ts):=⟨hX,cQ⟩;have bf:(x::av).length<=fn.ntmps:=aI
 have hJ:J [] (aM P (.tree s es::xs)) R X (setArgs 0 0 (.one (.sr 0)::mw P 1 ts)) [.row s af af ab (.var 0)] (λ_=>fV (x::av) fn.ntmps) G:=by
  refine⟨λd t pv hg=>?_,λj ob hj=>?_,oL.inj,λj id hj=>?_,oL.tC,oL.fits,oL.wf,oL.top⟩
  .obtain⟨rfl,_,h3⟩:=rq (B:=IV) hg;have ht:t<(x::av).length:=by grind [IS.len]
   show VR _ _ _ _ _ ((fV (x::av) fn.ntmps).at t) pv;rw[(jd bf).2 ht,UN ht];exact IS.get (UN ht) ak
  .cases j with
   |succ j=>grind
   |zero=>
    simp at hj;subst hj;refine⟨dc,es,oZ,k2,?_⟩;rcases k3 with⟨a,b⟩|⟨id,cs,aV,mn,a1,a2,a3,a4,a5,a6,a7⟩
    .grind
    .exact .inr ⟨id,cs,aV,mn,a1,a2,a3,a4,a5,a6,λq u v hu hv=>(a7 q u v hu hv).wide (λh=>by cases h)⟩
  .have:=oL.lt j id hj;omega
 obtain⟨b,Mr⟩:=RS fG hC n [] af 0 f c ⟨setArgs 0 0 (.one (.sr 0)::mw P 1 ts),[.row s af af ab (.var 0)],fn.params.size,0,fn.ntmps⟩ _ (.tree s es::xs) [] _ _ _ _
  (λN ex e1 aG=>(ex=.normal\/ex=.ret)/\aG.n<=N/\∃v,fv P fn e1 aG=aa v/\KW N v aG) ah [] (λ_=>rfl) iP hJ aI rfl (jd (t:=0) bf).1 (by
   intro ex V' I K' R' bA E' aB x0 hf yE cB
   have main:(match xo P 0 V' fn.results.toList with
    |some [.one (.sr k)]=>match V'.l[k]? with
     |some (.row s' af af fr z)=>if ZW s s' then au.ret (if fr then .rws z else z)else .fail 146
     |_=>.fail 147
    |_=>.fail 148).sat P C (·=IV.tree s bF) K' (IV.tree s es::xs++I)->∃b,∀N,b<=N->aB.n<=N/\aB.n<=N/\∃v,fv P fn (E' 0) aB=aa v/\KW N v aB:=by
    intro ki;split at ki<;>try contradiction
    rename_i k hr;have⟨vs,h1,h2⟩:=va hf.hJ hr;split at ki<;>try contradiction
    rename_i s' fr z hk;split at ki<;>try contradiction
    rename_i oG;have Iz:=ZR oG;subst Iz;obtain⟨z',h5,rfl⟩:=ki;obtain⟨v,rfl,hv⟩:=xr h2;have nK:=uF h1;have⟨m0,T2,m1,m2,m3⟩:=hf.hJ.obj k _ hk;have m1':z.den P (IV.tree s es::xs++I)=aa (.tree s T2):=m1
    have sE:T2=bF/\(fr=ab->∀e∈T2,∀c∈aD e,aZ c=ab):=by
     cases fr with
     |false=>
      grind
     |true=>
      have⟨s1,me,c1,c2,c3⟩:=aaI h5
      grind
    obtain⟨rfl,oq⟩:=sE
    have ZF:∀{u w:IV} {q:Nat},(flat T2)[q]?=aa w->bZ fr R' aB u w->bZ af R' aB u w:=by
     intro u w q hw hc;cases fr with
     |false=>omega
     |true=>
      have⟨e,he,A8⟩:=XC.1 (ZU hw);exact aGA (oq rfl e he w A8) hc
    obtain⟨b,hb⟩:=Xu R' (λj=>if j=0 then bA k else ah) aB v (by
     refine⟨λd t pv hg=>(by cases hg),λj ob hj=>?_,λj j' id h1 h2=>?_,λj id hj=>?_,hf.hJ.tC,hf.hJ.fits,hf.hJ.wf,hf.hJ.top⟩
     .cases j with
      |succ j=>grind
      |zero=>
       simp at hj;subst hj;refine⟨m0,T2,rfl,m2,?_⟩
       grind
     .grind
     .split at hj<;>try grind
      rename_i hj0;subst hj0;exact⟨az,(hf.hJ.lt k id hj).2⟩) (by
     have⟨s1,sM,Ec,Ea,z1,me,b1,b2,b3⟩:=hv;rw[hk]at b1;cases b1;have zF:z.den P (IV.tree s es::xs++I)=aa (.tree s me):=b2;rw[m1']at zF;cases zF;refine⟨s,af,af,af,(),T2,rfl,rfl,?_⟩
     assumption)
    exact⟨max b aB.n,λN hN=>⟨ak,ak,v,nK,hb N ak⟩⟩
   cases ex with
   |exit i=>cases cB
   |dh t pv=>cases cB
   |normal=>
    obtain rfl:=yE;have⟨b,hb⟩:=main cB;exact⟨b,λN hN=>⟨(hb N hN).1,.inl rfl,(hb N hN).2⟩⟩
   |ret=>
    obtain rfl:=yE;have⟨b,hb⟩:=main cB;exact⟨b,λN hN=>⟨(hb N hN).1,.inr rfl,(hb N hN).2⟩⟩)
 exact⟨b,λN hN=>eO.body (RW:=KW N) dX hb bf (Mr N hN)⟩
def au.jq:au->au
 |.test e a b=>.test e a.jq b.jq
 |.bind e k=>.bind e k.jq
 |.aQ e k=>.aQ e k.jq
 |.call f n a k=>.call f n a k.jq
 |.loop i b=>.loop i b.jq
 |.pick es x a b=>.pick es x a.jq b.jq
 |.same es x k=>.same es x k.jq
 |.uniq k=>.uniq k.jq
 |.qH b m c=>.qH b.jq m c.jq
 |.bad .. =>.fail 0
 |f=>f
def au.jN:∀(f:au) (Q:IV->Prop) (K:aj (aj IV->Prop)) (O:aj IV),f.jq.sat P C Q K O=f.sat P C Q K O
 |.fail _,_,_,_=>rfl
 |.ret _,_,_,_=>rfl
 |.next _ _,_,_,_=>rfl
 |.bad ..,_,_,_=>rfl
 |.test e a b,_,_,_=>by simp only[jq,sat,jN a,jN b]
 |.bind e k,_,_,_=>by simp only[jq,sat,jN k]
 |.aQ e k,_,_,_=>by simp only[jq,sat,jN k]
 |.call f n a k,_,_,_=>by simp only[jq,sat,jN k]
 |.loop i b,_,_,_=>by simp only[jq,sat,jN b]
 |.pick es x a b,_,_,_=>by simp only[jq,sat,jN a,jN b]
 |.same es x k,_,_,_=>by simp only[jq,sat,jN k]
 |.uniq k,_,_,_=>by simp only[jq,sat,jN k]
 |.qH b m c,_,_,_=>by simp only[jq,sat,jN b,jN c]
section run
variable(P:V5)(cfg:fz)
def fM(n:Nat)(nm:Bool)(f:V4):au:=
 match P.funcs[f]? with
 |some fn=>match fn.body with
  |some c=>
   if ZK fn.params.size fn.ntmps&&UO 0 (dK P f)then
    yz P 0 fn.params.toList<|exec P cfg n [] af 0 f c ⟨setArgs 0 0 (mw P 0 fn.params.toList),[],fn.params.size,0,fn.ntmps⟩ λex V=>match ex with
     |.exit _=>.fail 141
     |.dh _ _=>.fail 146
     |_=>match xo P 0 V fn.results.toList with
      |some [.one (.sr k)]=>match V.l[k]? with
       |some (.row s' af _ _ z)=>if !nm&&ZW (dK P f) s' then .ret z else .fail 146
       |_=>.fail 147
      |some [.one (.nl ab s')]=>if ZW (dK P f) s' then .ret (.tr s' .an)else .fail 146
      |_=>.fail 148
   else .fail 143
  |none=>.fail 144
 |none=>.fail 145
end run
def bZ.rvN(hi:Inv N Z G w)(hM:∀id b c el,R id≠ah->w.heap[b]?=aa (.cells c el (0,0))->Own Z id b->M b=aa c)(hm:fr=ab->∀b c,Z.m b=aa c->M b=aa c)
 (h:bZ fr R G x z):∀{u:Value},Rv Z x u->Rv (ll M) z u:=by
 induction h with
 |raw v=>intro u h;cases h;exact .raw v
 |nil s hs=>intro u h;cases h;exact .fL s ah 0 hs λ_=>rfl
 |emp s hs=>intro u h;cases h;exact .fL s _ 0 hs λ_=>rfl
 |eT t x y _ ih=>intro u h;cases h with|eT _ _ v hh=>exact .eT t y v (ih hh)
 |agg cs ds hl _ ih=>
  intro u h;cases h with
  |agg _ vs dq hh=>
   refine .agg ds vs (hl▸dq) λi d v h1 h2=>?_;have cX:i<cs.length:=by have:=(Z5.1 h1).1;omega
   exact ih i _ d (UN cX) h1 (hh i _ v (UN cX) h2)
 |aU cs ds hl _ ih=>
  intro u h;cases h with
  |aU _ vs dq hh=>
   refine .aU ds vs (hl▸dq) λi d v h1 h2=>?_;have cX:i<cs.length:=by have:=(Z5.1 h1).1;omega
   exact ih i _ d (UN cX) h1 (hh i _ v (UN cX) h2)
 |pure x hf hp=>intro u h;exact hp.rv h (hm hf)
 |sl id ay len cap ep s m cs aV mn es hR bx h1 h2 dc hl hb hmm cD _ ih=>
  intro u h;cases h with
  |sl _ _ _ _ _ _ l c a dq hn mR hs hle mS ha=>
   have⟨⟨_,_⟩,_,Q9⟩:=hi.obj id _ bx;have⟨l',ca,el,jL,Cc,acI,avO,lX⟩:=Q9 ep h1 h2;rw[dq]at jL;cases jL;have hMb:=hM id _ _ _ (by rw[hR];simp) acI ⟨ep,l,dq,rfl⟩;subst hl;by_cases he:es=[]
   .subst he;exact .fL s (aa a) c hs az
   .have s_:0<es.length:=by cases es with|nil=>exact bH rfl he|cons=>simp
    have Kj:=ha ak;subst Kj;refine .tree s es l.b ay c (λk=>ca.getD (ay+k) Go.undef) hs hle cD (λk hk=>?_) λi e j d ew we=>?_
    .have⟨x,hx⟩:∃x,cs[ay+k]?=aa x:=⟨_,UN ak⟩;have⟨v,hv,_⟩:=lX (ay+k) x ak hx;show(M l.b).bind _=_;rw[hMb];simp[hv]
    .have cX:=(Z5.1 ew).1;have tj:j<s:=by have:=(Z5.1 we).1;rw[cD e (ZU ew)]at this;exact this
     have hmul:i*s+s<=es.length*s:=by
      have:(i+1)*s<=es.length*s:=XX s cX;rw[Nat.add_mul]at this;omega
     have⟨x,hx⟩:∃x,cs[ay+i*s+j]?=aa x:=⟨_,UN ak⟩;have⟨v,hv,hr⟩:=lX (ay+i*s+j) x ak hx;have:=ih i e j x d ew we hx hr;simp only[Array.getD_eq_getD_getElem?];rw[show ay+(i*s+j)=ay+i*s+j by omega,hv];exact this
theorem jX.Ty(hs:0<s)(cD:∀e∈es,(aD e).length=s)(bM:∀c∈flat es,Pure c/\aw c=ab)(h:eO P N f xs ⟨0,.lf⟩ RW)(hc:∀v aB,RW v aB->alv s es v aB):jX P s f xs es:=by
 refine⟨hs,cD,bM,λM w us hM hr=>?_⟩;refine(h (ll M) us w (Ra hM) hr).mono λe w' hR=>?_;have⟨v,aB,yu,hR⟩:=hR;cases e with
 |panicked ch=>assumption
 |outgrown=>assumption
 |returned u=>
  have⟨br,h1,h2,h3⟩:=hR;have Bb:=λb hb=>h3.frame b hb λid ho=>(by have⟨_,_,h,_⟩:=ho;cases h);refine⟨⟨h3.os,h3.tape,h3.output,h3.size,Bb⟩,?_⟩;rcases hc v aB yu with⟨rfl,rfl⟩|⟨cg,R,id,cs,aV,mn,cap,hRn,a1,a2,rfl,a3,a4⟩
  .cases h1;simp
  .have⟨_,_,o3⟩:=h2.obj id _ a1;have⟨l,c,el,b1,b2,b3,b4,b5⟩:=o3 aV a2 (XS _);cases h1 with
   |sl _ _ _ _ _ _ l' Oj a hl hn mR cB hle mS ha=>
    rw[b1]at hl;cases hl;have s_:=List.length_pos_iff.2 cg
    have mu:∀bY b,Own br bY b->w.heap.size<=b:=λbY b ho=>by
     rcases h3.own bY b ho with ho|ho
     .have⟨_,_,h,_⟩:=ho;cases h
     omega
    have qE:Own br id l.b:=⟨aV,l,b1,rfl⟩;have hb:=mu id l.b qE;rw[ha ak]
    refine .inr ⟨cg,λb=>if b<w.heap.size then M b else if b=l.b then ah else(match w'.heap[b]? with
     |some (.cells c _ _)=>aa c
     |_=>ah),l.b,c,el,Oj,λb c hh=>?_,λb c hh=>?_,λb c hh=>?_,?_,hb,rfl,b3,hle,ak,λk x hx=>?_⟩
    .simp only at hh;split at hh
     .rename_i aq;rw[Bb b aq];exact hM b c hh
     grind
    .grind
    .simp only;rw[aW (hM.lt hh)];omega
    .grind
    .have⟨y,hy,ZF⟩:=a4 k x hx
     have hk:k<l.n:=by
      grind
     have⟨u,hu,hr⟩:=b5 k _ hk hy;refine⟨u,ZF.rvN h2 (λbY b c el Wu hh ho=>?_) (λ_ b c ua=>?_) hr,hu⟩
     .have Wq:=mu bY b ho
      have aBI:b≠l.b:=by
       rintro rfl;exact Wu (by rw[h2.inj bY id _ ho qE];omega)
      grind
     .rcases h3.zM b c ua with fD|Wq
      .have fq:=fD;show(if _ then _ else _)=_;rw[aW (hM.lt fq)];omega
      .have⟨e,f,hh⟩:=h2.mem b c ua
       have aBI:b≠l.b:=by
        rintro rfl;exact h2.sep _ c id ua qE
       grind
def jX.nu(fG:P.follows .mixedOrders=ab)(hC:lC P C)(he:fM P cfg n nm f=dO)(hl:(P.funcs[f]?).map (·.params.size)=aa av.length)(hp:∀x∈av,Pure x)
 (cD:∀e∈es,(aD e).length=dK P f)(bM:∀c∈flat es,Pure c/\aw c=ab)(cg:nm=af->es≠[])
 (hs:dO.sat P C (·=.tree (dK P f) es) [] av):jX P (dK P f) f av es:=by
 subst he;unfold fM at hs;split at hs<;>try grind
 rename_i fn dX;split at hs<;>try cases hs
 rename_i c hb;split at hs<;>try cases hs
 have NJ:fn.params.size<=fn.ntmps:=jw;have dc:0<dK P f:=jw;simp only[dX,ZO,ZY]at hl;have⟨hs,cQ⟩:=Lb (R:=λ_=>ah) (X:=λ_=>ah) (L:=[]) (G:=⟨0,.lf⟩) hp hs aI
 have⟨_,h⟩:=eO.XV (RW:=λv aG=>alv (dK P f) es v aG) fG hC dX hb hl.symm NJ cQ hs λV' I K' R' bA E' aB hJ ki=>by
  simp only at ki;split at ki<;>try contradiction
  .rename_i k hr;have⟨vs,h1,h2⟩:=va hJ hr;split at ki<;>try contradiction
   rename_i s' cut fr z hk;split at ki<;>try contradiction
   rename_i oG;simp only[VM,VH]at oG;have⟨gq,oG⟩:=oG;have Iz:=ZR oG;subst Iz;obtain⟨z',h5,rfl⟩:=ki;obtain⟨v,rfl,hv⟩:=xr h2;have nK:=uF h1;have c1:=h5;have⟨m0,T2,m1,m2,m3⟩:=hJ.obj k _ hk;have m1':z.den P (av++I)=aa (.tree (dK P f) T2):=m1;rw[c1]at m1';cases m1';refine⟨v,nK,.inr ⟨cg gq,?_⟩⟩;have⟨s2,sM,Ec,Ea,z1,oY,b1,b2,b3⟩:=hv;rw[hk]at b1;cases b1;have zF:z.den P (av++I)=aa (.tree (dK P f) oY):=b2;rw[c1]at zF;cases zF;rcases b3 with⟨_,b4,_⟩|⟨id,cs,aV,mn,cap,d1,d2,d3,d4,d5,d6⟩
   .grind
   .rcases m3 with⟨e1,_⟩|⟨bY,cL,oi,wg,e1,e2,e3,e4,e5,e6,e7⟩
    .grind
    .rw[d1]at e1;cases e1;rw[d2]at e2;cases e2;refine⟨R',id,cs,aV,mn,cap,e5,d2,e3,aI,e4,λq x hx=>?_⟩
     have hq:q<cs.length:=by
      have:=(Z5.1 hx).1;rw[Ft cD]at this;omega
     exact⟨_,UN hq,(e7 q _ _ (UN hq) hx).dI⟩
  .rename_i s' hr;have⟨vs,h1,h2⟩:=va hJ hr;split at ki<;>try contradiction
   rename_i oG;have Iz:=ZR oG;obtain⟨z',h5,rfl⟩:=ki;obtain⟨v,rfl,hv⟩:=xr h2;have nK:=uF h1;obtain⟨_,rfl⟩:=hv;simp only[UU,Z8]at h5;split at h5<;>cases h5;exact⟨_,nK,.inl ⟨rfl,rfl⟩⟩
 exact jX.Ty dc cD bM h λv aB h=>h
def jX.agb(fG:P.follows .mixedOrders=ab)(hC:lC P C)(he:(fM P cfg n nm f).jq=dO)(hl:(P.funcs[f]?).map (·.params.size)=aa av.length)(hp:∀x∈av,Pure x)
 (cD:∀e∈es,(aD e).length=dK P f)(bM:∀c∈flat es,Pure c/\aw c=ab)(cg:nm=af->es≠[])
 (hs:dO.sat P C (·=.tree (dK P f) es) [] av):jX P (dK P f) f av es:=
 jX.nu fG hC (cfg:=cfg) (n:=n) (nm:=nm) rfl hl hp cD bM cg (by rw[<-au.jN,he];omega)
theorem jX.raw(h:jX P s f xs es)(bM:∀c∈flat es,∃v,c=.raw v):tE P s f xs es:=by
 obtain⟨h1,h2,h3,h⟩:=h;refine⟨h1,h2,λc hc=>⟨bM c hc,(h3 c hc).2⟩,λM w us hM hr=>(h M w us hM hr).mono λe w' hR=>?_⟩;cases e with
 |panicked ch=>exact hR
 |outgrown=>exact hR
 |returned u=>
  refine⟨hR.1,hR.2.imp id λ⟨hn,M',b,c,el,cap,_,_,_,_,a,b1,c1,d,e,g⟩=>⟨hn,b,c,el,cap,a,b1,c1,d,e,λk x hx=>?_⟩⟩;obtain⟨v,hv,hc⟩:=g k x hx;obtain⟨u,rfl⟩:=bM x (ZU hx);cases hv;exact⟨_,rfl,hc⟩
def tE.nu(fG:P.follows .mixedOrders=ab)(hC:lC P C)(he:fM P cfg n nm f=dO)(hl:(P.funcs[f]?).map (·.params.size)=aa av.length)(hp:∀x∈av,Pure x)
 (cD:∀e∈es,(aD e).length=dK P f)(bM:∀c∈flat es,(∃v,c=.raw v)/\aw c=ab)(cg:nm=af->es≠[])
 (hs:dO.sat P C (·=.tree (dK P f) es) [] av):tE P (dK P f) f av es:=
 (jX.nu fG hC he hl hp cD (λc hc=>by obtain⟨⟨v,rfl⟩,h⟩:=bM c hc;exact⟨.raw v,h⟩) cg hs).raw λc hc=>(bM c hc).1
section run
variable(P:V5)(cfg:fz)
def RT(n s:Nat)(f:V4):au:=
 match P.funcs[f]? with
 |some fn=>match fn.body,fn.params.toList with
  |some c,_::ts=>
   if ZK fn.params.size fn.ntmps&&UO 0 s then
    yz P 1 ts<|exec P cfg n [] af 0 f c ⟨setArgs 0 0 (.one (.nl ab s)::mw P 1 ts),[],fn.params.size,0,fn.ntmps⟩ λex V=>match ex with
     |.exit _=>.fail 141
     |.dh _ _=>.fail 146
     |_=>match xo P 0 V fn.results.toList with
      |some [.one (.nl ab _)]=>.ret (.raw (.slice ah 0 0))
      |_=>.fail 148
   else .fail 143
  |_,_=>.fail 144
 |none=>.fail 145
end run
def fe.av9(fG:P.follows .mixedOrders=ab)(hC:lC P C)(he:(RT P cfg n s f).jq=dO)(hl:(P.funcs[f]?).map (·.params.size)=aa (xs.length+1))(hp:∀x∈xs,Pure x)
 (hs:dO.sat P C (·=.raw (.slice ah 0 0)) [] (.raw (.slice ah 0 0)::xs)):fe P af aH f (.raw (.slice ah 0 0)::xs) (.raw (.slice ah 0 0)):=by
 subst he;rw[au.jN]at hs;unfold RT at hs;split at hs<;>try grind
 rename_i fn dX;split at hs<;>try cases hs
 rename_i c t0 ts hb lD;split at hs<;>try cases hs
 have NJ:fn.params.size<=fn.ntmps:=jw;have dc:0<s:=jw;rw[dX]at hl
 have cd:ts.length=xs.length:=by
  have:fn.params.toList.length=fn.params.size:=az
  grind
 have ZF:All2 lr xs xs:=.mk rfl λi a b h1 h2=>by
  rw[h1]at h2;cases h2;exact .pure a rfl (hp a (ZU h1))
 have⟨iP,cQ⟩:=IQ (x:=.raw (.slice ah 0 0)) (j:=0) (R:=λ_=>ah) (X:=λ_=>ah) (L:=[]) (G:=⟨0,.lf⟩) ZF hs ak;rw[aKI]at cQ;have IS:All2 (VR (aM P (.raw (.slice ah 0 0)::xs)) (λ_=>ah) (λ_=>ah) [] ⟨0,.lf⟩) (.raw (.slice ah 0 0)::xs) (.one (.nl ab s)::mw P 1 ts):=⟨⟨dc,rfl⟩,cQ⟩
 have⟨_,h⟩:=eO.XV (RW:=λv aG=>v=.raw (.slice ah 0 0)) fG hC dX hb aI NJ IS iP λV' I K' R' bA E' aB hJ ki=>by
  simp only at ki;split at ki<;>try contradiction
  rename_i s' hr;have⟨vs,h1,h2⟩:=va hJ hr;obtain⟨v,rfl,hv⟩:=xr h2;obtain⟨_,rfl⟩:=hv;exact⟨_,uF h1,rfl⟩
 refine fe.Ty h λv aB h=>?_;subst h;exact .raw _
end Go.Ev

