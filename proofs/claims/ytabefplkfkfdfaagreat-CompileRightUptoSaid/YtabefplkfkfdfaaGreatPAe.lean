/- Lemmas over the model, without conditions of their own: the ideal machine, and code run on expressions. -/
import Derived.Test.YtabefplkfkfdfaaGreatPAd
import Derived.Test.YtabefplkfkfdfaaGreatPAc
open Nat renaming beq->ayQ,beq_eq->azv,le_refl->ayL,lt_of_lt_of_le->aAl,eq_of_beq_eq_true->ay0,zero_le->azz,blt->azy,ble_eq->aAb,zero_add->aAn,le_trans->ay6,lt_succ_of_lt->aDj
open Option.some renaming injEq->ayO
open List renaming mem_flatMap->az1,mem_of_getElem?->ayX,getElem?_set_ne->aAA,getElem?_eq_getElem->ayG,getElem?_eq_some_iff->ayH,any_eq_true->aAE,getElem?_map->ay1,getElem?_of_mem->az0,length_map->azq,length_append->ayP,length_cons->azh,isEmpty_iff->aAg,length->azj,range->azT,getElem?_range->aAC,all_eq_true->ayY,getElem_mem->ayJ,nil_append->azN,append_nil->ay2,append_assoc->ay3,prefix_refl->azC,mapM_cons->aBl,mapM_nil->aDR,cons_append->azO,foldl_cons->azo,mem_cons->ayW,getElem?_append_left->ayZ,map_cons->azr,nodup_cons->azP,getElem?_set->aC6,mem_filter->azB,mem_filterMap->aCS
open Option renaming bind_eq_some_iff->ay4,map_eq_some_iff->ayR,bind_some->ayK,map_some->azl
open Go.Fence renaming wide->azk
open Bool renaming and_eq_true->ayI,false_or->aAJ,not_eq_true'->azY,false_eq_true->azi,or_eq_true->azp
open Array renaming getElem?_eq_some_iff->azx
open Go.ResultVar renaming tmp->aEj,cell->aEk
open Prod.mk renaming injEq->aAt
open List.cons renaming injEq->aBb
open Go.Sem renaming run_bind->ayT,run_pure->ay9
open Go.Result renaming andThen_ok->ayM
open Go.Instr renaming yield->aCG
open Prod renaming fst->azU
open Option renaming some->aa,none->ah
open Bool renaming true->ab,false->af
set_option linter.all false
namespace Go.Ev
section
variable{Cx:Cs}
variable{P:Program}{N:Nat}{σ au:St}{R R':Rs}{φ aV:Ph}{E:Nat->Env}{ν:List IV}{L:List (LO SE)}{Γ:Gm SE}
abbrev aaO(s:Nat)(es:List IV)(R:Rs)(φ:Ph)(E:Nat->Env)(σ:St):Prop:=J (α:=Unit) [] (λ_=>aa (.tree s es)) R φ [] [.row s af af af ()] E σ
abbrev aaP(s:Nat)(es:List IV)(R:Rs)(φ:Ph)(σ:St)(x:IV):Prop:=c9 (α:=Unit) (λ_=>aa (.tree s es)) R φ [.row s af af af ()] σ x (.sr 0)
def Gz(P:Program)(s:Nat)(f:FuncId)(es:List IV)(xs:List IV)(aW:List IV):Prop:=
 ∀R φ E σ x args,aaO s es R φ E σ->aaP s es R φ σ x->All2 j_ args xs->∀KW:Nat->IV->St->Prop,(∀R' aV au v,aaO s aW R' aV E au->aaP s aW R' aV au v->∃b,∀N,b<=N->KW N v au)->
  ∃b,∀N,b<=N->fc P N f (x::args) σ (KW N)
def bx.move{fr:Bool}{x y:IV}(hm:∀i ob,σ.at i=aa ob->au.at i=aa ob/\R' i=R i)(h:bx fr R σ x y):bx fr R' au x y:=by
 induction h with
 |raw v=>exact .raw v
 |nil s hs=>exact .nil s hs
 |emp s hs=>exact .emp s hs
 |dP t x y _ ih=>exact .dP t x y ih
 |agg cs ds hl _ ih=>exact .agg cs ds hl ih
 |aF cs ds hl _ ih=>exact .aF cs ds hl ih
 |pure x hf hp=>exact .pure x hf hp
 |sl id off len cap ep s m cs aE mn es hR aT h1 h2 hs hl hb TD bH _ ih=>
  have⟨g1,g2⟩:=hm id _ aT;exact .sl id off len cap ep s m cs aE mn es bc g1 h1 h2 hs hl hb TD bH ih
def acJ{k s:Nat}{f:FuncId}{fr:Bool}{z z':SE}{es aW xs args:List IV}{x:IV}(h:J Cx (ay P ν) R φ Γ L E σ)(hk:L[k]?=aa (.row s af af fr z))(hz:z.den P ν=aa (.tree s es))(ta:z'.den P ν=aa (.tree s aW))
 (l6:∀e∈es,∀c∈cellsOf e,aL c=ab)(hx:c9 (ay P ν) R φ L σ x (.sr k))(bF:All2 j_ args xs)
 (QW:∀d t pv,cz d t Γ=aa pv->pv.ok (·=k))(hL:∀j o,L[j]?=aa o->j≠k->o.ok (·=k))(hr:Gz P s f es xs aW)
 (KW:Nat->IV->St->Prop)(UR:∀R' aV au v,J Cx (ay P ν) R' aV Γ (L.set k (.row s af af af z')) E au->c9 (ay P ν) R' aV (L.set k (.row s af af af z')) au v (.sr k)->∃b,∀N,b<=N->KW N v au):
 ∃b,∀N,b<=N->fc P N f (x::args) σ (KW N):=by
 have⟨cw,mI,g1,g2,g3⟩:=h.obj k _ hk;have r7:z.den P ν=aa (.tree s mI):=g1;rw[hz]at r7;cases r7;have fp:=fa hk
 let dB:Nat->Bool:=λi=>match φ k with
  |some id=>ayQ i id
  |none=>af
 have Ij:∀i,dB i=ab↔φ k=aa i:=λi=>by
  simp only[dB];cases φ k with
  |none=>simp
  |some id=>simp only[azv,ayO];exact eq_comm
 have aT:=O9 dB h.top
 have aro:∀d∈flat es,aL d=ab:=λd hd=>by
  have⟨e,he,hc⟩:=az1.1 hd;exact l6 e he d hc
 have mJ:aaO s es (λ_=>ah) (λj=>if j=0 then φ k else ah) E (σ.only dB):=by
  refine⟨λd t pv hg=>(by cases hg),λj ob hj=>?_,λj j' id h1 h2=>?_,λj id hj=>?_,λid m hm=>(by cases hm),λid m cs aE mn hm=>(by cases hm),T.J_ _ _,λid hid=>?_⟩
  .cases j with
   |succ j=>simp at hj
   |zero=>
    simp at hj;subst hj;refine⟨cw,es,rfl,g2,?_⟩;rcases g3 with⟨a,b⟩|⟨id,cs,aE,mn,a1,a2,a3,a4,a5,a6,a7⟩
    .exact .inl ⟨by simp[a],b⟩
    .refine .inr ⟨id,cs,aE,mn,by simp[a1],?_,a3,a4,rfl,a6,λj u v hu hv=>?_⟩
     .rw[aT,(Ij id).2 a1];simpa using a2
     .have hd:=aro v (ayX hv);have:=a7 j u v hu hv;cases v<;>simp only[aL]at hd<;>try (cases hd;done)
      rw[cD this];exact .raw _
  .split at h1<;>try (cases h1;done)
   split at h2<;>try (cases h2;done)
   omega
  .split at hj<;>try (cases hj;done)
   rename_i US;subst US;exact⟨by simp,(h.lt k id hj).2⟩
  .rw[aT];split
   .exact h.top id hid
   .rfl
 have hX0:aaP s es (λ_=>ah) (λj=>if j=0 then φ k else ah) (σ.only dB) x:=by
  have⟨s1,pA,zI,zZ,z1,jC,b1,b2,b3⟩:=hx;rw[hk]at b1;cases b1;have xl:z.den P ν=aa (.tree s jC):=b2;rw[hz]at xl;cases xl;refine⟨s,af,af,af,(),es,rfl,rfl,?_⟩;rcases b3 with⟨c1,c2,c3⟩|⟨id,cs,aE,mn,cap,c1,c2,c3,c4,c5,c6⟩
  .exact .inl ⟨by simp[c1],c2,c3⟩
  .exact .inr ⟨id,cs,aE,mn,cap,by simp[c1],by rw[aT,(Ij id).2 c1];simpa using c2,c3,c4,c5,c6⟩
 suffices aaQ:∀R1 ew av v,aaO s aW R1 ew E av->aaP s aW R1 ew av v->σ.n<=av.n->(∀id,id<σ.n->dB id=af->av.at id=ah)->∃b,∀N,b<=N->KW N v (σ.back av dB) by
  have⟨b,hb⟩:=hr _ _ _ _ x args mJ hX0 bF (λN v av=>σ.n<=av.n->(∀id,id<σ.n->dB id=af->av.at id=ah)->KW N v (σ.back av dB)) λR1 ew av v h1 h2=>by
   by_cases hc:σ.n<=av.n/\∀id,id<σ.n->dB id=af->av.at id=ah
   .have⟨b,hb⟩:=aaQ R1 ew av v h1 h2 hc.1 hc.2;exact⟨b,λN hN _ _=>hb N hN⟩
   .exact⟨0,λN _ h3 h4=>absurd ⟨h3,h4⟩ hc⟩
  refine⟨b,λN hN ι us w hi qM=>((hb N hN).frame dB h.top ι us w hi qM).mono λed w' hR=>?_⟩;obtain⟨v,au,⟨av,jU,rfl,hle,_,Gy⟩,afH⟩:=hR;exact⟨v,σ.back av dB,jU hle Gy,afH⟩
 intro R1 ew av v bE hX1 hle Gy;have No:=bE.top;have BE:=O_ (σ:=σ) (av:=av) dB hle No;have hold:∀id,id<σ.n->dB id=af->(σ.back av dB).at id=σ.at id:=λid h1 h2=>by rw[BE,if_pos ⟨h1,h2⟩]
 have gp:∀id ob,av.at id=aa ob->¬(id<σ.n/\dB id=af):=λid ob ho hc=>by rw[Gy id hc.1 hc.2]at ho;cases ho
 have Np:∀id ob,av.at id=aa ob->(σ.back av dB).at id=aa ob:=λid ob ho=>by rw[BE,if_neg (gp id ob ho)];exact ho
 let R2:Rs:=λi=>if i<σ.n/\dB i=af then R i else R1 i
 let Di:Ph:=λi=>if i=k then ew 0 else φ i
 have hRk:∀id,φ k=aa id->R id=ah:=λid hid=>by
  rcases g3 with⟨a,_⟩|⟨bz,cs,aE,mn,a1,_,_,_,a5,_⟩
  .rw[hid]at a;cases a
  .rw[hid]at a1;cases a1;simpa using a5
 have BF:∀id m,R id=aa m->id<σ.n/\dB id=af:=λid m hm=>by
  refine⟨h.qS id m hm,?_⟩;cases hv:dB id with
  |false=>rfl
  |true=>rw[hRk id ((Ij id).1 hv)]at hm;cases hm
 have uF:∀j id,j≠k->φ j=aa id->id<σ.n/\dB id=af:=λj id hj hid=>by
  refine⟨(h.lt j id hid).2,?_⟩;cases hv:dB id with
  |false=>rfl
  |true=>exact absurd (h.inj j k id hid ((Ij id).1 hv)) hj
 have CB:∀id m cs aE mn,R2 id=aa m->(σ.back av dB).at id=aa (.cells cs aE mn)->m<=cs.length:=λid m cs aE mn hm ha=>by
  simp only[R2]at hm;rw[BE]at ha;split at hm
  .rename_i hc;rw[if_pos hc]at ha;exact h.fits id m cs aE mn hm ha
  .rename_i hc;rw[if_neg hc]at ha;exact bE.fits id m cs aE mn hm ha
 have sG:jg R σ R2 (σ.back av dB):=by
  refine⟨λid m hm=>⟨m,by simp only[R2];rw[if_pos (BF id m hm)];exact hm,ayL _⟩,λid m cs aE mn hm ha=>⟨cs,aE,?_,ayL _,λ_ _=>rfl⟩,CB⟩;rw[hold id (BF id m hm).1 (BF id m hm).2];exact ha
 have bA:∀j,j≠k->(L.set k (.row s af af af z'))[j]?=L[j]? :=λj hj=>aAA (λhc=>hj hc.symm);have bN:(L.set k (.row s af af af z'))[k]?=aa (.row s af af af z'):=by simp[fp]
 have D4:∀j,j≠k->Di j=φ j:=λj hj=>by simp only[Di];rw[if_neg hj]
 have uT:Di k=ew 0:=by simp[Di]
 have hs:lj (ay P ν) (ay P ν) R φ L σ R2 Di (L.set k (.row s af af af z')) (σ.back av dB) (·=k):=by
  refine⟨λ_ _ h=>h,sG,λj cs hj=>?_,λj kt jC hj=>?_,λj s1 pA zI zZ z1 hj hb=>?_,λj c pA snap hj=>?_⟩
  .have cj:j≠k:=λhc=>by subst hc;rw[hk]at hj;cases hj
   exact⟨⟨cs,by rw[bA j cj];exact hj⟩,D4 j cj⟩
  .have cj:j≠k:=λhc=>by subst hc;rw[hk]at hj;cases hj
   exact⟨⟨jC,by rw[bA j cj];exact hj⟩,D4 j cj⟩
  .exact⟨⟨pA,zZ,z1,by rw[bA j hb];exact hj,λe he=>⟨e,he,rfl⟩⟩,D4 j hb,λid cs aE mn hid ha=>⟨cs,mn,by rw[hold id (uF j id hb hid).1 (uF j id hb hid).2];exact ha,rfl,λh=>h⟩⟩
  .have cj:j≠k:=λhc=>by subst hc;rw[hk]at hj;cases hj
   exact⟨⟨c,pA,snap,by rw[bA j cj];exact hj⟩,D4 j cj⟩
 obtain⟨gy,X5,k1,k2,k3⟩:=bE.obj 0 _ rfl;have Dk:=k1;cases Dk
 have Pa:∀id,ew 0=aa id->∃ob,av.at id=aa ob:=λid hid=>by
  rcases k3 with⟨a,_⟩|⟨bz,cs,aE,mn,a1,a2,_⟩
  .rw[hid]at a;cases a
  .rw[hid]at a1;cases a1;exact⟨_,a2⟩
 refine UR R2 Di (σ.back av dB) v ⟨λd t pv hg=>(h.slot d t pv hg).step hs (QW d t pv hg),λj ob hj=>?_,λj j' id h1 h2=>?_,λj id hj=>?_,λid m hm=>?_,CB,T.J_ _ _,λid hid=>?_⟩ ?_
 .by_cases cj:j=k
  .subst cj;rw[bN]at hj;cases hj;refine⟨gy,aW,ta,k2,?_⟩;rcases k3 with⟨a,b⟩|⟨id,cs,aE,mn,a1,a2,a3,a4,a5,a6,a7⟩
   .exact .inl ⟨by rw[uT];exact a,b⟩
   .refine .inr ⟨id,cs,aE,mn,by rw[uT];exact a1,Np id _ a2,a3,a4,?_,a6,λq u v hu hv=>?_⟩
    .simp only[R2];rw[if_neg (gp id _ a2)];exact a5
    .refine(a7 q u v hu hv).move λi ob ho=>⟨Np i ob ho,?_⟩;simp only[R2];rw[if_neg (gp i ob ho)]
  .rw[bA j cj]at hj;exact(h.obj j ob hj).step hs (D4 j cj) (λid hid=>⟨hold id (uF j id cj hid).1 (uF j id cj hid).2,by simp only[R2];rw[if_pos (uF j id cj hid)]⟩) (hL j ob hj cj)
 .by_cases hj:j=k
  .by_cases oT:j'=k
   .rw[hj,oT]
   .exfalso;rw[hj,uT]at h1;rw[D4 j' oT]at h2;have⟨ob,ho⟩:=Pa id h1;exact gp id ob ho (uF j' id oT h2)
  .by_cases oT:j'=k
   .exfalso;rw[oT,uT]at h2;rw[D4 j hj]at h1;have⟨ob,ho⟩:=Pa id h2;exact gp id ob ho (uF j id hj h1)
   .rw[D4 j hj]at h1;rw[D4 j' oT]at h2;exact h.inj j j' id h1 h2
 .by_cases cj:j=k
  .subst cj;rw[uT]at hj;exact⟨by simpa using fp,(bE.lt 0 id hj).2⟩
  .rw[D4 j cj]at hj;have:=h.lt j id hj;exact⟨by simpa using this.1,aAl this.2 hle⟩
 .simp only[R2]at hm;split at hm
  .exact aAl (h.qS id m hm) hle
  .exact bE.qS id m hm
 .have j9:av.n<=id:=hid;rw[BE,if_neg aj];exact No id j9
 .have⟨s1,pA,zI,zZ,z1,jC,b1,b2,b3⟩:=hX1;have z8:=b1;cases z8;have xl:=b2;cases xl;refine⟨s,af,af,af,z',aW,bN,ta,?_⟩;rcases b3 with⟨c1,c2,c3⟩|⟨id,cs,aE,mn,cap,c1,c2,c3,c4,c5,c6⟩
  .exact .inl ⟨by rw[uT];exact c1,c2,c3⟩
  .exact .inr ⟨id,cs,aE,mn,cap,by rw[uT];exact c1,Np id _ c2,c3,c4,c5,c6⟩
abbrev aaR(ins:List (List IV)):List (LO IV):=ins.map λcs=>.var (cs.map .v)
abbrev SK(ins:List (List IV))(R:Rs)(φ:Ph)(E:Nat->Env)(σ:St):Prop:=J (α:=IV) [] aa R φ [] (aaR ins) E σ
def Ik(φ:Ph)(ins:List (List IV))(ps:List IV):Prop:=
 ps.length=ins.length/\∀i cs p,ins[i]?=aa cs->ps[i]?=aa p->∃id,φ i=aa id/\p=.ptr id 0 0 cs.length
def GA(P:Program)(f:FuncId)(ins:List (List IV))(xs:List IV)(outs:List (List IV))(z:IV):Prop:=
 ∀R φ E σ ps args,SK ins R φ E σ->Ik φ ins ps->All2 j_ args xs->∀KW:Nat->IV->St->Prop,
  (∀R' aV au v,SK outs R' aV E au->Ik aV outs ps->j_ v z->∃b,∀N,b<=N->KW N v au)->∃b,∀N,b<=N->fc P N f (ps++args) σ (KW N)
def AS{α:Type}(ev:α->Option IV)(ds:List (Cl α))(cs:List IV):Prop:=All2 (λ(c:Cl α) u=>∃e,c=.v e/\ev e=aa u) ds cs
def ajL{α:Type}{ev:α->Option IV}{Γ:Gm α}{L:List (LO α)}(h:J Cx ev R φ Γ L E σ){k:Nat}{ds:List (Cl α)}{cs:List IV}(hk:L[k]?=aa (.var ds))(hc:AS ev ds cs):
 ∃id cW,φ k=aa id/\R id=ah/\σ.at id=aa (.cells cW 0 0)/\cW.length=cs.length/\∀(j:Nat) x u,cW[j]?=aa x->cs[j]?=aa u->j_ x u/\ao u=ab:=by
 have⟨id,cW,h1,h2,h3,h4⟩:=h.obj k _ hk;refine⟨id,cW,h1,h2,h3,by rw[h4.len,hc.len],λj x u hx hu=>?_⟩;have hj:j<ds.length:=by grind [hc.len]
 have⟨e,he,Kj⟩:=hc.get (ayG hj) hu;have:=h4.get hx (ayG hj);rw[he]at this;have⟨y,y1,y2,y3⟩:=this
 grind
theorem getElem?_inj{ks:List Nat}(jA:ks.Nodup){i i' k:Nat}(h1:ks[i]?=aa k)(h2:ks[i']?=aa k):i=i':=by
 exact(List.getElem?_inj (ayH.1 h1).1 jA).1 (h1.trans h2.symm)
def aaS{α:Type}{ev jz:α->Option IV}{Γ:Gm α}{L L':List (LO α)}(XK:∀e z,ev e=aa z->jz e=aa z)(h:J Cx ev R φ Γ L E σ){ks:List Nat}(jA:ks.Nodup)
 {ins outs:List (List IV)}{f:FuncId}{xs ps args:List IV}{z:IV}(dJ:ks.length=ins.length)(oq:∀(i k:Nat) (cs:List IV),ks[i]?=aa k->ins[i]?=aa cs->∃ds:List (Cl α),L[k]?=aa (LO.var ds)/\AS ev ds cs)
 (ou:Ik (λi=>(ks[i]?).bind φ) ins ps)(bF:All2 j_ args xs)(hr:GA P f ins xs outs z)(ho:outs.length=ins.length)(hlL:L'.length=L.length)
 (hLo:∀j,j∉ks->L'[j]?=L[j]?)(hLk:∀(i k:Nat) (cs:List IV),ks[i]?=aa k->outs[i]?=aa cs->∃ds:List (Cl α),L'[k]?=aa (LO.var ds)/\AS jz ds cs)
 (KW:Nat->IV->St->Prop)(UR:∀R' au v,J Cx jz R' φ Γ L' E au->j_ v z->∃b,∀N,b<=N->KW N v au):
 ∃b,∀N,b<=N->fc P N f (ps++args) σ (KW N):=by
 let dB:Nat->Bool:=λi=>ks.any λk=>match φ k with
  |some id=>ayQ i id
  |none=>af
 have Ij:∀i,dB i=ab↔∃k∈ks,φ k=aa i:=λi=>by
  simp only[dB,aAE];constructor
  .rintro⟨k,hk,hh⟩;refine⟨k,hk,?_⟩;split at hh
   .rename_i id hid;rw[hid,ay0 hh]
   .cases hh
  .rintro⟨k,hk,hh⟩;exact⟨k,hk,by rw[hh];simp⟩
 have aT:=O9 dB h.top
 let φ0:Ph:=λi=>(ks[i]?).bind φ
 have afI:∀i id,φ0 i=aa id->∃k,ks[i]?=aa k/\φ k=aa id:=λi id hi=>by
  exact ay4.1 hi
 have ZQ:∀(i:Nat) (cs:List IV),ins[i]?=aa cs->∃(k id:Nat) (cW:List IV),ks[i]?=aa k/\φ k=aa id/\R id=ah/\σ.at id=aa (.cells cW 0 0)/\cW.length=cs.length/\∀(j:Nat) x u,cW[j]?=aa x->cs[j]?=aa u->j_ x u/\ao u=ab:=λi cs hi=>by
  have ct:i<ks.length:=by rw[dJ];exact(ayH.1 hi).1
  have hk:=ayG ct;have⟨ds,d1,d2⟩:=oq i _ cs hk hi;have⟨id,cW,a⟩:=ajL h d1 d2;exact⟨_,id,cW,hk,a⟩
 have mJ:SK ins (λ_=>ah) φ0 E (σ.only dB):=by
  refine⟨λd t pv hg=>(by cases hg),λj ob hj=>?_,λj j' id h1 h2=>?_,λj id hj=>?_,λid m hm=>(by cases hm),λid m cs aE mn hm=>(by cases hm),T.J_ _ _,λid hid=>?_⟩
  .rw[ay1]at hj;obtain⟨cs,bH,rfl⟩:=ayR.1 hj;have⟨k,id,cW,k1,k2,k3,k4,k5,k6⟩:=ZQ j cs bH;refine⟨id,cW,by simp[φ0,k1,k2],rfl,?_,.mk (by simp[k5]) λq x c hx hc=>?_⟩
   .rw[aT,(Ij id).2 ⟨k,ayX k1,k2⟩];simpa using k4
   .rw[ay1]at hc;obtain⟨u,hu,rfl⟩:=ayR.1 hc;have⟨c1,c2⟩:=k6 q x u hx hu;exact⟨u,rfl,c1,c2⟩
  .have⟨k,k1,k2⟩:=afI j id h1;have⟨k',Dk,k2'⟩:=afI j' id h2;have:=h.inj k k' id k2 k2';subst this;exact getElem?_inj jA k1 Dk
  .have⟨k,k1,k2⟩:=afI j id hj;refine⟨?_,(h.lt k id k2).2⟩;have:=(ayH.1 k1).1;simp;omega
  .rw[aT];split
   .exact h.top id hid
   .rfl
 suffices aaQ:∀R1 ew av v,SK outs R1 ew E av->Ik ew outs ps->j_ v z->σ.n<=av.n->(∀id,id<σ.n->dB id=af->av.at id=ah)->∃b,∀N,b<=N->KW N v (σ.back av dB) by
  have⟨b,hb⟩:=hr _ _ _ _ ps args mJ ou bF (λN v av=>σ.n<=av.n->(∀id,id<σ.n->dB id=af->av.at id=ah)->KW N v (σ.back av dB)) λR1 ew av v h1 h2 h3=>by
   by_cases hc:σ.n<=av.n/\∀id,id<σ.n->dB id=af->av.at id=ah
   .have⟨b,hb⟩:=aaQ R1 ew av v h1 h2 h3 hc.1 hc.2;exact⟨b,λN hN _ _=>hb N hN⟩
   .exact⟨0,λN _ h3 h4=>absurd ⟨h3,h4⟩ hc⟩
  refine⟨b,λN hN ι us w hi qM=>((hb N hN).frame dB h.top ι us w hi qM).mono λed w' hR=>?_⟩;obtain⟨v,au,⟨av,jU,rfl,hle,_,Gy⟩,afH⟩:=hR;exact⟨v,σ.back av dB,jU hle Gy,afH⟩
 intro R1 ew av v bE hP1 hv hle Gy;have No:=bE.top;have BE:=O_ (σ:=σ) (av:=av) dB hle No;have hold:∀id,id<σ.n->dB id=af->(σ.back av dB).at id=σ.at id:=λid h1 h2=>by rw[BE,if_pos ⟨h1,h2⟩]
 have gp:∀id ob,av.at id=aa ob->¬(id<σ.n/\dB id=af):=λid ob ho hc=>by rw[Gy id hc.1 hc.2]at ho;cases ho
 have Np:∀id ob,av.at id=aa ob->(σ.back av dB).at id=aa ob:=λid ob ho=>by rw[BE,if_neg (gp id ob ho)];exact ho
 let R2:Rs:=λi=>if i<σ.n/\dB i=af then R i else R1 i
 have hRk:∀k id,k∈ks->φ k=aa id->R id=ah:=λk id hk hid=>by
  have⟨i,hi⟩:=az0 hk;have ct:i<ins.length:=by rw[<-dJ];exact(ayH.1 hi).1
  have⟨k',bz,cW,k1,k2,k3,_⟩:=ZQ i _ (ayG ct);rw[hi]at k1;cases k1;rw[hid]at k2;cases k2;exact k3
 have BF:∀id m,R id=aa m->id<σ.n/\dB id=af:=λid m hm=>by
  refine⟨h.qS id m hm,?_⟩;cases hv:dB id with
  |false=>rfl
  |true=>
   have⟨k,hk,hid⟩:=(Ij id).1 hv;rw[hRk k id hk hid]at hm;cases hm
 have uF:∀j id,j∉ks->φ j=aa id->id<σ.n/\dB id=af:=λj id hj hid=>by
  refine⟨(h.lt j id hid).2,?_⟩;cases hv:dB id with
  |false=>rfl
  |true=>
   have⟨k,hk,j9⟩:=(Ij id).1 hv;exact absurd (h.inj j k id hid j9▸hk) hj
 have CB:∀id m cs aE mn,R2 id=aa m->(σ.back av dB).at id=aa (.cells cs aE mn)->m<=cs.length:=λid m cs aE mn hm ha=>by
  simp only[R2]at hm;rw[BE]at ha;split at hm
  .rename_i hc;rw[if_pos hc]at ha;exact h.fits id m cs aE mn hm ha
  .rename_i hc;rw[if_neg hc]at ha;exact bE.fits id m cs aE mn hm ha
 have sG:jg R σ R2 (σ.back av dB):=by
  refine⟨λid m hm=>⟨m,by simp only[R2];rw[if_pos (BF id m hm)];exact hm,ayL _⟩,λid m cs aE mn hm ha=>⟨cs,aE,?_,ayL _,λ_ _=>rfl⟩,CB⟩;rw[hold id (BF id m hm).1 (BF id m hm).2];exact ha
 have ah0:∀k,k∈ks->∃(i:Nat) (cs:List IV) (ds:List (Cl α)),ks[i]?=aa k/\outs[i]?=aa cs/\L'[k]?=aa (.var ds)/\AS jz ds cs:=λk hk=>by
  have⟨i,hi⟩:=az0 hk;have ct:i<outs.length:=by rw[ho,<-dJ];exact(ayH.1 hi).1
  have⟨ds,d1,d2⟩:=hLk i k _ hi (ayG ct);exact⟨i,_,ds,hi,ayG ct,d1,d2⟩
 have UT:∀k,k∈ks->∃ds:List (Cl α),L[k]?=aa (.var ds):=λk hk=>by
  have⟨i,hi⟩:=az0 hk;have ct:i<ins.length:=by rw[<-dJ];exact(ayH.1 hi).1
  have⟨ds,d1,_⟩:=oq i k _ hi (ayG ct);exact⟨ds,d1⟩
 have hs:lj ev jz R φ L σ R2 φ L' (σ.back av dB) (λ_=>False):=by
  refine⟨XK,sG,λj cs hj=>?_,λj kt jC hj=>?_,λj s1 pA zI zZ z1 hj _=>?_,λj c pA snap hj=>?_⟩
  .by_cases cj:j∈ks
   .have⟨_,_,ds,_,_,d1,_⟩:=ah0 j cj;exact⟨⟨ds,d1⟩,rfl⟩
   .exact⟨⟨cs,by rw[hLo j cj];exact hj⟩,rfl⟩
  .have cj:j∉ks:=λhc=>by have⟨ds,hd⟩:=UT j hc;rw[hj]at hd;cases hd
   exact⟨⟨jC,by rw[hLo j cj];exact hj⟩,rfl⟩
  .have cj:j∉ks:=λhc=>by have⟨ds,hd⟩:=UT j hc;rw[hj]at hd;cases hd
   exact⟨⟨pA,zZ,z1,by rw[hLo j cj];exact hj,λe he=>⟨e,XK _ _ he,rfl⟩⟩,rfl,λid cs aE mn hid ha=>⟨cs,mn,by rw[hold id (uF j id cj hid).1 (uF j id cj hid).2];exact ha,rfl,λh=>h⟩⟩
  .have cj:j∉ks:=λhc=>by have⟨ds,hd⟩:=UT j hc;rw[hj]at hd;cases hd
   exact⟨⟨c,pA,snap,by rw[hLo j cj];exact hj⟩,rfl⟩
 refine UR R2 (σ.back av dB) v ⟨λd t pv hg=>(h.slot d t pv hg).step hs (PV.a_ _),λj ob hj=>?_,h.inj,λj id hj=>?_,λid m hm=>?_,CB,T.J_ _ _,λid hid=>?_⟩ hv
 .by_cases cj:j∈ks
  .have⟨i,cs,ds,i1,i2,i3,i4⟩:=ah0 j cj;rw[i3]at hj;cases hj;have ct:i<ps.length:=by rw[hP1.1];exact(ayH.1 i2).1
   have⟨id,p1,p2⟩:=hP1.2 i cs _ i2 (ayG ct);have KI:i<ins.length:=by rw[<-ho];exact(ayH.1 i2).1
   have⟨sZ,q1,q2⟩:=ou.2 i _ _ (ayG KI) (ayG ct);rw[p2]at q2;injection q2 with q2 _ _ _
   subst q2;have afJ:φ j=aa id:=by simpa[i1]using q1
   have eW:(aaR outs)[i]?=aa (.var (cs.map .v)):=by rw[ay1,i2];rfl
   have⟨bz,cW,o1,o2,o3,o4⟩:=bE.obj i _ eW;rw[p1]at o1;cases o1;refine⟨id,cW,afJ,?_,Np id _ o3,.mk (by rw[o4.len,azq,i4.len]) λq x c hx hc=>?_⟩
   .simp only[R2];rw[if_neg (gp id _ o3)];exact o2
   .have hq:q<cs.length:=by rw[<-i4.len];exact(ayH.1 hc).1
    have hcq:(cs.map Cl.v)[q]?=aa (.v cs[q]):=by rw[ay1,ayG hq];rfl
    have⟨y,y1,y2,y3⟩:=o4.get hx hcq;cases y1;obtain⟨e,rfl,he⟩:=i4.get hc (ayG hq);exact⟨_,he,y2,y3⟩
  .rw[hLo j cj]at hj;exact(h.obj j ob hj).step hs rfl (λid hid=>⟨hold id (uF j id cj hid).1 (uF j id cj hid).2,by simp only[R2];rw[if_pos (uF j id cj hid)]⟩) (LO.a_ _)
 .have:=h.lt j id hj;exact⟨by rw[hlL];exact this.1,aAl this.2 hle⟩
 .simp only[R2]at hm;split at hm
  .exact aAl (h.qS id m hm) hle
  .exact bE.qS id m hm
 .have j9:av.n<=id:=hid;rw[BE,if_neg aj];exact No id j9
variable{ι:Io}{w:World}{ro:Nat}
def au0(w:World)(s:Nat)(es:List IV)(u:Value)(w':World):Prop:=
 (w'.os=w.os/\w'.tape=w.tape/\w'.output=w.output/\w.heap.size<=w'.heap.size/\∀b,b<w.heap.size->w'.heap[b]?=w.heap[b]?)/\
 ((es=[]/\u=.slice ah 0 0)\/
  es≠[]/\∃b c el cap,w.heap.size<=b/\u=.slice (aa ⟨b,0,ah⟩) es.length cap/\w'.heap[b]?=aa (.cells c el (0,0))/\es.length<=cap/\cap*s<=c.size/\
   ∀(k:Nat) (x:IV),(flat es)[k]?=aa x->∃v,x=.raw v/\c[k]?=aa v)
def au1(w:World)(s:Nat)(es:List IV):Ending->World->Prop
 |.returned u,w'=>au0 w s es u w'
 |_,_=>False
def ry(P:Program)(s:Nat)(f:FuncId)(xs:List IV)(es:List IV):Prop:=
 0<s/\(∀e∈es,(cellsOf e).length=s)/\(∀c∈flat es,(∃v,c=.raw v)/\ao c=ab)/\∀M w us,Cq M w->aN (jf M) xs us->CallsIn azk 0 P f us.toArray w (au1 w s es)
def ET(n s:Nat)(es:List IV):IV:=if es.isEmpty then .raw (.slice ah 0 0)else .sl n 0 es.length ah 0 s
def wL(es:List IV):Ob:=.cells (flat es) 0 0
theorem zk{s:Nat}:∀{es:List IV},(∀e∈es,(cellsOf e).length=s)->(flat es).length=es.length*s
 |[],_=>by simp[flat]
 |e::es,h=>by
  have:=zk (es:=es) λe he=>h e (by simp[he]);have he:=h e aw;unfold flat at this⊢;rw[List.flatMap_cons,ayP,this,he,azh,Nat.add_mul];omega
def Inv.arp{w':World}{ob:Ob}{l:Loc}(h:Inv N ι σ w)(hN:σ.n<N)(bo:w.heap.size<=w'.heap.size)(hold:∀b,b<w.heap.size->w'.heap[b]?=w.heap[b]?)
 (u6:w'.os=w.os)(Hx:w'.tape=w.tape)(Hy:w'.output=w.output)(hl:w.heap.size<=l.b)(gb:l.b<w'.heap.size)(eW:my (eR ι σ.n 0 l) w' σ.n ob):
 Inv N (eR ι σ.n 0 l) (σ.add ob) w'/\Le ro ι w σ (eR ι σ.n 0 l) w' (σ.add ob):=by
 have ki:=h.fresh σ.n (ayL _) hN;refine⟨h.change (sZ:=σ.n) (mz (ki 0)) (λi hi e=>by simp[eR,hi]) ?_ ?_ bo (λb hb _=>hold b hb) eW (λj=>by simp) ⟨by simp,by simp⟩ ?_,?_⟩
 .intro id b hb;rcases pF hb with hb|⟨h1,h2⟩
  .exact .inl hb
  .exact .inr ⟨h1,by omega⟩
 .intro b hb;rcases pF hb with hb|⟨h1,h2⟩
  .have:=h.gU _ _ hb;omega
  .omega
 .intro id hid ak e;simp only[St.pD]at hid;have:id≠σ.n:=aj;simp[eR,this,h.fresh id aj ak e]
 .refine⟨mz (ki 0),?_,?_,?_,?_,by simp,u6,Hx,Hy,bo,λb hb _=>hold b hb,λ_ _ h=>.inl h⟩
  .intro id b hb;rcases pF hb with hb|⟨h1,h2⟩
   .exact .inl hb
   .exact .inr aj
  .intro id hn hr e;simp only[St.pD]at hr;have:id≠σ.n:=aj;simp[eR,this]
  .intro id hn hr;simp only[St.pD]at hr;have:id≠σ.n:=aj;rw[St.jO,if_neg (λhc=>this hc.symm),hn]
  .intro id hr hn;rw[St.jO,if_neg aj]
def Inv.ajM{w':World}(h:Inv N ι σ w)(bo:w.heap.size<=w'.heap.size)(hold:∀b,b<w.heap.size->w'.heap[b]?=w.heap[b]?)
 (u6:w'.os=w.os)(Hx:w'.tape=w.tape)(Hy:w'.output=w.output):∃aM,(∀v u,Rv ι v u->Rv aM v u)/\Inv N aM σ w'/\Le ro ι w σ aM w' σ:=by
 have hp:Oz ab ι.m w (.raw (.int .i64 0)) (.int .i64 0) w':=⟨λ_=>ah,λ_ _ hb=>(by cases hb),λ_ _ hb=>(by cases hb),λhc=>(by cases hc),.raw _,u6,Hx,Hy,bo,hold⟩;obtain⟨aM,h1,h2,h3⟩:=OB (ro:=ro) h (λhc=>by cases hc) hp;exact⟨aM,λv u hv=>hv.mono h3.ext,h2,h3⟩
def ry.call{s:Nat}{f:FuncId}{args xs es:List IV}(h:ry P s f xs es)(hr:∀N ι us w,Inv N ι σ w->aN ι args us->∃M,Cq M w/\aN (jf M) xs us):
 lN P ro f args σ (ET σ.n s es) (if es.isEmpty then σ else σ.add (wL es)):=by
 obtain⟨hs,bH,_,h⟩:=h;refine⟨by split<;>simp,λN hN ι us w hi qM=>?_⟩;obtain⟨M,hM,qL⟩:=hr N ι us w hi qM;refine(h M w us hM qL).mono λe w' hR=>?_;cases e with
 |panicked ch=>exact hR.elim
 |outgrown=>exact hR.elim
 |returned u=>
  obtain⟨⟨h1,h2,h3,h4,h5⟩,hu⟩:=hR;by_cases he:es.isEmpty
  .rw[if_pos he]at hN⊢;obtain⟨aM,g1,g2,g3⟩:=hi.ajM (ro:=ro) h4 h5 h1 h2 h3;refine⟨aM,?_,g2,g3⟩;unfold ET;rw[if_pos he];rcases hu with⟨_,rfl⟩|⟨a0,_⟩
   .exact .raw _
   .exact absurd (aAg.1 he) a0
  .rw[if_neg he]at hN⊢;unfold ET;rw[if_neg he];rcases hu with⟨rfl,_⟩|⟨_,b,c,el,cap,a1,rfl,a3,a4,a5,a6⟩
   .simp at he
   .have hlen:=zk bH;have hle:es.length*s<=cap*s:=Nat.mul_le_mul_right s a4
    have dw:b<w'.heap.size:=by
     rcases Nat.lt_or_ge b w'.heap.size with ak|Ct
     .exact ak
     .rw[Array.getElem?_eq_none Ct]at a3;cases a3
    have bN:=cC ι σ.n 0 ⟨b,es.length*s,c.size⟩;have ki:∀e,ι σ.n e=ah:=hi.fresh σ.n (ayL _) (by simp only[St.pD]at hN;omega)
    obtain⟨g1,g2⟩:=hi.arp (ro:=ro) (w':=w') (ob:=wL es) (l:=⟨b,es.length*s,c.size⟩) (by simp only[St.pD]at hN;omega) h4 h5 h1 h2 h3 a1 dw (by
     refine⟨⟨ayL _,λe he=>?_⟩,⟨_,bN,hlen.symm⟩,λe e1 e2=>?_⟩
     .have:e≠0:=aj;simp[eR,this,ki]
     .have:e=0:=aj;subst this;refine⟨_,c,el,bN,by rw[hlen];exact ayL _,a3,rfl,λk x hk hx=>?_⟩;obtain⟨v,rfl,hv⟩:=a6 k x hx;exact⟨v,hv,.raw _⟩)
    exact⟨_,.sl σ.n 0 es.length ah 0 s ⟨b,es.length*s,c.size⟩ cap ⟨b,0,ah⟩ bN aw (by simpa using a5) hs a4 (λk hk=>by cases hk) (λ_=>rfl),g1,g2⟩
def aaT(s:Nat)(es:List IV)(v:IV)(au:St):Prop:=
 (es=[]/\v=.raw (.slice ah 0 0))\/es≠[]/\∃id cs aE mn cap,au.at id=aa (.cells cs aE mn)/\mn<=aE/\v=.sl id 0 es.length cap aE s/\es.length*s<=cs.length/\
  ∀(k:Nat) (x:IV),(flat es)[k]?=aa x->∃u,x=.raw u/\cs[k]?=aa (.raw u)
def ry.TT{s:Nat}{f:FuncId}{xs es:List IV}{RW:IV->St->Prop}(hs:0<s)(bH:∀e∈es,(cellsOf e).length=s)(bf:∀c∈flat es,(∃v,c=.raw v)/\ao c=ab)(h:fc P N f xs ⟨0,.lf⟩ RW)(hc:∀v au,RW v au->aaT s es v au):ry P s f xs es:=by
 refine⟨hs,bH,bf,λM w us hM hr=>?_⟩;refine(h (jf M) us w (OA hM) hr).mono λe w' hR=>?_;obtain⟨v,au,vT,hR⟩:=hR;cases e with
 |panicked ch=>exact hR.elim
 |outgrown=>exact hR.elim
 |returned u=>
  obtain⟨aM,h1,h2,h3⟩:=hR;have Bb:∀b,b<w.heap.size->w'.heap[b]?=w.heap[b]? :=λb hb=>h3.frame b hb λid ho=>(by obtain⟨_,_,h,_⟩:=ho;cases h);refine⟨⟨h3.os,h3.tape,h3.output,h3.size,Bb⟩,?_⟩;rcases hc v au vT with⟨rfl,rfl⟩|⟨bA,id,cs,aE,mn,cap,a1,a2,rfl,a3,a4⟩
  .cases h1;exact .inl ⟨rfl,rfl⟩
  .obtain⟨_,_,o3⟩:=h2.obj id _ a1;obtain⟨l,c,el,b1,b2,b3,b4,b5⟩:=o3 aE a2 (ayL _);cases h1 with
   |sl _ _ _ _ _ _ l' LJ a hl hn kF bu hle kG ha=>
    rw[b1]at hl;cases hl;have xy:0<es.length:=List.length_pos_iff.2 bA
    have hb:w.heap.size<=l.b:=by
     rcases h3.own id l.b ⟨aE,l,b1,rfl⟩with ho|ho
     .obtain⟨_,_,h,_⟩:=ho;cases h
     .exact ho
    rw[ha aj];refine .inr ⟨bA,l.b,c,el,LJ,hb,rfl,b3,hle,by rw[<-b4];omega,λk x hx=>?_⟩;obtain⟨u,rfl,hu⟩:=a4 k x hx
    have hk:k<l.n:=by
     have:=(ayH.1 hx).1;rw[zk bH]at this;omega
    obtain⟨y,hy,hr⟩:=b5 k _ hk hu;cases hr;exact⟨_,rfl,hy⟩
variable{C:Cr}{Q:IV->Prop}{K:List (List IV->Prop)}{V:SS}{d:Nat}{o:Oper}{k:PV SE->SS->aq}
def ajN{fr:Bool}{x z:IV}(hi:(λ(_:Nat)=>(ah:Option Nat))=R)(ED:σ=⟨0,.lf⟩)(h:bx fr R σ x z):∀{u:Value},Rv ι x u->Rv (jf ι.m) z u:=by
 induction h with
 |raw v=>intro u h;cases h;exact .raw v
 |nil s hs=>intro u h;cases h;exact .eJ s ah 0 hs (λ_=>rfl)
 |emp s hs=>intro u h;cases h;exact .eJ s _ 0 hs (λh=>by cases h)
 |dP t x y _ ih=>intro u h;cases h with|dP _ _ v hh=>exact .dP t y v (ih hh)
 |agg cs ds hl _ ih=>
  intro u h;cases h with
  |agg _ vs cJ hh=>
   refine .agg ds vs (hl▸cJ) λi d v h1 h2=>?_;have ct:i<cs.length:=by have:=(ayH.1 h1).1;omega
   exact ih i _ d (ayG ct) h1 (hh i _ v (ayG ct) h2)
 |aF cs ds hl _ ih=>
  intro u h;cases h with
  |aF _ vs cJ hh=>
   refine .aF ds vs (hl▸cJ) λi d v h1 h2=>?_;have ct:i<cs.length:=by have:=(ayH.1 h1).1;omega
   exact ih i _ d (ayG ct) h1 (hh i _ v (ayG ct) h2)
 |pure x hf hp=>intro u h;exact hp.rv h (λ_ _ h=>h)
 |sl id off len cap ep s m cs aE mn es hR=>rw[<-hi]at hR;cases hR
def eK.arq{f:FuncId}{args xs:List IV}{z:IV}(h:eK P af af f xs z)(hc:All2 j_ args xs):lN P ro f args σ z σ:=by
 refine⟨ayL _,λN hN ι us w hi hr=>?_⟩
 have qL:aN (jf ι.m) xs us:=⟨hc.len▸hr.1,λi c v h1 h2=>by
  have ct:i<args.length:=by grind [hc.len]
  exact ajN rfl rfl (hc.get (ayG ct) h1) (hr.2 i _ v (ayG ct) h2)⟩
 refine(h ι.m w us hi.mem qL).mono λe w' hR=>?_;cases e with
 |returned u=>exact OB hi (λ_ _ _=>Iff.rfl) hR.2
 |panicked ch=>exact absurd hR.1 aw
 |outgrown=>assumption
def ry.Sk{s:Nat}{f:FuncId}{args xs es:List IV}(h:ry P s f xs es)(hc:OC ab σ args xs):lN P ro f args σ (ET σ.n s es) (if es.isEmpty then σ else σ.add (wL es)):=
 h.call λ_ _ _ w hi hr=>⟨allM w,OD,hc.rv hi hr⟩
def SL(n:Nat):IV->Bool
 |.aF vs=>vs.length==n
 |_=>af
def oP(P:Program)(f:FuncId)(z:IV):Bool:=
 match P.funcs[f]? with
 |some fn=>fn.resultTypes.size==1||SL fn.resultTypes.size z
 |none=>af
def mK(P:Program)(C:Cr):Prop:=∀f new xs z,C f new xs z->(f<P.funcs.size->eK P af new f xs z/\Pure z/\oP P f z=ab)/\
 (∀g,g<P.funcs.size->f=P.funcs.size+g->∃s es yZ aW,xs=.tree s es::yZ/\z=.tree s aW/\Gz P s g es yZ aW)/\
 (∀g,g<P.funcs.size->f=2*P.funcs.size+g->∃ins yZ outs z0,xs=.agg (ins.map IV.agg)::yZ/\z=.aF (z0::outs.map IV.agg)/\outs.map azj=ins.map azj/\(∀cs∈outs,∀u∈cs,ao u=ab)/\GA P g ins yZ outs z0)/\
 (∀g,g<P.funcs.size->f=3*P.funcs.size+g->∃t:Nat,xs=[.int t]/\HY P g t)/\
 ∀g,g<P.funcs.size->f=4*P.funcs.size+g->∃es,z=.tree (eC P g) es/\ry P (eC P g) g xs es
def Re{c:Cl SE}{fr:Bool}{z:SE}{V':SS}(hp:xD [c]=ab)(hr:KD V c=aa (fr,z,V')){x:IV}(hx:c9 (ay P ν) R φ V.l σ x c):∃y,z.den P ν=aa y/\j_ x y:=by
 cases c<;>simp only[xD]at hp<;>try grind
 .obtain⟨rfl,rfl,rfl⟩:=hr;have⟨y,h1,h2,_⟩:=hx
  grind
 .rename_i b s;obtain⟨rfl,rfl,rfl⟩:=hr;obtain⟨h1,rfl⟩:=hx;refine⟨.tree s [],by simp[SE.den,h1],?_⟩;cases b
  .exact .emp s h1
  .exact .nil s h1
def Rf{c:Cl SE}{fr:Bool}{z:SE}{V':SS}(hp:xD [c]=ab)(hr:KD V c=aa (fr,z,V')):V'=V:=by
 cases c<;>simp only[xD]at hp<;>try grind
 all_goals simp_all[KD]
def acL{c:Cl SE}{cs:List (Cl SE)}(h:xD (c::cs)=ab):xD [c]=ab/\xD cs=ab:=by
 cases c<;>simp only[xD]at h⊢<;>first|grind|grind
theorem Nq:∀{cs:List (Cl SE)} {fr:Bool} {zs:List SE} {V':SS},xD cs=ab->Bp V cs=aa (fr,zs,V')->V'=V/\∀{xs:List IV},All2 (c9 (ay P ν) R φ V.l σ) xs cs->∃ys,All2 (λ(z:SE) y=>z.den P ν=aa y) zs ys/\All2 j_ xs ys
 |[],fr,zs,V',_,hr=>by
  obtain⟨rfl,rfl,rfl⟩:=hr;refine⟨rfl,λ{xs} hx=>?_⟩;cases xs with
  |nil=>exact⟨[],trivial,trivial⟩
  |cons=>cases hx
 |c::cs,fr,zs,V',hp,hr=>by
  have⟨h1,h2⟩:=acL hp;simp only[Bp]at hr;split at hr
  .rename_i f1 z V1 wK;have e0:=Rf h1 wK;rw[e0]at hr;split at hr
   .rename_i f2 zs' V2 UU;obtain⟨rfl,rfl,rfl⟩:=hr;obtain⟨rfl,h3⟩:=Nq h2 UU;refine⟨rfl,λ{xs} hx=>?_⟩;cases xs with
    |nil=>cases hx
    |cons x xs=>
     have⟨y,a1,a2⟩:=Re h1 wK hx.1;have⟨ys,b1,b2⟩:=h3 hx.2;exact⟨y::ys,⟨a1,b1⟩,⟨a2,b2⟩⟩
   grind
  grind
def Pb{V':SS}{pv:PV SE}{fr:Bool}{z:SE}(h:J Cx (ay P ν) R φ V.g V.l E σ)(hr:vV V pv=aa (fr,z,V'))(ht:∀vs,pv≠.tu vs):
 ∃R',jM P ν R φ V σ R' V'/\J Cx (ay P ν) R' φ V'.g V'.l E σ/\∀x,VR (ay P ν) R φ V.l σ x pv->∃y,z.den P ν=aa y/\bx fr R' σ x y:=by
 cases pv with
 |one c=>
  have⟨R',h1,h2,h3⟩:=Ic h hr;exact⟨R',h1,h2,λx hx=>by have⟨y,a,b,_⟩:=h3 x hx;grind⟩
 |ag cs=>
  simp only[vV]at hr;split at hr
  .rename_i f zs V1 wK;obtain⟨rfl,rfl,rfl⟩:=hr;have⟨R',h1,h2,_,h3⟩:=AP h wK;refine⟨R',h1,h2,λx hx=>?_⟩;obtain⟨xs,rfl,s5⟩:=hx;have⟨ys,a,b,_⟩:=h3 xs s5;exact⟨.agg ys,gH a,.agg xs ys b.len λi c e h1 h2=>b.get h1 h2⟩
  grind
 |tu vs=>grind
def aaU{V':SS}{pv:PV SE}{fr:Bool}{z:SE}(hp:qz pv=ab)(hr:vV V pv=aa (fr,z,V')):V'=V/\∀{x:IV},VR (ay P ν) R φ V.l σ x pv->∃y,z.den P ν=aa y/\j_ x y:=by
 cases pv with
 |one c=>exact⟨Rf hp hr,λ{x} hx=>Re hp hr hx⟩
 |ag cs=>
  simp only[vV]at hr;split at hr
  .rename_i f zs V1 wK;obtain⟨rfl,rfl,rfl⟩:=hr;have⟨h1,h2⟩:=Nq (P:=P) (ν:=ν) (R:=R) (φ:=φ) (σ:=σ) hp wK;refine⟨h1,λ{x} hx=>?_⟩;obtain⟨xs,rfl,s5⟩:=hx;have⟨ys,a,b⟩:=h2 s5;exact⟨.agg ys,gH a,.agg xs ys b.len λi c e h1 h2=>b.get h1 h2⟩
  grind
 |tu vs=>cases hp
theorem Pc:∀{dq:List (PV SE)} {V V':SS} {R:Rs} {zs:List SE},J Cx (ay P ν) R φ V.g V.l E σ->DW V dq=aa (zs,V')->Lv dq=ab->
 ∃R',jM P ν R φ V σ R' V'/\J Cx (ay P ν) R' φ V'.g V'.l E σ/\∀xs,All2 (VR (ay P ν) R φ V.l σ) xs dq->∃ys,All2 (λ(z:SE) y=>z.den P ν=aa y) zs ys/\All2 (bx ab R' σ) xs ys
 |[],V,V',R,zs,h,hr,_=>by
  obtain⟨rfl,rfl⟩:=hr;refine⟨R,.refl h,h,λxs hx=>?_⟩;cases xs with
  |nil=>exact⟨[],trivial,trivial⟩
  |cons=>cases hx
 |pv::dq,V,V',R,zs,h,hr,ht=>by
  have Yh:(∀vs,pv≠.tu vs)/\Lv dq=ab:=by
   cases pv<;>simp_all[Lv]
  simp only[DW]at hr;split at hr
  .rename_i f z V1 wK;split at hr
   .rename_i zs' V2 UU;obtain⟨rfl,rfl⟩:=hr;have⟨R1,a1,a2,a3⟩:=Pb h wK Yh.1;have⟨R2,b1,b2,b3⟩:=Pc a2 UU Yh.2;refine⟨R2,a1.trans b1,b2,λxs hx=>?_⟩;cases xs with
    |nil=>cases hx
    |cons x xs=>
     have⟨y,c1,c2⟩:=a3 x hx.1;have⟨ys,d1,d2⟩:=b3 xs (hx.2.mono λ_ _ cG=>a1.vr cG);exact⟨y::ys,⟨c1,d1⟩,⟨(c2.mono b1.2.2.2.grow).cQ,d2⟩⟩
   grind
  grind
theorem Av:∀{dq:List (PV SE)} {V':SS} {zs:List SE},DW V dq=aa (zs,V')->dq.all qz=ab->
 V'=V/\∀{xs:List IV},All2 (VR (ay P ν) R φ V.l σ) xs dq->∃ys,All2 (λ(z:SE) y=>z.den P ν=aa y) zs ys/\All2 j_ xs ys
 |[],V',zs,hr,_=>by
  obtain⟨rfl,rfl⟩:=hr;refine⟨rfl,λ{xs} hx=>?_⟩;cases xs with
  |nil=>exact⟨[],trivial,trivial⟩
  |cons=>cases hx
 |pv::dq,V',zs,hr,hp=>by
  simp only[List.all_cons,ayI]at hp;simp only[DW]at hr;split at hr
  .rename_i f z V1 wK;have⟨e1,a1⟩:=aaU (P:=P) (ν:=ν) (R:=R) (φ:=φ) (σ:=σ) hp.1 wK;rw[e1]at hr;split at hr
   .rename_i zs' V2 UU;obtain⟨rfl,rfl⟩:=hr;have⟨e2,b1⟩:=Av UU hp.2;refine⟨e2,λ{xs} hx=>?_⟩;cases xs with
    |nil=>cases hx
    |cons x xs=>
     have⟨y,c1,c2⟩:=a1 hx.1;have⟨ys,d1,d2⟩:=b1 hx.2;exact⟨y::ys,⟨c1,d1⟩,⟨c2,d2⟩⟩
   grind
  grind
def Il{t:TypeId}{e:SE}{z:IV}{f:aq}(hz:e.den P ν=aa z)(hp:Pure z)(hs:(uc P t e f).sat P C Q K ν):f.sat P C Q K ν/\VR (ay P ν) R φ L σ z (ofType P t e)/\vR (ay P ν) R φ L σ z (isAgg P t,fE (ofType P t e)):=by
 unfold uc at hs;unfold ofType;by_cases ha:isAgg P t=ab
 .rw[if_pos ha]at hs;have⟨⟨y,hy⟩,hk⟩:=hs;simp only[SE.den,hz,ayK]at hy;split at hy
  .rename_i cs;split at hy
   .rename_i hc
    have bX:All2 (c9 (ay P ν) R φ L σ) cs ((azT ((aX P t).getD 0)).map λj=>Cl.v (SE.aP e j)):=by
     refine .mk bc λi a b h1 h2=>?_;have hi:=(ayH.1 h1).1;rw[ay1,aAC aj]at h2;simp only[azl,ayO]at h2;subst h2;have bf:=(ayY.1 hc.2) a (ayX h1);have o9:Pure a:=by cases hp with|agg _ hh=>grind
     exact⟨a,by simp[SE.den,hz,h1,wF,bf],.pure a rfl o9,bf⟩
    simp only[ha];exact⟨hk,⟨cs,rfl,bX⟩,by simp only[vR,fE];grind⟩
   grind
  grind
 .rw[if_neg ha]at hs;have⟨⟨y,hy⟩,hk⟩:=hs;have⟨h1,h2⟩:=r8 hy;rw[hz]at h1;cases h1;have hv:c9 (ay P ν) R φ L σ z (.v (.ok e)):=⟨z,hy,.pure z rfl hp,h2⟩;rw[if_neg ha];refine⟨hk,hv,?_⟩
  simp_all[vR,fE]
theorem Nr{e:SE}{vs:List IV}{f:aq}(hz:e.den P ν=aa (.aF vs))(hp:∀v∈vs,Pure v):∀{ts:List TypeId} {j:Nat},(T_ P e j ts f).sat P C Q K ν->j+ts.length=vs.length->f.sat P C Q K ν/\All2 (vR (ay P ν) R φ L σ) (vs.drop j) (OP P e j ts)
 |[],j,hs,hl=>by
  simp at hl;rw[List.drop_of_length_le aj];exact⟨hs,trivial⟩
 |t::ts,j,hs,hl=>by
  simp at hl;have hj:j<vs.length:=aj;have hd:(SE.proj e j).den P ν=aa vs[j]:=by simp[SE.den,hz]
  have⟨h1,_,h3⟩:=Il (R:=R) (φ:=φ) (L:=L) (σ:=σ) hd (hp _ (ayJ hj)) hs;have⟨h4,h5⟩:=Nr hz hp h1 aj;refine⟨h4,?_⟩;rw[List.drop_eq_getElem_cons hj];exact⟨h3,h5⟩
def afK{fn:Func}{e:SE}{z:IV}(hz:e.den P ν=aa z)(hp:Pure z)(ht:fn.resultTypes.size≠1->SL fn.resultTypes.size z=ab)(hs:(Sw P fn V e k).sat P C Q K ν):∃pv,(k pv V).sat P C Q K ν/\VR (ay P ν) R φ L σ z pv:=by
 unfold Sw at hs;split at hs
 .have⟨h1,h2,_⟩:=Il (R:=R) (φ:=φ) (L:=L) (σ:=σ) hz hp hs
  grind
 .have bo:fn.resultTypes.size≠1:=by
   intro h;have:fn.resultTypes.toList.length=1:=aj;have⟨t,ht⟩:=List.length_eq_one_iff.1 this
   grind
  have:=ht bo;unfold SL at this;split at this
  .rename_i vs;have hl:vs.length=fn.resultTypes.size:=bc;obtain⟨h1,h2⟩:=Nr (R:=R) (φ:=φ) (L:=L) (σ:=σ) (j:=0) hz (λv hv=>by cases hp with|aF _ hh=>grind) hs bc;exact⟨_,h1,vs,rfl,by grind⟩
  grind
variable{cfg:fe}{self:nW}
variable{f0:Nat}
def amf{ys:List IV}{bs:List (Nat×Nat)}(h:All2 (λy (p:Nat×Nat)=>∃id cs,φ p.1=aa id/\L[p.1]?=aa (.var cs)/\y=.ptr id 0 0 p.2) ys bs):All2 (VR (ay P ν) R φ L σ) ys (bs.map λ(p:Nat×Nat)=>.one (.pt p.1 0 p.2)):=
 h.map (f:=λ(p:Nat×Nat)=>PV.one (Cl.pt p.1 0 p.2)) λ_ _ h=>h
def nG{x:IV}{g:FuncId}{bs:List (Nat×Nat)}{args:List IV}{fn:Func}(hx:VR (ay P ν) R φ L σ x (.one (.fn g bs)))(dk:P.funcs[g]?=aa fn)(hb:fn.body.isSome=ab)(pT:(fn.name != "runtime.NumGoroutine")=ab):
 ∃ys,iH P x args=aa (.enter g (args++ys))/\All2 (VR (ay P ν) R φ L σ) ys (bs.map λ(p:Nat×Nat)=>.one (.pt p.1 0 p.2)):=by
 rcases hx with⟨rfl,rfl⟩|⟨ys,rfl,h⟩
 .refine⟨[],?_,trivial⟩
  simp_all[iH]
 .refine⟨ys,?_,amf h⟩;simp only[iH,dk,hb,pT,azN,Bool.and_self,if_true]
def Yi{xs ys:List IV}(h:All2 (bx ab R σ) xs ys):OC ab σ xs ys:=⟨h.len,λ_ _ _ h1 h2=>(h.get h1 h2).can⟩
def au2(Cx:Cs)(P:Program)(C:Cr)(Q:IV->Prop)(K:List (List IV->Prop))(ν:List IV)(E:Nat->Env)(lv:Nat×Nat)(k:PV SE->SS->aq)(φ:Ph)(σ:St)(res:FuncId->List IV->Prop):Prop:=
 ∃g args z R1 pv V1 μ,res g args/\(∀ro,lN P ro g args σ z σ)/\J Cx (ay P (ν++μ)) R1 φ V1.g V1.l E σ/\VR (ay P (ν++μ)) R1 φ V1.l σ z pv/\(ν++μ).length=V1.n/\V1.ln=lv/\(k pv V1).sat P C Q K (ν++μ)
def UW(hC:mK P C)(hJ:J Cx (ay P ν) R φ V.g V.l E σ)(hn:ν.length=V.n){c:Call}{f:Operand}{g:FuncId}(ho:o.op=.call c)(hc:c.callee=.value f)(hf:bP P d V 0 f=.one (.fn g [])){zs:List SE}{V':SS}{fn:Func}
 (hr:DW V (kz P d V c.args.toList c.argTypes.toList)=aa (zs,V'))(dk:P.funcs[g]?=aa fn)(hb:fn.body.isSome=ab)(pT:(fn.name != "runtime.NumGoroutine")=ab)(ht:Lv (kz P d V c.args.toList c.argTypes.toList)=ab)
 (hs:(aq.call g (!(kz P d V c.args.toList c.argTypes.toList).all qz) (ff zs) (Sw P fn {V' with n:=V'.n+1} (.var V'.n) k)).sat P C Q K ν):
 au2 Cx P C Q K ν E V.ln k φ σ (λg args=>aA P 0 (aD (E d)) o σ=aa (.enter g args)):=by
 have⟨xs,z,h1,h2,h3⟩:=hs;have⟨lg,hpz,htu⟩:=(hC _ _ _ _ h2).1 (azx.1 dk).1;have bF:=js hJ d c.args.toList c.argTypes.toList;have tc:=bw hJ d 0 f;rw[hf]at tc;have⟨ys,pI,vl⟩:=nG (args:=c.args.toList.map (aD (E d))) tc dk hb pT
 have LL:ys=[]:=by
  cases ys with
  |nil=>rfl
  |cons=>cases vl
 subst LL;rw[ay2]at pI
 have fD:aA P 0 (aD (E d)) o σ=aa (.enter g (c.args.toList.map (aD (E d)))):=by
  simp_all[aA]
 have au3:fn.resultTypes.size≠1->SL fn.resultTypes.size z=ab:=by
  intro bA
  simp_all[oP]
 have nZ:∀{us:List IV},All2 (λ(z:SE) y=>z.den P ν=aa y) zs us->xs=us:=by
  intro us hu;simp only[kc,gH hu]at h1
  grind
 have⟨R1,bL,bE,fm⟩:=Pc hJ hr ht;have⟨us,b1,b2⟩:=fm _ bF;have oz:=nZ b1;subst oz
 have amg:∀ro,lN P ro g (c.args.toList.map (aD (E d))) σ z σ:=by
  intro ro;by_cases bX:(kz P d V c.args.toList c.argTypes.toList).all qz=ab
  .rw[bX]at lg;have⟨_,gd⟩:=Av (P:=P) (ν:=ν) (R:=R) (φ:=φ) (σ:=σ) hr bX;have⟨w9,c1,c2⟩:=gd bF;have:=nZ c1;subst this;exact eK.arq lg c2
  .have hf:(kz P d V c.args.toList c.argTypes.toList).all qz=af:=bc;rw[hf]at lg;exact eK.Sk lg (Yi b2)
 have eG:ν.length=V'.n:=by rw[hn,bL.2.1]
 have fq:=bE.up (jz:=ay P (ν++[z])) (λe y h=>SE.dI P e h);have o_:(SE.var V'.n).den P (ν++[z])=aa z:=by simp[SE.den,<-eG]
 have⟨pv,hk,hv⟩:=afK (R:=R1) (φ:=φ) (L:=V'.l) (σ:=σ) o_ hpz au3 h3;exact⟨g,_,z,R1,pv,{V' with n:=V'.n+1},[z],fD,amg,fq,hv,by grind,bL.2.2.1,hk⟩
def Xg{c:Call}{g:FuncId}{es:List IV}{V':SS}{R1:Rs}(hn:ν.length=V.n)(bL:jM P ν R φ V σ R1 V')(mJ:J Cx (ay P ν) R1 φ V'.g V'.l E σ)
 (fD:aA P 0 (aD (E d)) o σ=aa (.enter g (c.args.toList.map (aD (E d)))))(xk:∀ro,lN P ro g (c.args.toList.map (aD (E d))) σ (ET σ.n (eC P g) es) (if es.isEmpty then σ else σ.add (wL es)))
 (cw:0<eC P g)(bH:∀e∈es,(cellsOf e).length=eC P g)(bf:∀c∈flat es,(∀(R:Rs) (σ:St),bx af R σ c c)/\ao c=ab)
 (h3:(k (.one (.sr V'.l.length)) {V' with n:=V'.n+1,l:=V'.l++[.row (eC P g) af af af (.var V'.n)]}).sat P C Q K (ν++[IV.tree (eC P g) es])):
 ∃args v av R1 ew pv V1 μ,aA P 0 (aD (E d)) o σ=aa (.enter g args)/\(∀ro,lN P ro g args σ v av)/\(av=σ\/∃ob,av=σ.add ob)/\J Cx (ay P (ν++μ)) R1 ew V1.g V1.l E av/\VR (ay P (ν++μ)) R1 ew V1.l av v pv/\(ν++μ).length=V1.n/\V1.ln=V.ln/\(k pv V1).sat P C Q K (ν++μ):=by
 have eG:ν.length=V'.n:=by rw[hn,bL.2.1]
 have bE:=mJ.up (jz:=ay P (ν++[IV.tree (eC P g) es])) (λe y h=>SE.dI P e h);have o_:(SE.var V'.n).den P (ν++[IV.tree (eC P g) es])=aa (.tree (eC P g) es):=by simp[SE.den,<-eG]
 have oE:(V'.l++[LO.row (eC P g) af af af (SE.var V'.n)])[V'.l.length]?=aa (.row (eC P g) af af af (.var V'.n)):=aw;by_cases he:es.isEmpty
 .have gw:=aAg.1 he;subst gw;refine⟨_,_,_,R1,φ,.one (.sr V'.l.length),{V' with n:=V'.n+1,l:=V'.l++[.row (eC P g) af af af (.var V'.n)]},[.tree (eC P g) []],fD,xk,.inl rfl,?_,?_,by grind,bL.2.2.1,h3⟩
  .exact(bE.AQ (fr:=af) cw o_).2
  .exact⟨eC P g,af,af,af,_,[],oE,o_,.inl ⟨xR mJ (ayL _),rfl,.inl rfl⟩⟩
 .have hif:(if es.isEmpty then σ else σ.add (wL es))=σ.add (wL es):=if_neg he;have tc:ET σ.n (eC P g) es=.sl σ.n 0 es.length ah 0 (eC P g):=if_neg he;have hlen:=zk bH;refine⟨_,_,_,R1,bU φ V'.l.length σ.n,.one (.sr V'.l.length),{V' with n:=V'.n+1,l:=V'.l++[.row (eC P g) af af af (.var V'.n)]},[.tree (eC P g) es],fD,xk,.inr ⟨_,hif⟩,?_,?_,by grind,bL.2.2.1,h3⟩
  .rw[hif];refine bE.zB (wL es) _ ⟨cw,es,o_,bH,.inr ⟨σ.n,flat es,0,0,by simp[bU],by simp[wL],ayL _,by omega,?_,ayY.2 λc hc=>(bf c hc).2,λj x d hx hd=>?_⟩⟩
   .cases hR:R1 σ.n with
    |none=>rfl
    |some m=>exact absurd (mJ.qS _ _ hR) (Nat.lt_irrefl _)
   grind
  .rw[hif,tc];exact⟨eC P g,af,af,af,_,es,oE,o_,.inr ⟨σ.n,flat es,0,0,ah,by simp[bU],by simp[wL],by simp,azz _,λ_ _=>hlen.symm,λc hc=>by grind⟩⟩
def Rg(hC:mK P C)(hJ:J Cx (ay P ν) R φ V.g V.l E σ)(hn:ν.length=V.n){c:Call}{f:Operand}{g:FuncId}(ho:o.op=.call c)(hc:c.callee=.value f)(hf:bP P d V 0 f=.one (.fn g []))
 (hs:(Ui P g (kz P d V c.args.toList c.argTypes.toList) V k).sat P C Q K ν):
 ∃args v av R1 ew pv V1 μ,aA P 0 (aD (E d)) o σ=aa (.enter g args)/\(∀ro,lN P ro g args σ v av)/\(av=σ\/∃ob,av=σ.add ob)/\J Cx (ay P (ν++μ)) R1 ew V1.g V1.l E av/\VR (ay P (ν++μ)) R1 ew V1.l av v pv/\(ν++μ).length=V1.n/\V1.ln=V.ln/\(k pv V1).sat P C Q K (ν++μ):=by
 unfold Ui at hs;split at hs<;>try cases hs
 rename_i zs V' fn hr dk;split at hs<;>try exact hs.elim
 rename_i cH;simp only[ayI]at cH;have⟨ht,hb,pT⟩:=cH;have bF:=js hJ d c.args.toList c.argTypes.toList;have tc:=bw hJ d 0 f;rw[hf]at tc;have⟨ys,pI,vl⟩:=nG (args:=c.args.toList.map (aD (E d))) tc dk hb pT
 have LL:ys=[]:=by
  cases ys with
  |nil=>rfl
  |cons=>cases vl
 subst LL;rw[ay2]at pI
 have fD:aA P 0 (aD (E d)) o σ=aa (.enter g (c.args.toList.map (aD (E d)))):=by
  simp_all[aA]
 have⟨R1,bL,mJ,fm⟩:=Pc hJ hr ht;have⟨us,c1,c2⟩:=fm _ bF;have⟨xs,z,h1,h2,h3⟩:=hs;obtain⟨es,rfl,Xz⟩:=(hC _ _ _ _ h2).2.2.2.2 g (azx.1 dk).1 rfl
 have oz:xs=us:=by
  simp only[kc,gH c1]at h1
  grind
 subst oz
 exact Xg hn bL mJ fD (λro=>Xz.Sk (ro:=ro) (σ:=σ) (Yi c2)) Xz.1 Xz.2.1 (λc hc=>by
  obtain⟨⟨v,rfl⟩,h2⟩:=Xz.2.2.1 c hc;exact⟨λ_ _=>.raw _,h2⟩) h3
def fj(e:Env)(dst:Option Nat)(x:IV):(e.put dst x).n=e.n:=by simp[Env.qK]
def GB{V1:SS}{x:IV}{pv:PV SE}{dst:Option Nat}(hJ:J Cx (ay P ν) R φ V1.g V1.l E σ)(hx:VR (ay P ν) R φ V1.l σ x pv)(hd:∀t,dst=aa t->t<(E d).n):J Cx (ay P ν) R φ (V1.b_ d dst pv).g (V1.b_ d dst pv).l (ly E d ((E d).put dst x)) σ:=by
 cases dst with
 |none=>exact hJ.ZV (KB:=V1.g) d ah x (λt h=>by cases h) (λ_=>rfl)
 |some t=>exact hJ.put d (hd t rfl) hx
def GC{V1:SS}{x:IV}{dst:Option Nat}(hJ:J Cx (ay P ν) R φ V1.g V1.l E σ):J Cx (ay P ν) R φ (V1.ll d dst).g (V1.ll d dst).l (ly E d ((E d).put dst x)) σ:=by
 cases dst with
 |none=>exact hJ.ZV (KB:=V1.g) d ah x (λt h=>by cases h) (λ_=>rfl)
 |some t=>exact hJ.ZV (KB:=FH d t V1.g) d (aa t) x (λt' h=>by grind) (λh=>by cases h)
@[simp] theorem Im(V1:SS)(dst:Option Nat)(pv:PV SE):(V1.b_ d dst pv).n=V1.n:=by cases dst<;>rfl
@[simp] theorem aaV(V1:SS)(dst:Option Nat)(pv:PV SE):(V1.b_ d dst pv).ln=V1.ln:=by cases dst<;>rfl
@[simp] theorem Ip(V1:SS)(dst:Option Nat):(V1.ll d dst).n=V1.n:=by cases dst<;>rfl
@[simp] theorem GD(V1:SS)(dst:Option Nat):(V1.ll d dst).ln=V1.ln:=by cases dst<;>rfl
theorem J.refine(hJ:J Cx (ay P ν) R φ V.g V.l E σ){t:Nat}{e:SE}{b:Bool}(hg:cz d t V.g=aa (.one (.v e))\/∃f,cz d t V.g=aa (.one (.w f e)))(he:e.den P ν=aa (.bool b)):(E d).at t=.raw (.bool b)/\J Cx (ay P ν) R φ (V.b_ d (aa t) (.one (.v (.b b)))).g V.l E σ:=by
 have aT:(E d).at t=.raw (.bool b):=by
  rcases hg with hg|⟨f,hg⟩
  .have⟨y,h1,h2,_⟩:=hJ.slot d t _ hg;have dH:e.den P ν=aa y:=h1;rw[he]at dH;cases dH;exact cD h2
  .have⟨y,h1,h2,_⟩:=hJ.slot d t _ hg;have dH:e.den P ν=aa y:=h1;rw[he]at dH;cases dH;exact cD h2
 refine⟨aT,{hJ with slot:=λd' t' Hm xm=>?_}⟩;rcases ml xm with⟨rfl,rfl,rfl⟩|⟨_,h3⟩
 .exact⟨.raw (.bool b),rfl,by rw[aT];exact .raw _,rfl⟩
 .exact hJ.slot d' t' Hm (Ll V.g h3).2
def UX(hJ:J Cx (ay P ν) R φ V.g V.l E σ)(bV:(E d).n=V.nt){ops:Array Oper}:
 (vW ops d V o=.run->aY o ops (E d)=ab)/\(vW ops d V o=.skip->aY o ops (E d)=af)/\
 ∀t e want,vW ops d V o=.test t e want->(cz d t V.g=aa (.one (.v e))\/∃f,cz d t V.g=aa (.one (.w f e)))/\∀b,(E d).at t=.raw (.bool b)->aY o ops (E d)=(b==want):=by
 unfold vW aY;cases o.guard with
 |none=>simp
 |some p=>
  have⟨j,want⟩:=p;simp only;cases hd:(ops[j]?).bind (·.dst)with
  |none=>simp
  |some t=>
   simp only;by_cases ak:azy t V.nt=ab
   .rw[bV,ak];cases hg:cz d t V.g with
    |none=>simp
    |some pv=>
     have hs:=hJ.slot d t pv hg;cases pv with
     |ag|tu=>simp
     |one c=>
      cases c with
      |v e=>
       cases e with
       |b x=>
        have⟨y,h1,h2,_⟩:=hs;simp only[SE.den,ayO]at h1;subst h1;rw[cD h2]
        grind
       |_=>
        grind
      |w f e=>
       grind
      |_=>simp
   grind
variable{rd:Option Nat}{df:List Df}
def XR(P:Program)(ν:List IV)(R:Rs)(φ:Ph)(L:List (LO SE))(σ:St):zf->Ex->Prop
 |.normal,x=>x=.normal
 |.exit i,x=>x=.exit i
 |.ret,x=>x=.ret
 |.cg t pv,x=>∃v,x=.cg (.dP t v)/\VR (ay P ν) R φ L σ v pv
structure zl(Cx:Cs)(P:Program)(d:Nat)(E:Nat->Env)(K:List (List IV->Prop))(ν:List IV)(nt:Nat)(V':SS)(μ:List IV)(K':List (List IV->Prop))(R':Rs)(aV:Ph)(E':Nat->Env)(au:St):Prop where
 hK:K<+:K'
 gh:K'.length=V'.lv
 bV:V'.nt=nt
 hJ:J Cx (ay P (ν++μ)) R' aV V'.g V'.l E' au
 hn:(ν++μ).length=V'.n
 hE:∀j,j<d->E' j=E j
 Hq:(E' d).n=(E d).n
def KW(Cx:Cs)(P:Program)(C:Cr)(Q:IV->Prop)(d:Nat)(E:Nat->Env)(K:List (List IV->Prop))(ν:List IV)(nt:Nat)(k:zf->SS->aq)(CW:Nat->lz):Prop:=
 ∀ex (V':SS) μ K' R' aV E' au x,zl Cx P d E K ν nt V' μ K' R' aV E' au->XR P (ν++μ) R' aV V'.l au ex x->(k ex V').sat P C Q K' (ν++μ)->∃b,∀N,b<=N->au.n<=N/\CW N x (E' d) au
def KP(Cx:Cs)(P:Program)(C:Cr)(Q:IV->Prop)(d:Nat)(E:Nat->Env)(K:List (List IV->Prop))(ν:List IV)(nt:Nat)(kx:Kx)(CW:Nat->IV->Env->St->Prop):Prop:=
 ∀t pv (V':SS) μ K' R' aV E' au v,zl Cx P d E K ν nt V' μ K' R' aV E' au->VR (ay P (ν++μ)) R' aV V'.l au v pv->(kx t pv V').sat P C Q K' (ν++μ)->∃b,∀N,b<=N->au.n<=N/\CW N (.dP t v) (E' d) au
def KS(Cx:Cs)(P:Program)(C:Cr)(Q:IV->Prop)(d:Nat)(E:Nat->Env)(K:List (List IV->Prop))(ν:List IV)(nt:Nat)(k:SS->aq)(CW:Nat->Env->St->Prop):Prop:=
 ∀(V':SS) μ K' R' aV E' au,zl Cx P d E K ν nt V' μ K' R' aV E' au->(k V').sat P C Q K' (ν++μ)->∃b,∀N,b<=N->au.n<=N/\CW N (E' d) au
def oQ(Cx:Cs)(P:Program)(C:Cr)(Q:IV->Prop)(self:nW):Prop:=
 ∀jB d f c (V:SS) k ν K R φ E σ CW rd df,(jB=af->rd=ah)->(self jB d f c V k).sat P C Q K ν->J Cx (ay P ν) R φ V.g V.l E σ->ν.length=V.n->K.length=V.lv->(E d).n=V.nt->KW Cx P C Q d E K ν V.nt k CW->∃b,∀N,b<=N->cY P N rd c (E d) df σ (CW N)
theorem zl.trans{nt:Nat}{V1 V2:SS}{Dl μ2:List IV}{K1 K2:List (List IV->Prop)}{R1 R2:Rs}{ew Di:Ph}{E1 E2:Nat->Env}{av cO:St}(h1:K<+:K1)(h2:∀j,j<d->E1 j=E j)(h3:(E1 d).n=(E d).n)
 (h:zl Cx P d E1 K1 (ν++Dl) nt V2 μ2 K2 R2 Di E2 cO):zl Cx P d E K ν nt V2 (Dl++μ2) K2 R2 Di E2 cO where
 hK:=h1.trans h.hK
 gh:=h.gh
 bV:=h.bV
 hJ:=by rw[<-ay3];exact h.hJ
 hn:=by rw[<-ay3];exact h.hn
 hE:=λj hj=>(h.hE j hj).trans (h2 j hj)
 Hq:=h.Hq.trans h3
def KW.fwd{nt:Nat}{kk:zf->SS->aq}{CW:Nat->lz}{Dl:List IV}{K1:List (List IV->Prop)}{E1:Nat->Env}(h:KW Cx P C Q d E K ν nt kk CW)(h1:K<+:K1)(h2:∀j,j<d->E1 j=E j)(h3:(E1 d).n=(E d).n):KW Cx P C Q d E1 K1 (ν++Dl) nt kk CW:=
 λex V' μ K' R' aV E' au x hf hx hs=>h ex V' (Dl++μ) K' R' aV E' au x (zl.trans (V1:=V') (R1:=R') (ew:=aV) (av:=au) h1 h2 h3 hf) (by rw[<-ay3];exact hx) (by rw[<-ay3];exact hs)
def KP.fwd{nt:Nat}{kk:Kx}{CW:Nat->IV->Env->St->Prop}{Dl:List IV}{K1:List (List IV->Prop)}{E1:Nat->Env}(h:KP Cx P C Q d E K ν nt kk CW)(h1:K<+:K1)(h2:∀j,j<d->E1 j=E j)(h3:(E1 d).n=(E d).n):KP Cx P C Q d E1 K1 (ν++Dl) nt kk CW:=
 λt pv V' μ K' R' aV E' au v hf hv hs=>h t pv V' (Dl++μ) K' R' aV E' au v (zl.trans (V1:=V') (R1:=R') (ew:=aV) (av:=au) h1 h2 h3 hf) (by rw[<-ay3];exact hv) (by rw[<-ay3];exact hs)
def KW.kp{nt:Nat}{kk:zf->SS->aq}{CW:Nat->lz}(h:KW Cx P C Q d E K ν nt kk CW):KP Cx P C Q d E K ν nt (λt pv V=>kk (.cg t pv) V) (λN v e σ=>CW N (.cg v) e σ):=
 λt pv V' μ K' R' aV E' au v hf hv hs=>h (.cg t pv) V' μ K' R' aV E' au _ hf ⟨v,rfl,hv⟩ hs
def KS.fwd{nt:Nat}{kk:SS->aq}{CW:Nat->Env->St->Prop}{Dl:List IV}{K1:List (List IV->Prop)}{E1:Nat->Env}(h:KS Cx P C Q d E K ν nt kk CW)(h1:K<+:K1)(h2:∀j,j<d->E1 j=E j)(h3:(E1 d).n=(E d).n):KS Cx P C Q d E1 K1 (ν++Dl) nt kk CW:=
 λV' μ K' R' aV E' au hf hs=>h V' (Dl++μ) K' R' aV E' au (zl.trans (V1:=V') (R1:=R') (ew:=aV) (av:=au) h1 h2 h3 hf) (by rw[<-ay3];exact hs)
def zl.here(hJ:J Cx (ay P ν) R φ V.g V.l E σ)(hn:ν.length=V.n)(hK:K.length=V.lv):zl Cx P d E K ν V.nt V [] K R φ E σ:=
 ⟨azC _,hK,rfl,by rw[ay2];exact hJ,by rw[ay2];exact hn,λ_ _=>rfl,rfl⟩
def KS.now{kk:SS->aq}{CW:Nat->Env->St->Prop}(h:KS Cx P C Q d E K ν V.nt kk CW)(hJ:J Cx (ay P ν) R φ V.g V.l E σ)(hn:ν.length=V.n)(hK:K.length=V.lv)(hs:(kk V).sat P C Q K ν):∃b,∀N,b<=N->σ.n<=N/\CW N (E d) σ:=
 h V [] K R φ E σ (.here hJ hn hK) (by rw[ay2];exact hs)
def KW.now{kk:zf->SS->aq}{CW:Nat->lz}(h:KW Cx P C Q d E K ν V.nt kk CW)(hJ:J Cx (ay P ν) R φ V.g V.l E σ)(hn:ν.length=V.n)(hK:K.length=V.lv){ex:zf}{x:Ex}(hx:XR P ν R φ V.l σ ex x)(hs:(kk ex V).sat P C Q K ν):∃b,∀N,b<=N->σ.n<=N/\CW N x (E d) σ:=
 h ex V [] K R φ E σ x (.here hJ hn hK) (by rw[ay2];exact hx) (by rw[ay2];exact hs)
def acM(hJ:J Cx (ay P ν) R φ V.g V.l E σ){t:TypeId}{pa pv:PV SE}{x:IV}(hx:VR (ay P ν) R φ V.l σ x pa)(hl:Uh P t pa V=aa pv):
 ∃id off ext s cW v,x=.ptr id off 0 ext/\aX P t=aa s/\σ.at id=aa (.cells cW 0 0)/\s<=ext/\partOf P t cW off=aa v/\VR (ay P ν) R φ V.l σ v pv:=by
 unfold Uh at hl;split at hl<;>try (cases hl;done)
 rename_i s b j off ext bo Ux;split at hl<;>try (cases hl;done)
 rename_i cs hj;split at hl<;>try (cases hl;done)
 rename_i hle;simp only[ayI,aAb]at hle;obtain⟨id,tN,h1,h2,rfl⟩:=hx;obtain⟨bz,cW,h3,h4,h5,h6⟩:=hJ.obj j _ hj;rw[h1]at h3;cases h3
 have s_:if isAgg P t=ab then pv=.ag ((cs.drop off).take s)else∃c,(cs.drop off).take s=[c]/\pv=.one c:=by
  split at hl
  .rename_i ha;cases hl;rw[if_pos ha]
  .rename_i ha;rw[if_neg ha];split at hl
   .rename_i c hc;cases hl;exact⟨c,hc,rfl⟩
   .cases hl
 obtain⟨v,hv,hr⟩:=vi bo Ux h6 hle.2 s_;exact⟨id,off,ext,s,cW,v,rfl,bo,h5,hle.1,hv,hr⟩
def zJ(P:Program)(e:Env)(σ:St)(r:ResultVar):Option IV:=
 match r with
 |.tmp t=>aa (e.at t)
 |.cell a t=>match e.at a with
  |.ptr id off ep ext=>match aX P t,σ.at id with
   |some s,aa (.cells cs aE mn)=>if s<=ext/\mn<=ep/\ep<=aE then partOf P t cs off else ah
   |_,_=>ah
  |_=>ah
theorem vm(hJ:J Cx (ay P ν) R φ V.g V.l E σ):∀{rs:List ResultVar} {dq:List (PV SE)},tE P d V rs=aa dq->∃vs,rs.mapM (zJ P (E d) σ)=aa vs/\All2 (VR (ay P ν) R φ V.l σ) vs dq
 |[],dq,h=>by
  simp only[tE,ayO]at h;subst h;exact⟨[],rfl,trivial⟩
 |.tmp t::rs,dq,h=>by
  simp only[tE]at h;split at h
  .rename_i kP hp;cases h;obtain⟨vs,h1,h2⟩:=vm hJ hp;refine⟨(E d).at t::vs,by simp[aBl,zJ,h1],?_,h2⟩;exact bw hJ d 0 (.tmp t)
  .cases h
 |.cell a t::rs,dq,h=>by
  simp only[tE]at h;split at h
  .rename_i pa o9;split at h
   .rename_i pv kP hl hp;cases h;obtain⟨vs,h1,h2⟩:=vm hJ hp;obtain⟨id,off,ext,s,cW,v,g1,g2,g3,g4,g5,g6⟩:=acM hJ (hJ.slot d a pa o9) hl;refine⟨v::vs,?_,g6,h2⟩;have:zJ P (E d) σ (.cell a t)=aa v:=by simp[zJ,g1,g2,g3,g4,g5]
    simp[aBl,this,h1]
   .cases h
  .cases h
def Iq:List IV->IV
 |[v]=>v
 |l=>.aF l
def Pd{vs:List IV}{dq:List (PV SE)}(h:All2 (VR (ay P ν) R φ L σ) vs dq):VR (ay P ν) R φ L σ (Iq vs) (H6 dq):=by
 have conv:∀{x:IV} {pv:PV SE},VR (ay P ν) R φ L σ x pv->vR (ay P ν) R φ L σ x (match pv with|.one c=>(af,[c])|.ag cs=>(ab,cs)|.tu _=>(af,[.un])):=by
  intro x pv hx;cases pv with
  |one c=>exact⟨c,rfl,hx⟩
  |ag cs=>exact hx
  |tu vs=>exact⟨.un,rfl,trivial⟩
 match vs,dq,h with
 |[],[],_=>trivial
 |[v],[pv],h=>exact h.1
 |v::v'::vs,pv::Hm::dq,h=>exact⟨_,rfl,h.map λ_ _ cG=>conv cG⟩
def vn{fn:Func}{e:Env}{vs:List IV}(h:fn.results.toList.mapM (zJ P e σ)=aa vs):dh P fn e σ=aa (Iq vs):=by
 unfold dh;simp only
 have Pe:∀r,(match r with
  |aEj t=>aa (e.at t)
  |aEk a t=>match e.at a with
   |.ptr id off ep ext=>match aX P t,σ.at id with
    |some s,aa (.cells cs aE mn)=>if s<=ext/\mn<=ep/\ep<=aE then partOf P t cs off else ah
    |_,_=>ah
   |_=>ah)=zJ P e σ r:=λr=>rfl
 generalize hl:fn.results.toList=l at h⊢
 match l,h with
 |[],h=>simp[aDR]at h;subst h;rfl
 |[r],h=>
  simp only[aBl,aDR]at h;cases ho:zJ P e σ r with
  |none=>rw[ho]at h;simp at h
  |some v=>rw[ho]at h;simp at h;subst h;exact ho
 |r::r'::rs,h=>
  have hlen:∃v v' zQ,vs=v::v'::zQ:=by
   simp only[aBl]at h;cases h1:zJ P e σ r with
   |none=>rw[h1]at h;simp at h
   |some v=>
    cases h2:zJ P e σ r' with
    |none=>rw[h1,h2]at h;simp at h
    |some v'=>
     cases h3:rs.mapM (zJ P e σ)with
     |none=>rw[h1,h2,h3]at h;simp at h
     |some zQ=>rw[h1,h2,h3]at h;simp at h;exact⟨v,v',zQ,h.symm⟩
  obtain⟨v,v',zQ,rfl⟩:=hlen;have h':(r::r'::rs).mapM (zJ P e σ)=aa (v::v'::zQ):=h;have e2:(match(r::r'::rs).mapM (zJ P e σ)with|some vs=>aa (IV.aF vs)|none=>ah)=aa (Iq (v::v'::zQ)):=by rw[h'];rfl
  exact e2
def e_(E:Nat->Env)(d:Nat)(e:Env){j:Nat}(h:j≠d):ly E d e j=E j:=by simp[ly,h]
theorem D5{α:Type}{d t:Nat}{pv:PV α}:∀{g h:List (Nat×Nat×PV α)},cz d t (g++h)=aa pv->cz d t g=aa pv\/cz d t h=aa pv
 |[],h,hg=>.inr hg
 |(a,b,q)::g,h,hg=>by
  simp only[azO,cz]at hg⊢;split at hg
  .rename_i hc;rw[if_pos hc];exact .inl hg
  .rename_i hc;rw[if_neg hc];exact D5 hg
theorem mL{α:Type}{d d' t:Nat}{pv:PV SE}:∀{dq:List (PV SE)} {j:Nat},cz d' t (setArgs d j dq)=aa pv->d'=d/\j<=t/\dq[t- j]?=aa pv
 |[],j,h=>by cases h
 |q::dq,j,h=>by
  simp only[setArgs]at h;rcases ml h with⟨rfl,rfl,rfl⟩|⟨bA,h2⟩
  .simp
  .obtain⟨rfl,h3,h4⟩:=mL (α:=α) h2;refine⟨rfl,by omega,?_⟩;rw[show t- j=(t-(j+1))+1 by omega];simpa using h4
theorem pU{d d' t:Nat}{pv:PV SE}:∀{g:List (Nat×Nat×PV SE)},cz d' t (eM d g)=aa pv->d'≠d/\cz d' t g=aa pv
 |[],h=>by cases h
 |(a,b,q)::g,h=>by
  simp only[eM]at h;split at h
  .rename_i hc;have qd:=ay0 hc;obtain⟨h1,h2⟩:=pU h;refine⟨h1,?_⟩;unfold cz;rw[if_neg]
   .exact h2
   .simp only[ayI,azv];rintro⟨rfl,_⟩;exact h1 qd
  .rename_i hc;have qd:a≠d:=by intro h;subst h;simp at hc
   rcases ml h with⟨rfl,rfl,rfl⟩|⟨bA,h2⟩
   .exact⟨qd,by simp[cz]⟩
   .obtain⟨h3,h4⟩:=pU h2;refine⟨h3,?_⟩;unfold cz;rw[if_neg (by simpa only[ayI,azv]using bA)];exact h4
theorem Ns:∀(args:List IV) (j:Nat) (e:Env) (t:Nat),j+args.length<=e.n->((args.zipIdx j).foldl (λe (p:IV×Nat)=>e.put (aa p.2) p.1) e).n=e.n/\
 (((args.zipIdx j).foldl (λe (p:IV×Nat)=>e.put (aa p.2) p.1) e).at t=if j<=t/\t<j+args.length then(args[t- j]?).getD .undef else e.at t)
 |[],j,e,t,_=>by simp;intro h1 h2;omega
 |a::args,j,e,t,h=>by
  simp only[azh]at h;simp only[List.zipIdx_cons,azo];obtain⟨h1,h2⟩:=Ns args (j+1) (e.put (aa j) a) t (by rw[fj];omega);refine⟨by rw[h1,fj],?_⟩;rw[h2];by_cases hc:j+1<=t/\t<j+1+args.length
  .rw[if_pos hc,if_pos ⟨by omega,by simp;omega⟩,show t- j=(t-(j+1))+1 by omega];simp
  .rw[if_neg hc];by_cases ht:t=j
   .subst ht;rw[if_pos ⟨ayL _,by simp⟩,Env.dt,if_pos ⟨by omega,rfl⟩];simp
   .rw[if_neg (by simp;omega),Hj _ _ _ _ (by simpa using λh=>ht h.symm)]
def ft{args:List IV}{n t:Nat}(h:args.length<=n):(eh args n).n=n/\(t<args.length->(eh args n).at t=(args[t]?).getD .undef):=by
 obtain⟨h1,h2⟩:=Ns args 0 ⟨n,.lf⟩ t (by simpa using h);refine⟨h1,λht=>?_⟩;have:=h2;rw[if_pos ⟨azz _,by omega⟩]at this;exact this
def acN(hJ:J Cx (ay P ν) R φ V.g V.l E σ){args:List IV}{dq:List (PV SE)}{n:Nat}(h:All2 (VR (ay P ν) R φ V.l σ) args dq)(hl:args.length<=n):
 J Cx (ay P ν) R φ (setArgs (d+1) 0 dq++eM (d+1) V.g) V.l (ly E (d+1) (eh args n)) σ:=by
 refine{hJ with slot:=λd' t pv hg=>?_};rcases D5 hg with hg|hg
 .obtain⟨rfl,_,h3⟩:=mL (α:=IV) hg;have ht:t<args.length:=by rw[h.len];have:=(ayH.1 h3).1;simpa using this
  rw[bO,(ft hl).2 ht,ayG ht];exact h.get (ayG ht) (by simpa using h3)
 .obtain⟨h1,h2⟩:=pU hg;rw[e_ _ _ _ h1];exact hJ.slot d' t pv h2
def vo(hJ:J Cx (ay P ν) R φ V.g V.l E σ)(d:Nat):J Cx (ay P ν) R φ (eM d V.g) V.l E σ:=hJ.less λ_ _ _ h=>(pU h).2
def Aw(bN:oQ Cx P C Q self)(hJ:J Cx (ay P ν) R φ V.g V.l E σ)(hn:ν.length=V.n)(hK:K.length=V.lv)(bV:(E d).n=V.nt){g:FuncId}{dst:Option Nat}{args:List IV}{dq:List (PV SE)}(bF:All2 (VR (ay P ν) R φ V.l σ) args dq)
 {kx:Kx}(hs:(o5 P cfg self kx d f0 dst g dq V k).sat P C Q K ν){RW PW:Nat->IV->St->Prop}
 (hk:∀(pv:PV SE) (V':SS) μ K' R' aV E' au v,zl Cx P d E K ν V.nt V' μ K' R' aV E' au->E' d=E d->VR (ay P (ν++μ)) R' aV V'.l au v pv->(k pv V').sat P C Q K' (ν++μ)->∃b,∀N,b<=N->au.n<=N/\RW N v au)
 (Dm:∀t (pv:PV SE) (V':SS) μ K' R' aV E' au v,zl Cx P d E K ν V.nt V' μ K' R' aV E' au->E' d=E d->VR (ay P (ν++μ)) R' aV V'.l au v pv->(kx t pv V').sat P C Q K' (ν++μ)->∃b,∀N,b<=N->au.n<=N/\PW N (.dP t v) au):
 ∃fn,P.funcs[g]?=aa fn/\fn.body.isSome=ab/\(fn.name != "runtime.NumGoroutine")=ab/\∃b,∀N,b<=N->vU P N g args σ (RW N) (PW N):=by
 unfold o5 at hs;split at hs<;>try exact hs.elim
 rename_i fn dk;split at hs<;>try exact hs.elim
 rename_i body hb;split at hs<;>try exact hs.elim
 split at hs<;>try exact hs.elim
 rename_i hc;simp only[ayI,aAb]at hc;have hl:args.length<=fn.ntmps:=by rw[bF.len];exact hc.1
 refine⟨fn,dk,by simp[hb],hc.2,?_⟩;have bE:=acN (d:=d) hJ bF hl
 obtain⟨b,u7⟩:=bN af (d+1) _ body {V with g:=setArgs (d+1) 0 dq++eM (d+1) V.g,nt:=fn.ntmps} _ ν K R φ (ly E (d+1) (eh args fn.ntmps)) σ
  (λN ex e1 av=>av.n<=N/\(((ex=.normal\/ex=.ret)/\∃v,dh P fn e1 av=aa v/\RW N v av)\/∃v,ex=.cg v/\PW N v av)) ah [] (λ_=>rfl) hs bE hn hK (by rw[bO,(ft (t:=0) hl).1]) (by
   intro ex V' μ K' R' aV E' au x hf hx bu;have m9:E' d=E d:=by rw[hf.hE d aj,e_ _ _ _ aj]
   have main:∀kP,tE P (d+1) V' fn.results.toList=aa kP->(k (H6 kP) {V' with g:=eM (d+1) V'.g,nt:=V.nt}).sat P C Q K' (ν++μ)->∃b,∀N,b<=N->au.n<=N/\au.n<=N/\∃v,dh P fn (E' (d+1)) au=aa v/\RW N v au:=by
    intro kP hr gX;obtain⟨vs,h1,h2⟩:=vm hf.hJ hr;have hv:=Pd h2
    obtain⟨b,hb⟩:=hk (H6 kP) {V' with g:=eM (d+1) V'.g,nt:=V.nt} μ K' R' aV E' au (Iq vs)
     ⟨hf.hK,hf.gh,rfl,vo hf.hJ (d+1),hf.hn,λj hj=>by rw[hf.hE j aj,e_ _ _ _ aj],by rw[m9]⟩ m9 hv gX
    exact⟨b,λN hN=>⟨(hb N hN).1,(hb N hN).1,Iq vs,vn h1,(hb N hN).2⟩⟩
   cases ex with
   |exit i=>exact bu.elim
   |cg t pv=>
    obtain⟨v,rfl,hv⟩:=hx
    obtain⟨b,hb⟩:=Dm t pv {V' with g:=eM (d+1) V'.g,nt:=V.nt} μ K' R' aV E' au v
     ⟨hf.hK,hf.gh,rfl,vo hf.hJ (d+1),hf.hn,λj hj=>by rw[hf.hE j aj,e_ _ _ _ aj],by rw[m9]⟩ m9 hv bu
    exact⟨b,λN hN=>⟨(hb N hN).1,(hb N hN).1,.inr ⟨_,rfl,(hb N hN).2⟩⟩⟩
   |normal=>
    obtain rfl:=hx;simp only at bu;split at bu
    .rename_i kP hr;obtain⟨b,hb⟩:=main kP hr bu;exact⟨b,λN hN=>⟨(hb N hN).1,(hb N hN).2.1,.inl ⟨.inl rfl,(hb N hN).2.2⟩⟩⟩
    .exact bu.elim
   |ret=>
    obtain rfl:=hx;simp only at bu;split at bu
    .rename_i kP hr;obtain⟨b,hb⟩:=main kP hr bu;exact⟨b,λN hN=>⟨(hb N hN).1,(hb N hN).2.1,.inl ⟨.inr rfl,(hb N hN).2.2⟩⟩⟩
    .exact bu.elim)
 refine⟨b,λN hN=>?_⟩;have:=u7 N hN;rw[bO]at this;exact vU.body dk hb hl this
end
section
variable{Cx:Cs}
variable{P:Program}{N:Nat}{σ au:St}{R R':Rs}{φ aV:Ph}{E:Nat->Env}{ν td vs:List IV}{n:Nat}{args:List SE}{eu:List (Nat×Nat)}
def ajO{td a b:List IV}:∀(e:SE),e.zX td.length=ab->e.den P (td++a)=e.den P (td++b):=by
 intro e;induction e with
 |var x=>
  intro h;simp only[SE.zX]at h;have hx:x<td.length:=yO
  grind [SE.den]
 |i|k|b|s|raw|an=>intro _;rfl
 |ok e ih|mq _ e ih|aP e _ ih|len e ih|uL e ih|tr _ e ih|tp e ih|proj e _ ih|un _ e ih|cv _ _ e ih|rw e ih|rws e ih=>simp_all[SE.zX,SE.den]
 |idx _ e f iN gK|lk _ e f _ iN gK|ac e f iN gK|cat _ _ e f iN gK|bin _ _ e f iN gK|mx _ e f iN gK|MQ e f iN gK|has _ e f iN gK|dec _ e f iN gK=>
  simp_all[SE.zX,SE.den]
 |zD _ e f g iN gK M_|sub _ e f g iN gK M_|Lq e f g iN gK M_|ins _ e f g iN gK M_|get _ e f g iN gK M_=>
  simp_all[SE.zX,SE.den]
structure Ins(P:Program)(n:Nat)(args:List SE)(ν td vs:List IV):Prop where
 len:td.length=n
 pre:∃μ,ν=td++μ
 args:All2 (λ(e:SE) y=>e.den P ν=aa y) args vs
def mM(hI:Ins P n args ν td vs){h e:SE}(hc:yn n args h e=ab){y:IV}(hy:e.den P ν=aa y):h.den P (td++vs)=aa y:=by
 obtain⟨hl,⟨μ,rfl⟩,ha⟩:=hI;unfold yn at hc;split at hc
 .rename_i x;split at hc
  .have kY:x<td.length:=yO;have:=SE.eq_eq hc
   grind [SE.den]
  .have kY:n<=x:=yO;split at hc
   .rename_i a hax;have:=SE.eq_eq hc;subst this;have ak:x- n<vs.length:=by grind [ha.len]
    have hv:=ha.get hax (ayG ak);rw[hy]at hv;simp only[SE.den]
    grind
   grind
 .simp only[ayI]at hc;have⟨h1,h2⟩:=hc;have:=SE.eq_eq h2;subst this;rw[<-hl]at h1;rw[ajO (b:=μ) h h1];omega
variable{H V:SS}
def kh(φ:Ph)(H:SS)(eu:List (Nat×Nat)):Ph:=λk=>if isLive H.l k=ab then(uN eu k).bind φ else ah
def UY{α:Type}{l:List (Nat×α)}{k:Nat}{a:α}(h:uN l k=aa a):(k,a)∈l:=by
 induction l with
 |nil=>cases h
 |cons p l ih=>
  have⟨x,y⟩:=p;simp only[uN]at h;split at h
  all_goals simp_all
def amh(h:afg eu=ab){k k' e:Nat}(h1:uN eu k=aa e)(h2:uN eu k'=aa e):k=k':=by
 unfold afg at h;rw[ayY]at h;have:=h _ (UY h1);rw[ayY]at this;have:=this _ (UY h2)
 simp_all
theorem Pf{l:List (LO SE)}:∀{os:List (LO SE)} {k:Nat},Ug n args eu l k os=ab->∀{j:Nat} {o:LO SE},os[j]?=aa o->o≠.dead->∃k' o',uN eu (k+j)=aa k'/\l[k']?=aa o'/\zF n args eu o o'=ab
 |[],k,_,j,o,h,_=>by grind
 |a::os,k,hc,j,o,h,hd=>by
  simp only[Ug,ayI]at hc;cases j with
  |zero=>
   grind
  |succ j=>
   simp at h;have⟨k',o',h1,h2,h3⟩:=Pf hc.2 h hd
   grind
def UZ{l:List (LO SE)}{k:Nat}(h:isLive l k=ab):∃o,l[k]?=aa o/\o≠.dead:=by
 unfold isLive at h
 grind
theorem n_{α β:Type}{f:α->α->Bool}{r:β->α->Prop}{r':β->α->Prop}:∀{xs:List β} {as bs:List α},(∀x a b,a∈as->f a b=ab->r x b->r' x a)->kN f as bs=ab->All2 r xs bs->All2 r' xs as
 |[],[],[],_,_,_=>trivial
 |x::xs,a::as,b::bs,hf,h,hx=>by
  simp only[kN,ayI]at h;exact⟨hf x a b aw h.1 hx.1,n_ (λx a b ha=>hf x a b bc) h.2 hx.2⟩
 |[],a::as,[],_,h,_=>by cases h
 |[],[],b::bs,_,h,_=>by cases h
 |[],_::_,_::_,_,_,hx=>hx.elim
 |_::_,[],[],_,_,hx=>hx.elim
 |_::_,_::_,[],_,h,_=>by cases h
 |_::_,[],_::_,_,h,_=>by cases h
theorem Nt{α:Type}{f:α->α->Bool}:∀{as bs:List α},kN f as bs=ab->∀{a:α},a∈as->∃b,b∈bs/\f a b=ab
 |[],_,_,_,h=>by cases h
 |x::as,y::bs,h,a,ha=>by
  simp only[kN,ayI]at h;rcases ayW.1 ha with rfl|ha
  .grind
  .have⟨b,h1,h2⟩:=Nt h.2 ha
   grind
 |_::_,[],h,_,_=>by cases h
variable(hI:Ins P n args ν td vs)(hJ:J Cx (ay P ν) R φ V.g V.l E σ)(hL:Ug n args eu V.l 0 H.l=ab)
include hI hJ hL
theorem EU{h e:Cl SE}{x:IV}(Ax:∀k∈ym h,isLive H.l k=ab)(hc:rT n args eu h e=ab)(hx:c9 (ay P ν) R φ V.l σ x e):c9 (ay P (td++vs)) R (kh φ H eu) H.l σ x h:=by
 have key:∀k k',FO eu k k'=ab->isLive H.l k=ab->∃o o',H.l[k]?=aa o/\V.l[k']?=aa o'/\zF n args eu o o'=ab/\kh φ H eu k=φ k':=by
  intro k k' hk hl;have⟨o,h1,h2⟩:=UZ hl;have⟨k2,o',h3,h4,h5⟩:=Pf hL h1 h2;rw[aAn]at h3;simp only[FO,h3]at hk;have:=ay0 hk;subst this;exact⟨o,o',h1,h4,h5,by simp[kh,hl,h3]⟩
 cases h with
 |un=>trivial
 |v a=>
  cases e<;>simp only[rT]at hc<;>try (cases hc;done)
  .have⟨y,h1,h2⟩:=hx;exact⟨y,mM hI hc h1,h2⟩
  .rename_i b s;have⟨h1,h2⟩:=hx;refine⟨.tree s [],mM hI hc (by simp[SE.den,h1]),?_,rfl⟩;subst h2;cases b
   .exact .emp s h1
   .exact .nil s h1
 |w f a=>
  cases e<;>simp only[rT,ayI]at hc<;>try (cases hc;done)
  .obtain⟨hf,hc⟩:=hc;have⟨y,h1,h2,h3⟩:=hx;subst hf;exact⟨y,mM hI hc h1,h2.mono hJ.Dj,h3⟩
  .have⟨hf,hc⟩:=hc;have⟨y,h1,h2,h3⟩:=hx;exact⟨y,mM hI hc h1,h2.wide (λh=>by subst h;simpa using hf),h3⟩
  .rename_i b s;have⟨h1,h2⟩:=hx;refine⟨.tree s [],mM hI hc (by simp[SE.den,h1]),?_,rfl⟩;subst h2;cases b
   .exact .emp s h1
   .exact .nil s h1
 |nl a s=>
  cases e<;>simp only[rT,ayI,azv,beq_iff_eq]at hc<;>try (cases hc;done)
  obtain⟨rfl,rfl⟩:=hc;exact hx
 |pt k o x'=>
  cases e<;>simp only[rT,ayI,azv]at hc<;>try (cases hc;done)
  obtain⟨⟨rfl,rfl⟩,hk⟩:=hc;have⟨id,cs,h1,h2,h3⟩:=hx;have⟨o1,o2,g1,g2,g3,g4⟩:=key _ _ hk (Ax k (by simp[ym]));rw[h2]at g2;cases g2;cases o1<;>simp only[zF]at g3<;>try (cases g3;done)
  exact⟨id,_,by rw[g4];exact h1,g1,h3⟩
 |tp a=>
  cases e<;>simp only[rT]at hc<;>try (cases hc;done)
  have⟨ds,h1,h2⟩:=hx;exact⟨ds,h1,n_ (λd a b _ cG ⟨y,h3,h4⟩=>⟨y,mM hI cG h3,h4⟩) hc h2⟩
 |tw f a=>cases e<;>simp[rT]at hc
 |sr k=>
  cases e<;>simp only[rT]at hc<;>try (cases hc;done)
  have⟨s,st,cut,fr,z,es,h1,h2,h3⟩:=hx;have⟨o1,o2,g1,g2,g3,g4⟩:=key _ _ hc (Ax k (by simp[ym]));rw[h1]at g2;cases g2;cases o1<;>simp only[zF,ayI,azv,beq_iff_eq]at g3<;>try (cases g3;done)
  obtain⟨⟨⟨⟨rfl,rfl⟩,UH⟩,qc⟩,hz⟩:=g3;refine⟨_,_,_,_,_,es,g1,mM hI hz h2,?_⟩;rcases h3 with⟨a1,a2,a3⟩|⟨id,cs,aE,mn,cap,a1,a2,a3,a4,a5,a6⟩
  .exact .inl ⟨by rw[g4];exact a1,a2,a3⟩
  .exact .inr ⟨id,cs,aE,mn,cap,by rw[g4];exact a1,a2,a3,a4,λhn qd=>a5 hn (by subst qd;simpa using UH),a6⟩
 |sv k lo=>cases e<;>simp[rT]at hc
 |pr k i off ext=>cases e<;>simp[rT]at hc
 |mp k=>
  cases e<;>simp only[rT]at hc<;>try (cases hc;done)
  have⟨id,kt,es,h1,h2,h3⟩:=hx;have⟨o1,o2,g1,g2,g3,g4⟩:=key _ _ hc (Ax k (by simp[ym]));rw[h2]at g2;cases g2;cases o1<;>simp only[zF,ayI,azv]at g3<;>try (cases g3;done)
  obtain⟨⟨rfl,_⟩,_⟩:=g3;exact⟨id,_,_,by rw[g4];exact h1,g1,h3⟩
 |yl k=>
  cases e<;>simp only[rT]at hc<;>try (cases hc;done)
  have⟨id,c,st,sn,h1,h2,h3⟩:=hx;have⟨o1,o2,g1,g2,g3,g4⟩:=key _ _ hc (Ax k (by simp[ym]));rw[h2]at g2;cases g2;cases o1<;>simp only[zF]at g3<;>try (cases g3;done)
  exact⟨id,_,_,_,by rw[g4];exact h1,g1,h3⟩
 |fn f a=>
  cases e<;>simp only[rT,ayI,azv]at hc<;>try (cases hc;done)
  obtain⟨rfl,hl⟩:=hc;rcases hx with⟨rfl,h2⟩|⟨ys,h1,h2⟩
  .have:a=[]:=by cases a with|nil=>rfl|cons=>cases hl
   subst this;exact .inl ⟨rfl,h2⟩
  .refine .inr ⟨ys,h1,?_⟩;refine n_ (λy p q hp Bg ⟨id,cs,h3,h4,h5⟩=>?_) hl h2;simp only[ayI,azv]at Bg;have⟨o1,o2,g1,g2,g3,g4⟩:=key _ _ Bg.2 (Ax p.1 (by exact List.mem_map_of_mem hp));rw[h4]at g2;cases g2;cases o1<;>simp only[zF]at g3<;>try (cases g3;done)
   exact⟨id,_,by rw[g4];exact h3,g1,by rw[Bg.1];exact h5⟩
theorem U0{h e:PV SE}{x:IV}(Ax:∀k∈H5 h,isLive H.l k=ab)(hc:Jy n args eu h e=ab)(hx:VR (ay P ν) R φ V.l σ x e):VR (ay P (td++vs)) R (kh φ H eu) H.l σ x h:=by
 cases h with
 |one c=>
  cases e<;>simp only[Jy]at hc<;>try grind
  exact EU hI hJ hL Ax hc hx
 |ag cs=>
  cases e<;>simp only[Jy]at hc<;>try grind
  have⟨xs,h1,h2⟩:=hx;exact⟨xs,h1,n_ (r:=c9 (ay P ν) R φ V.l σ) (λx a b ha cG hx=>EU hI hJ hL (λk hk=>Ax k (az1.2 ⟨a,ha,hk⟩)) cG hx) hc h2⟩
 |tu us=>
  cases e<;>simp only[Jy]at hc<;>try grind
  have⟨xs,h1,h2⟩:=hx;refine⟨xs,h1,n_ (λx a b ha cG hx=>?_) hc h2⟩;simp only[ayI,beq_iff_eq]at cG;have hla:=λc hc k hk=>Ax k (az1.2 ⟨a,ha,az1.2 ⟨c,hc,hk⟩⟩);unfold vR at hx⊢;rw[cG.1];split at hx
  .rename_i hb;rw[if_pos hb];have⟨ys,h3,h4⟩:=hx;exact⟨ys,h3,n_ (r:=c9 (ay P ν) R φ V.l σ) (λx c c' hca ow hx=>EU hI hJ hL (hla c hca) ow hx) cG.2 h4⟩
  .rename_i hb;rw[if_neg hb];have⟨c,h3,h4⟩:=hx;have gb:=cG.2;rw[h3]at gb;have⟨a1,a2⟩:=a;cases a2 with
   |nil=>cases gb
   |cons c' r=>
    cases r with
    |cons=>simp_all[kN]
    |nil=>
     simp only[kN,Bool.and_true]at gb;exact⟨c',rfl,EU hI hJ hL (hla c' aw) gb h4⟩
omit hI hJ hL in
theorem Pj{m:Nat}(hJ:J Cx (ay P ν) R φ V.g V.l E σ)(hl:td.length=n)(hp:∃μ,ν=td++μ)(h:inst n m H V=aa (args,eu)){vs:List IV}(hv:All2 (λ(e:SE) y=>e.den P ν=aa y) args vs):
 vs.length=m/\J Cx (ay P (td++vs)) R (kh φ H eu) H.g H.l E σ:=by
 unfold inst at h;split at h
 .cases h
 .rename_i hlr;have afL:Lu H=ab:=by simpa using hlr
  split at h<;>try (cases h;done)
  split at h<;>try (cases h;done)
  split at h<;>try (cases h;done)
  split at h<;>try (cases h;done)
  rename_i hc;simp only[ayO,aAt]at h;obtain⟨e1,e2⟩:=h;rw[e1,e2]at hc;simp only[ayI,azv]at hc;obtain⟨⟨⟨c1,c2⟩,c3⟩,c4⟩:=hc;have hI:Ins P n args ν td vs:=⟨hl,hp,hv⟩;unfold Lu at afL;simp only[ayI,ayY]at afL;obtain⟨l1,l2⟩:=afL
  have Pa:∀{k id},kh φ H eu k=aa id->isLive H.l k=ab/\∃k',uN eu k=aa k'/\φ k'=aa id:=by
   intro k id hk;unfold kh at hk;split at hk
   .rename_i gh;obtain⟨k',h1,h2⟩:=ay4.1 hk;exact⟨gh,k',h1,h2⟩
   .cases hk
  refine⟨by rw[<-hv.len];exact c4,λd t pv hg=>?_,λk o ho=>?_,λk k' id h1 h2=>?_,λk id hk=>?_,hJ.qS,hJ.fits,hJ.wf,hJ.top⟩
  .have dR:(d,t,pv)∈H.g:=by
    have:∀{g:List (Nat×Nat×PV SE)},cz d t g=aa pv->(d,t,pv)∈g:=by
     intro g;induction g with
     |nil=>intro h;cases h
     |cons p g ih=>
      obtain⟨a,b,q⟩:=p;intro h;rcases ml h with⟨rfl,rfl,rfl⟩|⟨_,h2⟩
      .simp
      .exact List.mem_cons_of_mem _ (ih h2)
    exact this hg
   unfold alV at c1;rw[ayY]at c1;have:=c1 _ dR;simp only at this;split at this
   .rename_i Hm s_;exact U0 hI hJ c2 (λk hk=>l1 _ dR k hk) this (hJ.slot d t Hm s_)
   .cases this
  .by_cases hd:o=.dead
   .subst hd;trivial
   .obtain⟨k',o',h1,h2,h3⟩:=Pf c2 ho hd;rw[aAn]at h1
    have gh:isLive H.l k=ab:=by
     unfold isLive;rw[ho];cases o<;>first|rfl|exact absurd rfl hd
    have uT:kh φ H eu k=φ k':=by simp[kh,gh,h1]
    have eW:=hJ.obj k' o' h2;cases o with
    |dead=>exact absurd rfl hd
    |var cs=>
     cases o'<;>simp only[zF]at h3<;>try (cases h3;done)
     obtain⟨id,cW,g1,g2,g3,g4⟩:=eW;have hrefs:=l2 _ (ayX ho);simp only at hrefs;rw[ayY]at hrefs;exact⟨id,cW,by rw[uT];exact g1,g2,g3,n_ (r:=c9 (ay P ν) R φ V.l σ) (λx a b ha cG hx=>EU hI hJ c2 (λk hk=>hrefs k (az1.2 ⟨a,ha,hk⟩)) cG hx) h3 g4⟩
    |row s st cut fr z=>
     cases o'<;>simp only[zF,ayI,azv,beq_iff_eq]at h3<;>try (cases h3;done)
     obtain⟨⟨⟨⟨rfl,rfl⟩,UH⟩,qc⟩,hz⟩:=h3;obtain⟨cw,es,g1,g2,g3⟩:=eW;refine⟨cw,es,mM hI hz g1,g2,?_⟩;rcases g3 with⟨a1,a2⟩|⟨id,cs,aE,mn,a1,a2,a3,a4,a5,a6,a7⟩
     .exact .inl ⟨by rw[uT];exact a1,a2⟩
     .exact .inr ⟨id,cs,aE,mn,by rw[uT];exact a1,a2,a3,a4,a5,a6,λj x y hx hy=>(a7 j x y hx hy).wide (λh=>by subst h;simpa using qc)⟩
    |mp kt z=>
     cases o'<;>simp only[zF,ayI,azv]at h3<;>try (cases h3;done)
     obtain⟨⟨rfl,hz⟩,k_⟩:=h3;rw[lQ]at eW⊢;split at eW
     .rename_i gu;rw[if_pos gu];rcases eW with⟨h0,id,ba,p,g1,g2,g3,g4⟩|⟨h0,id,m,ds,seen,rem,rest,g1,g2,g3,_,g5,g6⟩
      .exact .inl ⟨h0,id,ba,p,mM hI hz g1,by rw[uT];exact g2,g3,g4⟩
      .have s7:azy kt 1000000=af:=by
        cases hb:azy kt 1000000 with
        |false=>rfl
        |true=>exact absurd (show kt<1000000 by simpa using hb) (Nat.not_lt.2 h0)
       have Nu:=l2 _ (ayX ho);simp only[s7,aAJ]at Nu;rw[s7,aAJ]at k_;unfold alU at Nu;split at Nu<;>try (cases Nu;done)
       rename_i pz z2 ami;refine .inr ⟨h0,id,m,ds,seen,rem,rest,mM hI hz g1,by rw[uT];exact g2,g3,⟨pz,z2,ami⟩,?_,g6⟩;unfold kh;rw[if_pos (by unfold isLive;rw[ami])];unfold FO at k_;split at k_<;>try (cases k_;done)
       rename_i e' gw;have:=ay0 k_;rw[gw,<-this];exact g5
     .rename_i gu;rw[if_neg gu];obtain⟨id,es,clock,ds,g1,g2,g3,g4,g5⟩:=eW;exact⟨id,es,clock,ds,mM hI hz g1,by rw[uT];exact g2,g3,g4,g5⟩
    |lp c st sn=>
     cases o'<;>simp only[zF,ayI,azv]at h3<;>try (cases h3;done)
     obtain⟨⟨rfl,rfl⟩,zV⟩:=h3;obtain⟨id,rc,tm,ga,s,p,f,g1,g2,g3,g4,g5,g6⟩:=eW;have hrefs:=l2 _ (ayX ho);simp only at hrefs;rw[ayY]at hrefs;refine⟨id,rc,tm,ga,s,p,f,by rw[uT];exact g1,g2,g3,g4,g5,λq hq=>?_⟩;obtain⟨q',rS,Yb⟩:=Nt zV hq;simp only[ayI,azv]at Yb;refine⟨Yb.1.2,?_⟩;rw[Yb.1.1];exact U0 hI hJ c2 (λk hk=>hrefs k (az1.2 ⟨q,hq,hk⟩)) Yb.2 (g6 q' rS).2
  .obtain⟨_,a,th,wM⟩:=Pa h1;obtain⟨_,b,cd,dw⟩:=Pa h2;have:=hJ.inj a b id wM dw;subst this;exact amh c3 th cd
  .obtain⟨gh,a,th,wM⟩:=Pa hk;obtain⟨o,ho,_⟩:=UZ gh;exact⟨fa ho,(hJ.lt a id wM).2⟩
end
section
variable{Cx:Cs}
variable{P:Program}{N:Nat}{σ au:St}{R R':Rs}{φ aV:Ph}{E:Nat->Env}{ν td vs:List IV}{V:SS}{d t:Nat}
def J.U1{Γ:Gm SE}{L:List (LO SE)}(hJ:J Cx (ay P ν) R φ Γ L E σ){pv:PV SE}(h:VR (ay P ν) R φ L σ ((E d).at t) pv):J Cx (ay P ν) R φ (OG d t pv Γ) L E σ:=by
 refine{hJ with slot:=λd' t' Hm xm=>?_};rcases ml xm with⟨rfl,rfl,rfl⟩|⟨_,h3⟩
 .exact h
 .exact hJ.slot d' t' Hm (Ll Γ h3).2
def aaW(hJ:J Cx (ay P ν) R φ V.g V.l E σ)(d t:Nat):∃R',J Cx (ay P ν) R' φ (AL d t V).g (AL d t V).l E σ/\(AL d t V).n=V.n/\(AL d t V).ln=V.ln:=by
 unfold AL;split
 .rename_i k hg;split
  .rename_i s st cut fr es hk;obtain⟨R',h1,h2,h3⟩:=yK hJ k;have hv:=hJ.slot d t _ hg;have Rh:c9 (ay P ν) R' φ (nV k V).l σ ((E d).at t) (.sr k):=h1.Us hv;obtain⟨y,a1,a2,a3⟩:=Ur h2 (h3 _ _ _ _ _ hk) Rh;refine⟨R',h2.U1 (pv:=.one (.w fr es)) ⟨y,a1,a2,a3⟩,?_,?_⟩
   .rw[Im];exact h1.2.1
   .rw[aaV];exact h1.2.2.1
  .exact⟨R,hJ,rfl,rfl⟩
 .exact⟨R,hJ,rfl,rfl⟩
theorem Dn:∀(ws:List (Nat×Nat×Nat)) {V:SS} {R:Rs},J Cx (ay P ν) R φ V.g V.l E σ->∃R',J Cx (ay P ν) R' φ (settle ws V).g (settle ws V).l E σ/\(settle ws V).n=V.n/\(settle ws V).ln=V.ln
 |[],V,R,hJ=>⟨R,hJ,rfl,rfl⟩
 |(d,t,m)::ws,V,R,hJ=>by
  simp only[settle];split
  .obtain⟨R1,h1,h2,h3⟩:=aaW hJ d t;obtain⟨R2,h4,h5,h6⟩:=Dn ws h1;exact⟨R2,h4,h5.trans h2,h6.trans h3⟩
  .exact Dn ws hJ
theorem zm(L:List (LO SE)):∀(g:List (Nat×Nat×PV SE)) {V:SS} {R:Rs},J Cx (ay P ν) R φ V.g V.l E σ->∃R',J Cx (ay P ν) R' φ (zg L g V).g (zg L g V).l E σ/\(zg L g V).n=V.n/\(zg L g V).ln=V.ln
 |[],V,R,hJ=>⟨R,hJ,rfl,rfl⟩
 |(d,t,pv)::g,V,R,hJ=>by
  unfold zg;split
  .rename_i hh;cases hh
  .rename_i d' t' k g' hh;cases hh;split
   .split
    .rename_i k' _;obtain⟨R1,h1,h2,_⟩:=yK hJ k';obtain⟨R2,h4,h5,h6⟩:=zm L g h2;exact⟨R2,h4,h5.trans h1.2.1,h6.trans h1.2.2.1⟩
    .exact zm L g hJ
   .exact zm L g hJ
  .rename_i p g' _ hh;cases hh;exact zm L g hJ
def afM(ws:List (Nat×Nat×Nat))(H:SS){V:SS}{R:Rs}(hJ:J Cx (ay P ν) R φ V.g V.l E σ):∃R',J Cx (ay P ν) R' φ (Jw ws H V).g (Jw ws H V).l E σ/\(Jw ws H V).n=V.n/\(Jw ws H V).ln=V.ln:=by
 obtain⟨R1,h1,h2,h3⟩:=Dn ws hJ;obtain⟨R2,h4,h5,h6⟩:=zm H.l H.g h1;exact⟨R2,h4,h5.trans h2,h6.trans h3⟩
def U2{L:List (LO SE)}{Γ:Gm SE}(hJ:J Cx (ay P ν) R φ Γ L E σ){x:IV}{b:Bool}{s:Nat}(hx:c9 (ay P ν) R φ L σ x (.nl b s)):
 J Cx (ay P ν) R φ Γ (L++[.row s af af af (.tr s .an)]) E σ/\lj (ay P ν) (ay P ν) R φ L σ R φ (L++[.row s af af af (.tr s .an)]) σ (λ_=>False)/\c9 (ay P ν) R φ (L++[.row s af af af (.tr s .an)]) σ x (.sr L.length):=by
 obtain⟨hs,hx⟩:=hx;have hz:(SE.tr s .an).den P ν=aa (.tree s []):=by simp[SE.den,hs]
 obtain⟨h1,h2⟩:=hJ.AQ (fr:=af) hs hz;exact⟨h2,h1,s,af,af,af,_,[],by simp,hz,.inl ⟨xR hJ (ayL _),rfl,by subst hx;cases b<;>simp⟩⟩
theorem All2.set{α β:Type}{r:α->β->Prop}:∀{as:List α} {bs:List β} {i:Nat} {b:β},All2 r as bs->(∀a,as[i]?=aa a->r a b)->All2 r as (bs.set i b)
 |[],[],i,b,_,_=>by simp;trivial
 |a::as,b'::bs,i,b,h,hr=>by
  cases i with
  |zero=>exact⟨hr a rfl,h.2⟩
  |succ i=>exact⟨h.1,All2.set h.2 λa ha=>hr a (by simpa using ha)⟩
 |[],_::_,_,_,h,_=>h.elim
 |_::_,[],_,_,h,_=>h.elim
def acO(hJ:J Cx (ay P ν) R φ V.g V.l E σ)(d t j:Nat):J Cx (ay P ν) R φ (EN d t j V).g (EN d t j V).l E σ/\(EN d t j V).n=V.n/\(EN d t j V).ln=V.ln:=by
 unfold EN;split
 .rename_i b s hg;split
  .obtain⟨h1,_,h2⟩:=U2 hJ (x:=(E d).at t) (b:=b) (s:=s) (hJ.slot d t _ hg);exact⟨h1.U1 (pv:=.one (.sr V.l.length)) h2,rfl,rfl⟩
  .exact⟨hJ,rfl,rfl⟩
 .rename_i cs hg;split
  .rename_i b s hc;obtain⟨xs,yS,s5⟩:=hJ.slot d t _ hg;obtain⟨x,hx,hr⟩:=s5.DU hc;obtain⟨h1,h3,h2⟩:=U2 hJ hr;refine⟨h1.U1 (pv:=.ag _) ⟨xs,yS,(s5.mono λ_ _ cG=>cG.step h3 (Cl.a_ _)).set λa ha=>?_⟩,rfl,rfl⟩;rw[hx]at ha;cases ha;exact h2
  .exact⟨hJ,rfl,rfl⟩
 .exact⟨hJ,rfl,rfl⟩
def acP(hJ:J Cx (ay P ν) R φ V.g V.l E σ)(k j:Nat):∃R',J Cx (ay P ν) R' φ (EO k j V).g (EO k j V).l E σ/\(EO k j V).n=V.n/\(EO k j V).ln=V.ln:=by
 unfold EO;split
 .rename_i cs hk;split
  .rename_i b s hc;obtain⟨id,cW,g1,g2,g3,g4⟩:=hJ.obj k _ hk;obtain⟨x,hx,hr⟩:=g4.DU hc;obtain⟨h1,h3,h2⟩:=U2 hJ hr;have fp:=fa hk;have lE:(V.l++[LO.row s af af af (SE.tr s SE.an)])[k]?=aa (.var cs):=by rw[ayZ fp];exact hk
   obtain⟨gy,bE⟩:=h1.tU (R':=R) (bad:=λ_=>False) (kK:=.var (cs.set j (.sr V.l.length))) (fB:=.cells cW 0 0) g1 lE (λ_ _=>rfl)
    (λm hm=>by rw[g2]at hm;cases hm) (λm _ _ _ hm=>by rw[g2]at hm;cases hm) (λm _ _ _ hm=>by rw[g2]at hm;cases hm)
    (λ_ _=>⟨_,rfl⟩) (λ_ _ h=>by cases h) (λ_ _ _ _ _ h=>by cases h) (λ_ _ pv _=>pv.a_) (λ_ o _ _=>o.a_)
    (λgy=>⟨id,cW,g1,g2,by rw[St.dt,if_pos rfl],((g4.mono λ_ _ cG=>cG.step h3 (Cl.a_ _)).set λa ha=>by rw[hx]at ha;cases ha;exact h2).mono λ_ _ cG=>cG.step gy (Cl.a_ _)⟩)
   have ED:σ.put id (.cells cW 0 0)=σ:=by
    unfold St.put
    have:σ.t.set id (.cells cW 0 0)=σ.t:=T.WF.ext (hJ.wf.set _ _) hJ.wf λi=>by
     rw[T.hZ];split
     .rename_i hh;subst hh;exact g3.symm
     .rfl
    rw[this]
   rw[ED]at bE
   have D1:(V.l++[LO.row s af af af (SE.tr s SE.an)]).set k (LO.var (cs.set j (Cl.sr V.l.length)))=V.l.set k (LO.var (cs.set j (Cl.sr V.l.length)))++[LO.row s af af af (SE.tr s SE.an)]:=by
    rw[List.set_append_left _ _ fp]
   rw[D1]at bE;exact⟨R,bE,rfl,rfl⟩
  .exact⟨R,hJ,rfl,rfl⟩
 .split
  .obtain⟨R',h1,h2,h3⟩:=yK hJ k;exact⟨R',h2,h1.2.1,h1.2.2.1⟩
  .exact⟨R,hJ,rfl,rfl⟩
 .exact⟨R,hJ,rfl,rfl⟩
theorem GF(h:Hint):∀(l:List (Nat×Nat×Nat)) {V:SS},J Cx (ay P ν) R φ V.g V.l E σ->J Cx (ay P ν) R φ (xF h l V).g (xF h l V).l E σ/\(xF h l V).n=V.n/\(xF h l V).ln=V.ln
 |[],V,hJ=>⟨hJ,rfl,rfl⟩
 |(d,t,j)::l,V,hJ=>by
  simp only[xF];split
  .obtain⟨h1,h2,h3⟩:=acO hJ d t j;obtain⟨h4,h5,h6⟩:=GF h l h1;exact⟨h4,h5.trans h2,h6.trans h3⟩
  .exact GF h l hJ
theorem Nv:∀(l:List (Nat×Nat)) {V:SS} {R:Rs},J Cx (ay P ν) R φ V.g V.l E σ->∃R',J Cx (ay P ν) R' φ (xG l V).g (xG l V).l E σ/\(xG l V).n=V.n/\(xG l V).ln=V.ln
 |[],V,R,hJ=>⟨R,hJ,rfl,rfl⟩
 |(k,j)::l,V,R,hJ=>by
  simp only[xG];obtain⟨R1,h1,h2,h3⟩:=acP hJ k j;obtain⟨R2,h4,h5,h6⟩:=Nv l h1;exact⟨R2,h4,h5.trans h2,h6.trans h3⟩
def U3(h:Hint)(hJ:J Cx (ay P ν) R φ V.g V.l E σ):∃R',J Cx (ay P ν) R' φ (xH h (settle h.Bm V)).g (xH h (settle h.Bm V)).l E σ/\(xH h (settle h.Bm V)).n=V.n/\(xH h (settle h.Bm V)).ln=V.ln:=by
 obtain⟨R',h1,h2,h3⟩:=Dn h.Bm hJ;obtain⟨h4,h5,h6⟩:=GF h h.MR.reverse h1;obtain⟨R2,h7,h8,h9⟩:=Nv h.Bl.reverse h4;exact⟨R2,h7,h8.trans (h5.trans h2),h9.trans (h6.trans h3)⟩
variable{ro:Nat}{ι:Io}{w:World}{cfg:fe}{self:nW}
variable{C:Cr}{Q:IV->Prop}{K:List (List IV->Prop)}{f0:Nat}{o:Oper}{k:PV SE->SS->aq}{L:List (LO SE)}{Γ:Gm SE}
def Nw{g:FuncId}{bs:List (Nat×Nat)}{args:List (PV SE)}{t:TypeId}{c:FuncId}{xj:List (Nat×Nat)}(h:Jz cfg g bs args=aa (t,c,xj)):bs=[]/\args=[.one (.fn c xj)]/\guardOf cfg g=aa t:=by
 unfold Jz at h;split at h
 .rw[ayR]at h;obtain⟨t',h1,h2⟩:=h;cases h2;exact⟨rfl,rfl,h1⟩
 .cases h
def Ir{j:Nat}(h:H7 d V=aa j):cz d 2 V.g=aa (.one (.pt j 0 1))/\V.l[j]?=aa (.var [.v (.i 0)]):=by
 unfold H7 at h;split at h
 .rename_i j' hg;split at h
  .rename_i z hj;split at h
   .rename_i hz;cases h;have:z=0:=by simpa using hz
    subst this;exact⟨hg,hj⟩
   .cases h
  .cases h
 .cases h
def U4(hJ:J Cx (ay P ν) R φ V.g V.l E σ){j:Nat}(h:H7 d V=aa j){sZ:Nat}(he:(E d).at 2=.ptr sZ 0 0 1):φ j=aa sZ/\R sZ=ah/\σ.at sZ=aa (.cells [.int 0] 0 0):=by
 obtain⟨hg,hj⟩:=Ir h;obtain⟨id,cs,h1,h2,h3⟩:=hJ.slot d 2 _ hg;obtain⟨bz,cW,h4,h5,h6,h7⟩:=hJ.obj j _ hj;rw[he]at h3;have hid:id=sZ:=by injection h3 with e;exact e.symm
 subst hid;rw[h1]at h4;cases h4;refine⟨h1,h5,?_⟩;rw[h6]
 match cW,h7 with
 |[x],h7=>
  obtain⟨y,h8,h9,_⟩:=h7.1;simp only[ay,SE.den,ayO]at h8;subst h8;rw[cD h9]
def J.acQ(hJ:J Cx (ay P ν) R φ Γ L E σ){j id:Nat}{cs bK:List (Cl SE)}{cW:List IV}(h1:φ j=aa id)(hj:L[j]?=aa (.var cs))(h2:R id=ah)(hc:All2 (c9 (ay P ν) R φ L σ) cW bK):
 J Cx (ay P ν) R φ Γ (L.set j (.var bK)) E (σ.put id (.cells cW 0 0))/\lj (ay P ν) (ay P ν) R φ L σ R φ (L.set j (.var bK)) (σ.put id (.cells cW 0 0)) (λ_=>False):=by
 obtain⟨gy,bE⟩:=hJ.tU (R':=R) (bad:=λ_=>False) (kK:=.var bK) (fB:=.cells cW 0 0) h1 hj (λ_ _=>rfl)
  (λm hm=>by rw[h2]at hm;cases hm) (λm _ _ _ hm=>by rw[h2]at hm;cases hm) (λm _ _ _ hm=>by rw[h2]at hm;cases hm)
  (λ_ _=>⟨_,rfl⟩) (λ_ _ h=>by cases h) (λ_ _ _ _ _ h=>by cases h) (λ_ _ pv _=>pv.a_) (λ_ o _ _=>o.a_)
  (λgy=>⟨id,_,h1,h2,by rw[St.dt,if_pos rfl],hc.mono λ_ _ cG=>cG.step gy (Cl.a_ _)⟩)
 exact⟨bE,gy⟩
def J.ajP(hJ:J Cx (ay P ν) R φ Γ L E σ)(ob fB:Ob):J Cx (ay P ν) R (bU φ L.length σ.n) Γ ((L++[LO.dead]).set L.length LO.dead) E ((σ.add ob).put σ.n fB)/\
 lj (ay P ν) (ay P ν) R φ L σ R (bU φ L.length σ.n) (L++[LO.dead]) (σ.add ob) (λ_=>False)/\
 lj (ay P ν) (ay P ν) R (bU φ L.length σ.n) (L++[LO.dead]) (σ.add ob) R (bU φ L.length σ.n) ((L++[LO.dead]).set L.length LO.dead) ((σ.add ob).put σ.n fB) (λ_=>False):=by
 have hs:=EJ hJ ob .dead;have bE:=hJ.zB ob .dead trivial;have hn:=hJ.rP
 obtain⟨gX,fq⟩:=bE.tU (k:=L.length) (id:=σ.n) (lo:=.dead) (R':=R) (bad:=λ_=>False) (kK:=.dead) (fB:=fB) (by simp[bU]) aw (λ_ _=>rfl)
  (λm hm=>by rw[hn]at hm;cases hm) (λm _ _ _ hm=>by rw[hn]at hm;cases hm) (λm _ _ _ hm=>by rw[hn]at hm;cases hm)
  (λ_ h=>by cases h) (λ_ _ h=>by cases h) (λ_ _ _ _ _ h=>by cases h) (λ_ _ pv _=>pv.a_) (λ_ o _ _=>o.a_) (λ_=>trivial)
 exact⟨fq,hs,gX⟩
def Ri(hC:mK P C)(bN:oQ Cx P C Q self)(hJ:J Cx (ay P ν) R φ V.g V.l E σ)(hn:ν.length=V.n)(hK:K.length=V.lv)(bV:(E d).n=V.nt){g c:FuncId}{t:TypeId}{dst:Option Nat}{xj:List (Nat×Nat)}{cl:IV}(hg:g<P.funcs.size)
 (jy:VR (ay P ν) R φ V.l σ cl (.one (.fn c xj)))(hs:(MU P cfg self d f0 dst g t c xj V k).sat P C Q K ν){RW:Nat->IV->St->Prop}
 (hk:∀(pv:PV SE) (V':SS) μ K' R' aV E' au v,zl Cx P d E K ν V.nt V' μ K' R' aV E' au->E' d=E d->VR (ay P (ν++μ)) R' aV V'.l au v pv->(k pv V').sat P C Q K' (ν++μ)->∃b,∀N,b<=N->au.n<=N/\RW N v au):
 ∃b,∀N,b<=N->fc P N g [cl] σ (RW N):=by
 unfold MU at hs;obtain⟨xs,z,hx,hc,hs⟩:=hs;obtain⟨t',rfl,au4⟩:=(hC _ _ _ _ hc).2.2.2.1 g hg rfl
 have htt:t'=t:=by
  unfold kc at hx;simp[ff,SE.den]at hx;omega
 subst htt;have hJu:J Cx (ay P (ν++[z])) R φ V.g V.l E σ:=hJ.up λe z h=>SE.dI P e h;have au5:VR (ay P (ν++[z])) R φ V.l σ cl (.one (.fn c xj)):=jy;have jP:All2 (c9 (ay P (ν++[z])) R φ V.l σ) [.int 0] [.v (.i 0)]:=⟨⟨.int 0,rfl,.raw _,rfl⟩,trivial⟩;have cw:=EJ hJu (.cells [.int 0] 0 0) (.var [.v (.i 0)])
 have bE:J Cx (ay P (ν++[z])) R (bU φ V.l.length σ.n) V.g (V.l++[.var [.v (.i 0)]]) E (σ.add (.cells [.int 0] 0 0)):=
  hJu.zB _ _ ⟨σ.n,[.int 0],by simp[bU],hJu.rP,by simp,jP.mono λ_ _ cG=>cG.step cw (Cl.a_ _)⟩
 have hpt:VR (ay P (ν++[z])) R (bU φ V.l.length σ.n) (V.l++[.var [.v (.i 0)]]) (σ.add (.cells [.int 0] 0 0)) (.ptr σ.n 0 0 1) (.one (.pt V.l.length 0 1)):=⟨σ.n,[.v (.i 0)],by simp[bU],by simp,rfl⟩;have au6:VR (ay P (ν++[z])) R (bU φ V.l.length σ.n) (V.l++[.var [.v (.i 0)]]) (σ.add (.cells [.int 0] 0 0)) cl (.one (.fn c xj)):=au5.step cw (PV.a_ _)
 let e1:Env:=(⟨3,.lf⟩:Env).put (aa 2) (.ptr σ.n 0 0 1)
 have nq:e1.at 2=.ptr σ.n 0 0 1:=cI (by decide);have amj:e1.n=3:=fj ..
 have fq:J Cx (ay P (ν++[z])) R (bU φ V.l.length σ.n) ((d+1,2,.one (.pt V.l.length 0 1))::eM (d+1) V.g) (V.l++[.var [.v (.i 0)]]) (ly E (d+1) e1) (σ.add (.cells [.int 0] 0 0)):=by
  refine{bE with slot:=λd' t pv xm=>?_};rcases ml xm with⟨rfl,rfl,rfl⟩|⟨bA,xm⟩
  .rw[bO,nq];exact hpt
  .obtain⟨h1,h2⟩:=pU xm;rw[e_ _ _ _ h1];exact bE.slot d' t pv h2
 have dk:∃fn,P.funcs[c]?=aa fn/\fn.body.isSome=ab/\(fn.name != "runtime.NumGoroutine")=ab:=by
  unfold o5 at hs;split at hs<;>try exact hs.elim
  rename_i fn dk;split at hs<;>try exact hs.elim
  rename_i body hb;split at hs<;>try exact hs.elim
  split at hs<;>try exact hs.elim
  rename_i ow;simp only[ayI]at ow;exact⟨fn,dk,by simp[hb],ow.2⟩
 obtain⟨fn,dk,hb,pT⟩:=dk;obtain⟨ys,pI,vl⟩:=nG (args:=[]) au6 dk hb pT;rw[azN]at pI
 obtain⟨_,_,_,_,b,hcx⟩:=Aw (d:=d+1) (V:={V with n:=V.n+1,l:=V.l++[.var [.v (.i 0)]],g:=(d+1,2,.one (.pt V.l.length 0 1))::eM (d+1) V.g,nt:=3}) (ν:=ν++[z]) (E:=ly E (d+1) e1)
  (RW:=λN _ cO=>cO.at σ.n=aa (.cells [.int 0] 0 0)/\cO.n<=N/\RW N (.int 0) (cO.put σ.n (.cells [.int 0] 0 0)))
  (PW:=λN v cO=>∃u,v=.dP t' (.agg [.raw u])/\ao (.raw u)=ab/\cO.at σ.n=aa (.cells [.int 0] 0 0)/\cO.n+1<=N/\σ.n<cO.n/\RW N (.raw u) (AK cO σ.n (.raw u)))
  bN fq (by simp[hn]) hK (by rw[bO,amj]) vl hs (by
   intro pv V' μ K' R' aV E' au v hf m9 hv bu;split at bu<;>try exact bu.elim
   rename_i j hj;have Yj:(E' (d+1)).at 2=.ptr σ.n 0 0 1:=by rw[m9,bO,nq]
   obtain⟨h1,h2,h3⟩:=U4 hf.hJ hj Yj;obtain⟨_,vd⟩:=Ir hj;obtain⟨wI,_⟩:=hf.hJ.acQ h1 vd h2 (cW:=[.int 0]) (bK:=[.v (.i 0)]) ⟨⟨.int 0,rfl,.raw _,rfl⟩,trivial⟩;have zK:E' d=E d:=by rw[hf.hE d aj,e_ _ _ _ aj]
   obtain⟨b,hb⟩:=hk (.one (.v (.i 0))) {V' with g:=eM (d+1) V'.g,nt:=V.nt,l:=V'.l.set j (.var [.v (.i 0)])} ([z]++μ) K' R' aV E' (au.put σ.n (.cells [.int 0] 0 0)) (.int 0)
    ⟨hf.hK,hf.gh,rfl,by rw[<-ay3];exact vo (V:={V' with l:=V'.l.set j (.var [.v (.i 0)])}) wI (d+1),by rw[<-ay3];exact hf.hn,λi hi=>by rw[hf.hE i aj,e_ _ _ _ aj],by rw[zK]⟩ zK
    (by rw[<-ay3];exact⟨.int 0,rfl,.raw _,rfl⟩) (by rw[<-ay3];exact bu)
   exact⟨max b au.n,λN hN=>⟨by omega,h3,by omega,(hb N aj).2⟩⟩) (by
   intro tt pv V' μ K' R' aV E' au v hf m9 hv bu;split at bu<;>try exact bu.elim
   rename_i e j hj;split at bu<;>try exact bu.elim
   rename_i htt;have:=ay0 htt;subst this;obtain⟨⟨y0,U5⟩,bu⟩:=bu;have Yj:(E' (d+1)).at 2=.ptr σ.n 0 0 1:=by rw[m9,bO,nq]
   obtain⟨h1,h2,h3⟩:=U4 hf.hJ hj Yj;obtain⟨_,vd⟩:=Ir hj;obtain⟨vs,rfl,eB⟩:=hv
   obtain⟨x0,rfl,y,y9,vS,KE⟩:∃x0,vs=[x0]/\∃y,ay P (ν++[z]++μ) e=aa y/\j_ x0 y/\ao y=ab:=by
    match vs,eB with
    |[x0],eB=>exact⟨x0,rfl,eB.1⟩
   have hyr:aL y=ab:=by
    have afn:e.den P (ν++[z]++μ)=aa y:=y9;simp only[SE.den,afn,ayK]at U5;split at U5
    .assumption
    .cases U5
   obtain⟨u,rfl⟩:∃u,y=.raw u:=by
    cases y<;>simp[aL]at hyr;exact⟨_,rfl⟩
   have hxu:=cD vS;subst hxu;obtain⟨Rj,cU,qP⟩:=hf.hJ.ajP (.cells [.int 0] 0 0) (.cells [.raw u] 0 0);have au7:=fa vd;have afJ:bU aV V'.l.length au.n j=aa σ.n:=by simp[bU,show j≠V'.l.length by omega,h1]
   have au8:((V'.l++[LO.dead]).set V'.l.length LO.dead)[j]?=aa (.var [.v (.i 0)]):=by
    rw[aAA aj,ayZ au7];exact vd
   obtain⟨hJb,_⟩:=Rj.acQ afJ au8 h2 (cW:=[.raw u]) (bK:=[.v e]) ⟨⟨.raw u,y9,.raw _,KE⟩,trivial⟩;have ak:=(hf.hJ.lt j σ.n h1).2;have zK:E' d=E d:=by rw[hf.hE d aj,e_ _ _ _ aj]
   obtain⟨b,hb⟩:=hk (.one (.v e)) {V' with g:=eM (d+1) V'.g,nt:=V.nt,l:=((V'.l++[LO.dead]).set V'.l.length LO.dead).set j (.var [.v e])} ([z]++μ) K' R' (bU aV V'.l.length au.n) E' (AK au σ.n (.raw u)) (.raw u)
    ⟨hf.hK,hf.gh,rfl,by rw[<-ay3];exact vo (V:={V' with l:=((V'.l++[LO.dead]).set V'.l.length LO.dead).set j (.var [.v e])}) hJb (d+1),by rw[<-ay3];exact hf.hn,λi hi=>by rw[hf.hE i aj,e_ _ _ _ aj],by rw[zK]⟩ zK
    (by rw[<-ay3];exact⟨.raw u,y9,.raw _,KE⟩) (by rw[<-ay3];exact bu)
   refine⟨max b (au.n+1),λN hN=>⟨by omega,u,rfl,KE,h3,by omega,ak,(hb N aj).2⟩⟩)
 refine⟨max b (σ.n+1),λN hN=>?_⟩;exact au4 N cl c ys σ _ _ _ pI aj (hcx N aj) (λv cO h=>h) λv cO h=>h
variable{rd:Option Nat}{df:List Df}
variable{kx:Kx}{sk:List Nat}{ops:Array Oper}{l:List Oper}{kk:SS->aq}{CW:Nat->Env->St->Prop}{CX:Nat->lz}
def lA(e:Env)(sk:List Nat):Prop:=∀t,jh sk t=ab->e.at t=.undef
def lA.nil(e:Env):lA e []:=λ_ h=>by cases h
theorem lA.put{e:Env}{sk:List Nat}(h:lA e sk)(dst:Option Nat)(x:IV):lA (e.put dst x) (vX sk dst):=by
 cases dst with
 |none=>exact h
 |some d=>
  intro t ht;obtain⟨h1,h2⟩:=yj ht;rw[fW h2];exact h t h1
theorem lA.add{e:Env}{sk:List Nat}(h:lA e sk){dst:Option Nat}(hd:∀t,dst=aa t->t<e.n):lA (e.put dst .undef) (JE sk dst):=by
 cases dst with
 |none=>exact h
 |some d=>
  intro t ht;rcases kL ht with rfl|ht
  .exact cI (hd _ rfl)
  .exact h.put (aa d) .undef t ht
def lA.ah1{e:Env}{sk:List Nat}(h:lA e sk){ops:Array Oper}{o:Oper}(hs:o6 sk ops o=ab):aY o ops e=af:=by
 unfold o6 at hs;unfold aY;split at hs<;>try (cases hs;done)
 rename_i j w hg;rw[hg];simp only;split at hs<;>try (cases hs;done)
 rename_i t ht;rw[ht];simp only;rw[h t hs];split
 .rfl
 .rfl
def EV(Cx:Cs)(P:Program)(C:Cr)(Q:IV->Prop)(cfg:fe)(self:nW)(kx:Kx)(d f0:Nat)(ops:Array Oper)(rd:Option Nat)(df:List Df)(kk:SS->aq)(CX:Nat->lz)(sk:List Nat)(l:List Oper):Prop:=
 ∀(V:SS) ν K R φ E σ,lA (E d) sk->(gP P cfg self kx Cx d f0 af ops sk l V kk).sat P C Q K ν->J Cx (ay P ν) R φ V.g V.l E σ->ν.length=V.n->K.length=V.lv->(E d).n=V.nt->KS Cx P C Q d E K ν V.nt kk (λN e σ=>CX N .normal e σ)->KP Cx P C Q d E K ν V.nt kx (λN v e σ=>CX N (.cg v) e σ)->
  ∃b,∀N,b<=N->dK P N rd ops l (E d) df σ (CX N)
def ig(ih:EV Cx P C Q cfg self kx d f0 ops rd df kk CX sk l){dst:Option Nat}(oA:∀x,lA ((E d).put dst x) sk)(hd:∀t,dst=aa t->t<(E d).n){nt:Nat}(bV:(E d).n=nt)(dJ:KS Cx P C Q d E K ν nt kk (λN e σ=>CX N .normal e σ))(gY:KP Cx P C Q d E K ν nt kx (λN v e σ=>CX N (.cg v) e σ))
 {V1:SS}{μ:List IV}{K1:List (List IV->Prop)}{R1:Rs}{ew:Ph}{E1:Nat->Env}{av:St}{x:IV}{pv:PV SE}
 (hJ:J Cx (ay P (ν++μ)) R1 ew V1.g V1.l E1 av)(hn:(ν++μ).length=V1.n)(hK:K<+:K1)(gh:K1.length=V1.lv)(l7:V1.nt=nt)(hE:∀j,j<d->E1 j=E j)(m9:E1 d=E d)
 (hx:VR (ay P (ν++μ)) R1 ew V1.l av x pv)(hs:(gP P cfg self kx Cx d f0 af ops sk l (V1.b_ d dst pv) kk).sat P C Q K1 (ν++μ)):
 ∃b,∀N,b<=N->dK P N rd ops l ((E d).put dst x) df av (CX N):=by
 have bE:=GB (d:=d) (dst:=dst) hJ hx (by rw[m9];exact hd);have Pk:(V1.b_ d dst pv).nt=nt:=by cases dst<;>exact l7
 have afN:(V1.b_ d dst pv).lv=V1.lv:=by cases dst<;>rfl
 obtain⟨b,hb⟩:=ih (V1.b_ d dst pv) (ν++μ) K1 R1 ew _ av (by rw[bO,m9];exact oA x) hs bE (by rw[Im];exact hn) (by rw[afN];exact gh) (by rw[bO,fj,m9,bV,Pk]) (by
  rw[Pk];exact dJ.fwd hK (λj hj=>by rw[e_ _ _ _ aj];exact hE j hj) (by rw[bO,fj,m9])) (by
  rw[Pk];exact gY.fwd hK (λj hj=>by rw[e_ _ _ _ aj];exact hE j hj) (by rw[bO,fj,m9]))
 refine⟨b,λN hN=>?_⟩;have:=hb N hN;rw[bO,m9]at this;exact this
def acR{s9:Bool}{g:FuncId}{dq:List (PV SE)}(h:Bs P cfg d s9 o V=aa (g,dq)):
 ∃c f bs,o.op=.call c/\c.callee=.value f/\bP P d V 0 f=.one (.fn g bs)/\dq=kz P d V c.args.toList c.argTypes.toList++bs.map (λ(p:Nat×Nat)=>.one (.pt p.1 0 p.2)):=by
 unfold Bs at h;split at h<;>try (cases h;done)
 split at h<;>try (cases h;done)
 rename_i c ho;split at h<;>try (cases h;done)
 rename_i f hc;split at h<;>try (cases h;done)
 rename_i g' bs hf;split at h<;>try (cases h;done)
 simp only[ayO,aAt]at h;obtain⟨rfl,rfl⟩:=h;exact⟨c,f,bs,ho,hc,hf,rfl⟩
def LM{es:List SE}{vs:List IV}(h:kc (P:=P) ν (ff es)=aa vs):All2 (λ(e:SE) y=>e.den P ν=aa y) es vs:=by
 induction es generalizing vs with
 |nil=>
  unfold kc at h;simp only[ff,SE.den,ayO]at h;subst h;trivial
 |cons e es ih=>
  unfold kc at h;simp only[ff,SE.den]at h;cases h1:e.den P ν with
  |none=>rw[h1]at h;simp at h
  |some x=>
   rw[h1]at h;simp only[ayK]at h;cases h2:(ff es).den P ν with
   |none=>rw[h2]at h;simp at h
   |some y=>
    rw[h2]at h;simp only[ayK]at h;cases y<;>simp only at h<;>try (cases h;done)
    rename_i cs;cases h;exact⟨h1,ih (by unfold kc;rw[h2])⟩
def afO{g:FuncId}{dst:Option Nat}{dq:List (PV SE)}(h:∀fn,P.funcs[g]?=aa fn->fn.body.isSome=ab->(fn.name != "runtime.NumGoroutine")=ab->False):∃n,JA P cfg self kx d f0 dst g dq V k=.fail n:=by
 unfold JA;split
 .split
  .rename_i fn dk;split
   .rename_i hc;simp only[ayI]at hc;exact(h fn dk hc.1 hc.2).elim
   .exact⟨_,rfl⟩
  .exact⟨_,rfl⟩
 .unfold o5;split
  .rename_i fn dk;split
   .rename_i body hb;split
    .exact⟨_,rfl⟩
    .split
     .rename_i hc;simp only[ayI]at hc;exact(h fn dk (by simp[hb]) hc.2).elim
     .exact⟨_,rfl⟩
   .exact⟨_,rfl⟩
  .exact⟨_,rfl⟩
def afP(hC:mK P C)(bN:oQ Cx P C Q self)(hJ:J Cx (ay P ν) R φ V.g V.l E σ)(hn:ν.length=V.n)(hK:K.length=V.lv)(bV:(E d).n=V.nt){g:FuncId}{dst:Option Nat}{args:List IV}{dq:List (PV SE)}(bF:All2 (VR (ay P ν) R φ V.l σ) args dq)
 (hs:(JA P cfg self kx d f0 dst g dq V k).sat P C Q K ν){RW PW:Nat->IV->St->Prop}
 (hk:∀(pv:PV SE) (V':SS) μ K' R' aV E' au v,zl Cx P d E K ν V.nt V' μ K' R' aV E' au->E' d=E d->VR (ay P (ν++μ)) R' aV V'.l au v pv->(k pv V').sat P C Q K' (ν++μ)->∃b,∀N,b<=N->au.n<=N/\RW N v au)
 (Dm:∀t (pv:PV SE) (V':SS) μ K' R' aV E' au v,zl Cx P d E K ν V.nt V' μ K' R' aV E' au->E' d=E d->VR (ay P (ν++μ)) R' aV V'.l au v pv->(kx t pv V').sat P C Q K' (ν++μ)->∃b,∀N,b<=N->au.n<=N/\PW N (.dP t v) au):
 ∃fn,P.funcs[g]?=aa fn/\fn.body.isSome=ab/\(fn.name != "runtime.NumGoroutine")=ab/\∃b,∀N,b<=N->vU P N g args σ (RW N) (PW N):=by
 unfold JA at hs;split at hs
 .rename_i t c xj je;obtain⟨_,rfl,_⟩:=Nw je;split at hs<;>try exact hs.elim
  rename_i fn dk;split at hs<;>try exact hs.elim
  rename_i cH;simp only[ayI]at cH
  match args,bF with
  |[cl],bF=>
   obtain⟨b,hb⟩:=Ri hC bN hJ hn hK bV (azx.1 dk).1 bF.1 hs hk;exact⟨fn,dk,cH.1,cH.2,b,λN hN=>(hb N hN).toX⟩
 .exact Aw bN hJ hn hK bV bF hs hk Dm
def afQ(hC:mK P C)(bN:oQ Cx P C Q self)(hJ:J Cx (ay P ν) R φ V.g V.l E σ)(hn:ν.length=V.n)(hK:K.length=V.lv)(bV:(E d).n=V.nt){g:FuncId}{dst:Option Nat}{args:List IV}{dq:List (PV SE)}(bF:All2 (VR (ay P ν) R φ V.l σ) args dq)
 (hd:∀t,dst=aa t->t<(E d).n)
 {k:SS->aq}(hs:(JB P cfg self kx d f0 dst g dq V k).sat P C Q K ν){RW PW:Nat->IV->St->Prop}
 (hk:∀(H:SS) vs R' aV E' au v,J Cx (ay P (ν++vs)) R' aV H.g H.l E' au->(ν++vs).length=H.n->H.lv=V.lv->H.nt=V.nt->(∀j,j<d->E' j=E j)->E' d=(E d).put dst v->(k H).sat P C Q K (ν++vs)->∃b,∀N,b<=N->au.n<=N/\RW N v au)
 (Dm:∀t (pv:PV SE) (V':SS) μ K' R' aV E' au v,zl Cx P d E K ν V.nt V' μ K' R' aV E' au->E' d=E d->VR (ay P (ν++μ)) R' aV V'.l au v pv->(kx t pv V').sat P C Q K' (ν++μ)->∃b,∀N,b<=N->au.n<=N/\PW N (.dP t v) au):
 ∃fn,P.funcs[g]?=aa fn/\fn.body.isSome=ab/\(fn.name != "runtime.NumGoroutine")=ab/\∃b,∀N,b<=N->vU P N g args σ (RW N) (PW N):=by
 unfold JB at hs;simp only at hs;split at hs
 .exact hs.elim
 .simp only[aq.sat]at hs;refine afP (V:={V with lv:=V.lv+1}) hC bN hJ hn (by simp[hK]) bV bF hs ?_ (λt pv V' μ K' R' aV E' au v hf=>Dm t pv V' μ K' R' aV E' au v ⟨(List.prefix_append K _).trans hf.hK,hf.gh,hf.bV,hf.hJ,hf.hn,hf.hE,hf.Hq⟩);intro pv V' μ K' R' aV E' au v hf m9 hv bu;have bE:=GB (d:=d) (dst:=dst) hf.hJ hv (by rw[m9];exact hd);obtain⟨R2,fq,A7,_⟩:=U3 _ bE;split at bu
  .rename_i es eu hi;obtain⟨vs,p,h1,h2,h3⟩:=bu;obtain⟨hlen,wI⟩:=Pj (td:=ν) fq hn ⟨μ,rfl⟩ hi (LM h1);obtain⟨t,ht⟩:=hf.hK;rw[<-ht,ay3,List.getElem?_append_right aj,hK,Nat.sub_self]at h2;simp only[List.singleton_append,List.getElem?_cons_zero,ayO]at h2;subst h2;exact hk _ vs R2 _ _ au v wI (by rw[ayP,hlen,hn]) rfl rfl (λj hj=>by rw[e_ _ _ _ aj];exact hf.hE j hj) (by rw[bO,m9]) h3.2
  .exact bu.elim
def Pm{e:SE}{z:IV}(h:(SE.rws e).den P ν=aa z):∃s es,e.den P ν=aa (.tree s es)/\z=.tree s es/\∀e∈es,∀c∈cellsOf e,aL c=ab:=by
 simp only[SE.den,ay4]at h
 grind
def Yk(Cx:Cs)(P:Program)(C:Cr)(Q:IV->Prop)(K:List (List IV->Prop))(E:Nat->Env)(ν:List IV)(lv:Nat×Nat)(k:PV SE->SS->aq)(KW:Nat->IV->St->Prop):Prop:=
 ∀(V1:SS) (μ:List IV) (R1:Rs) (ew:Ph) (av:St) (x:IV) (pv:PV SE),J Cx (ay P (ν++μ)) R1 ew V1.g V1.l E av->V1.ln=lv->(ν++μ).length=V1.n->V1.ln=lv->VR (ay P (ν++μ)) R1 ew V1.l av x pv->(k pv V1).sat P C Q K (ν++μ)->∃b,∀N,b<=N->KW N x av
def afR{fr:Bool}{x:IV}{cs:List IV}(h:bx fr R σ x (.agg cs)):∃xs,x=.agg xs/\All2 (bx fr R σ) xs cs:=by
 cases h with
 |agg tN _ hl hh=>exact⟨tN,rfl,.mk hl hh⟩
 |pure _ hf hp=>
  refine⟨cs,rfl,.mk rfl λi a b h1 h2=>?_⟩;rw[h1]at h2;cases h2;cases hp with
  |agg _ hh=>exact .pure a hf (hh a (ayX h1))
def GG{t:TypeId}{e:SE}{x z:IV}{f:aq}(hz:e.den P ν=aa z)(hc:j_ x z)(hs:(uc P t e f).sat P C Q K ν):f.sat P C Q K ν/\VR (ay P ν) R φ L σ x (ofType P t e):=by
 unfold uc at hs;unfold ofType;by_cases ha:isAgg P t=ab
 .rw[if_pos ha]at hs;have⟨⟨y,hy⟩,hk⟩:=hs;simp only[SE.den,hz,ayK]at hy;split at hy
  .rename_i cs;split at hy
   .rename_i ow;obtain⟨xs,rfl,oz⟩:=afR hc;refine⟨hk,?_⟩;rw[if_pos ha];refine⟨xs,rfl,.mk (by simp_all[oz.len]) λi a b h1 h2=>?_⟩;have hi:=(ayH.1 h1).1;rw[oz.len]at hi;rw[ay1,aAC aj]at h2;simp only[azl,ayO]at h2;subst h2;have Nk:=ayG hi;have bf:=(ayY.1 ow.2) _ (ayJ hi);exact⟨cs[i],by simp[SE.den,hz,Nk,wF,bf],oz.get h1 Nk,bf⟩
   grind
  grind
 .rw[if_neg ha]at hs;have⟨⟨y,hy⟩,hk⟩:=hs;have⟨h1,h2⟩:=r8 hy;rw[hz]at h1;cases h1;rw[if_neg ha];exact⟨hk,z,hy,hc,h2⟩
theorem Po:∀{zs:List SE} {v:IV},(ff zs).den P ν=aa v->∃ys,v=.agg ys/\All2 (λ(z:SE) y=>z.den P ν=aa y) zs ys
 |[],v,h=>by
  simp only[ff,SE.den,ayO]at h;exact⟨[],h.symm,trivial⟩
 |z::zs,v,h=>by
  have⟨x,hx,h⟩:=ay4.1 h;have⟨w,hw,h⟩:=ay4.1 h;obtain⟨ys,rfl,vl⟩:=Po hw;simp only[ayO]at h;exact⟨x::ys,h.symm,hx,vl⟩
theorem Nx:∀(args:List (PV SE)),args=(vh args).1.map (λp=>PV.one (Cl.pt p.1 0 p.2))++(vh args).2
 |[]=>rfl
 |pv::r=>by
  unfold vh;split
  .rename_i k ext r' h;cases h;simp only[azr,azO];rw[<-Nx r]
  .simp
theorem EW:∀{l:List Nat},distinct l=ab->l.Nodup
 |[],_=>List.nodup_nil
 |k::l,h=>by
  simp only[distinct,ayI,azY,List.any_eq_false]at h;refine azP.2 ⟨λhm=>?_,EW h.2⟩;exact h.1 k hm aw
def afS(es:List SE)(h:∀e∈es,∃y,e.den P ν=aa y):∃cs:List IV,All2 (λ(z:SE) y=>z.den P ν=aa y) es cs:=by
 induction es with
 |nil=>exact⟨[],trivial⟩
 |cons e es ih=>
  have⟨y,hy⟩:=h e aw;have⟨cs,bH⟩:=ih λe he=>h e bc;exact⟨y::cs,hy,bH⟩
theorem KL(hJ:J Cx (ay P ν) R φ V.g V.l E σ):∀{l:List (Nat×Nat)} {H8:List (List SE)},Br V l=aa H8->
 ∃ins:List (List IV),H8.length=l.length/\ins.length=l.length/\All2 (λ(z:SE) y=>z.den P ν=aa y) (H8.map ff) (ins.map IV.agg)/\
  ∀(i:Nat) (p:Nat×Nat) (cs:List IV),l[i]?=aa p->ins[i]?=aa cs->∃es:List SE,V.l[p.1]?=aa (.var (es.map .v))/\cs.length=p.2/\All2 (λ(z:SE) y=>z.den P ν=aa y) es cs
 |[],H8,h=>by
  simp only[Br,ayO]at h;subst h;exact⟨[],rfl,rfl,trivial,λi p cs h=>by simp⟩
 |(k,n)::l,H8,h=>by
  simp only[Br]at h;split at h<;>try grind
  rename_i ds hk;split at h<;>try grind
  rename_i hn;split at h<;>try grind
  rename_i es r m8 hr;simp only[ayO]at h;subst h;have CE:=LH m8;have oW:=ay0 hn;have⟨ins,h1,h2,h3,h4⟩:=KL hJ hr;have⟨id,cW,o1,o2,o3,o4⟩:=hJ.obj k _ hk
  have⟨cs,bH⟩:=afS (P:=P) (ν:=ν) es λe he=>by
   have⟨q,hq⟩:=az0 he;have⟨x,_,hx⟩:=o4.DU (i:=q) (b:=.v e) bc;have⟨y,hy,_⟩:=hx
   grind
  refine⟨cs::ins,by grind,by grind,⟨gH bH,h3⟩,λi p bK hp hc=>?_⟩
  grind [bH.len]
theorem KM{y:SE}:∀{l:List (Nat×Nat)} {i:Nat} {L:List (LO SE)},(ni y i l L).length=L.length
 |[],_,_=>rfl
 |(k,n)::l,i,L=>by simp[ni,KM (l:=l)]
theorem D6{y:SE}:∀{l:List (Nat×Nat)} {i j:Nat} {L:List (LO SE)},j∉l.map (·.1)->(ni y i l L)[j]?=L[j]?
 |[],_,_,_,_=>rfl
 |(k,n)::l,i,j,L,h=>by
  simp only[azr,ayW,not_or]at h;simp only[ni];rw[D6 h.2,aAA (λhc=>h.1 hc.symm)]
theorem KN{y:SE}:∀{l:List (Nat×Nat)} {i q:Nat} {p:Nat×Nat} {L:List (LO SE)},(l.map (·.1)).Nodup->l[q]?=aa p->p.1<L.length->
 (ni y i l L)[p.1]?=aa (.var ((azT p.2).map λj=>.v (.aP (.proj y (i+q+1)) j)))
 |[],_,_,_,_,_,h,_=>by grind
 |(k,n)::l,i,0,p,L,jA,h,ak=>by
  simp at h;subst h;simp only[azr,azP]at jA;simp only[ni];rw[D6 jA.1,List.getElem?_set_self ak]
 |(k,n)::l,i,q+1,p,L,jA,h,ak=>by
  simp only[azr,azP]at jA;simp only[ni];rw[KN (q:=q) jA.2 bc bc]
  grind
theorem Ny{α β:Type}{r:α->β->Prop}:∀{bs cs:List β} {as:List α},All2 r as (bs++cs)->∃as1 as2,as=as1++as2/\All2 r as1 bs/\All2 r as2 cs
 |[],cs,as,h=>⟨[],as,rfl,trivial,h⟩
 |b::bs,cs,[],h=>h.elim
 |b::bs,cs,a::as,h=>by
  obtain⟨as1,as2,rfl,h1,h2⟩:=Ny h.2;exact⟨a::as1,as2,rfl,⟨h.1,h1⟩,h2⟩
def ajQ{a b:List (List IV)}(h:a.map IV.agg=b.map IV.agg):a=b:=(List.map_inj_right (λx y hh=>by grind)).1 h
def ajR(hC:mK P C)(hJ:J Cx (ay P ν) R φ V.g V.l E σ)(hn:ν.length=V.n){g:FuncId}{l:List (Nat×Nat)}{rest:List (PV SE)}{ps xs:List IV}
 (hp:All2 (VR (ay P ν) R φ V.l σ) ps (l.map λp=>PV.one (Cl.pt p.1 0 p.2)))(hx:All2 (VR (ay P ν) R φ V.l σ) xs rest)(hs:(afh P g l rest V k).sat P C Q K ν){KW:Nat->IV->St->Prop}(hk:Yk Cx P C Q K E ν V.ln k KW):
 ∃b,∀N,b<=N->fc P N g (ps++xs) σ (KW N):=by
 unfold afh at hs;split at hs<;>try cases hs
 rename_i zs V' H8 fn hr hoc dk;split at hs
 .cases hs
 rename_i au9;have gd:rest.all qz=ab:=by simpa using au9
 split at hs
 .cases hs
 rename_i au_;have jA:=EW (by simpa using au_);split at hs<;>try exact hs.elim
 have⟨_,ars⟩:=Av (P:=P) (ν:=ν) (R:=R) (φ:=φ) (σ:=σ) hr gd;have⟨ys,c1,c2⟩:=ars hx;have⟨ins,i1,i2,i3,i4⟩:=KL hJ hoc;have⟨us,z,d1,d2,d3⟩:=hs
 have yX:us=.agg (ins.map IV.agg)::ys:=by
  have bX:All2 (λ(z:SE) y=>z.den P ν=aa y) (ff (H8.map ff)::zs) (.agg (ins.map IV.agg)::ys):=⟨gH i3,c1⟩;have:=gH bX;simp only[kc,show SE.ac (ff (H8.map ff)) (ff zs)=ff (ff (H8.map ff)::zs)from rfl,this]at d1;cases d1;rfl
 subst yX;obtain⟨ayz,yZ,outs,z0,e1,rfl,e3,e4,ava⟩:=(hC _ _ _ _ d2).2.2.1 g (azx.1 dk).1 rfl;simp only[aBb,IV.agg.injEq]at e1;obtain⟨e1,rfl⟩:=e1;have:=ajQ e1;subst this;have yW:outs.length=ins.length:=by have:=congrArg azj e3;simpa using this
 have XK:∀e w,ay P ν e=aa w->ay P (ν++[IV.aF (z0::outs.map IV.agg)]) e=aa w:=λe w h=>SE.dI P e h;have o_:(SE.var V.n).den P (ν++[IV.aF (z0::outs.map IV.agg)])=aa (IV.aF (z0::outs.map IV.agg)):=by simp[SE.den,<-hn]
 have avb:(SE.proj (.var V.n) 0).den P (ν++[IV.aF (z0::outs.map IV.agg)])=aa z0:=by simp only[SE.den]at o_⊢;rw[o_];rfl
 refine aaS XK hJ (ks:=l.map (·.1)) jA (L':=ni (.var V.n) 0 l V.l) (ins:=ins) (outs:=outs) (by simp[i2]) (λi k cs hk hi=>?_) ⟨by rw[hp.len,azq,i2],λi cs p hi EI=>?_⟩ c2 ava yW KM (λj hj=>D6 hj) (λi k cs hk hi=>?_) KW λR' au v KJ hv=>?_
 .rw[ay1]at hk;obtain⟨p,Hr,rfl⟩:=ayR.1 hk;have⟨es,a1,_,a3⟩:=i4 i p cs Hr hi;refine⟨_,a1,.mk (by rw[azq,a3.len]) λq c u hc hu=>?_⟩;rw[ay1]at hc;obtain⟨e,he,rfl⟩:=ayR.1 hc;exact⟨e,rfl,a3.get he hu⟩
 .have zT:i<l.length:=by rw[<-i2];exact(ayH.1 hi).1
  have hli:=ayG zT;have⟨es,a1,a2,a3⟩:=i4 i _ cs hli hi;obtain⟨id,ds,b1,b2,b3⟩:=hp.get EI (by rw[ay1,hli];rfl);exact⟨id,by simp only[ay1,hli];exact b1,by rw[b3,a2]⟩
 .rw[ay1]at hk;obtain⟨p,Hr,rfl⟩:=ayR.1 hk;have KI:i<ins.length:=by rw[<-yW];exact(ayH.1 hi).1
  have⟨es,a1,a2,_⟩:=i4 i p _ Hr (ayG KI);have ak:=(ayH.1 a1).1;refine⟨_,KN jA Hr ak,?_⟩
  have jy:cs.length=p.2:=by
   have h5:=congrArg (λq=>q[i]?) e3;simp only[ay1,hi,ayG KI,azl,ayO]at h5;omega
  refine .mk (by simp[jy]) λq c u hc hu=>?_;have hq:=(ayH.1 hu).1;rw[ay1,aAC aj]at hc;simp only[azl,ayO]at hc;subst hc;refine⟨_,rfl,?_⟩
  have hoi:(z0::outs.map IV.agg)[0+i+1]?=aa (.agg cs):=by
   rw[aAn,List.getElem?_cons_succ,ay1,hi];rfl
  have LC:=e4 cs (ayX hi) u (ayX hu);show(SE.aP _ _).den P _=_;simp only[SE.den]at o_⊢;rw[o_];simp only[ayK,hoi,hu];simp[wF,LC]
 .have⟨g1,g2⟩:=GG (R:=R') (φ:=φ) (L:=ni (.var V.n) 0 l V.l) (σ:=au) avb hv d3;exact hk {V with n:=V.n+1,l:=ni (.var V.n) 0 l V.l} [IV.aF (z0::outs.map IV.agg)] R' φ au v _ KJ rfl (by simp[hn]) rfl g2 g1
def Nz(hC:mK P C)(hJ:J Cx (ay P ν) R φ V.g V.l E σ)(hn:ν.length=V.n){g:FuncId}{j:Nat}{zs:List SE}{x:IV}{xs ys:List IV}(hx:c9 (ay P ν) R φ V.l σ x (.sr j))
 (hz:All2 (λ(z:SE) y=>z.den P ν=aa y) zs ys)(oz:All2 j_ xs ys)(hs:(JC P g zs j V k).sat P C Q K ν){KW:Nat->IV->St->Prop}(hk:Yk Cx P C Q K E ν V.ln k KW):
 ∃b,∀N,b<=N->fc P N g (x::xs) σ (KW N):=by
 unfold JC at hs;split at hs<;>try cases hs
 rename_i s fr es hj;split at hs<;>try exact hs.elim
 have art:g<P.funcs.size:=yO;have⟨⟨_,hr⟩,us,z,h1,h2,h3⟩:=hs;have⟨s1,jC,h4,_,l6⟩:=Pm hr
 have yX:us=.tree s1 jC::ys:=by
  have:All2 (λ(z:SE) y=>z.den P ν=aa y) (es::zs) (.tree s1 jC::ys):=⟨h4,hz⟩;simp only[kc,gH this]at h1
  grind
 subst yX;obtain⟨s2,e2,xs2,aW,g1,rfl,Er⟩:=(hC _ _ _ _ h2).2.1 g art rfl;obtain⟨⟨rfl,rfl⟩,rfl⟩:=g1;have⟨_,pB,k1,_,_⟩:=hJ.obj j _ hj;have Dk:es.den P ν=aa (.tree s pB):=k1;rw[h4]at Dk;cases Dk;have bE:=hJ.up (jz:=ay P (ν++[.tree s aW])) (λe y h=>SE.dI P e h)
 have cd:c9 (ay P (ν++[.tree s aW])) R φ V.l σ x (.sr j):=by
  have hbv:VR (ay P ν) R φ V.l σ x (.one (.sr j)):=hx;exact VR.up hJ hbv (λe z h=>SE.dI P e h)
 have fq:=bE.ZW j;have hjd:(V.l.map (LO.drop j))[j]?=aa (.row s af af fr es):=by simp[hj,LO.drop]
 have dw:=cd.step (Lm bE j) (Cl.a_ _);have o_:(SE.var V.n).den P (ν++[.tree s aW])=aa (.tree s aW):=by simp[SE.den,<-hn]
 refine acJ fq hjd (SE.dI P es h4) o_ l6 dw oz (λd t pv hg=>Nh hg) (λi o hi bA=>by
  rw[ay1]at hi;obtain⟨o',_,rfl⟩:=ayR.1 hi;exact o'.oY j) Er KW λR' aV au v a b=>?_
 exact hk ((({V with n:=V.n+1}:SS).vg j).setObj j (.row s af af af (.var V.n))) [.tree s aW] R' aV au v (.one (.sr j)) a rfl (by simp[hn,SS.vg,SS.setObj]) rfl b h3
def ajS{KW:Nat->IV->St->Prop}(hC:mK P C)(hJ:J Cx (ay P ν) R φ V.g V.l E σ)(hn:ν.length=V.n){g:FuncId}{dq:List (PV SE)}{xs:List IV}
 (bF:All2 (VR (ay P ν) R φ V.l σ) xs dq)(hs:(afi P g dq V k).sat P C Q K ν)
 (hk:∀(V1:SS) (μ:List IV) (R1:Rs) (ew:Ph) (av:St) (x:IV) (pv:PV SE),J Cx (ay P (ν++μ)) R1 ew V1.g V1.l E av->V1.ln=V.ln->(ν++μ).length=V1.n->V1.ln=V.ln->VR (ay P (ν++μ)) R1 ew V1.l av x pv->(k pv V1).sat P C Q K (ν++μ)->∃b,∀N,b<=N->KW N x av):
 ∃b,∀N,b<=N->fc P N g xs σ (KW N):=by
 unfold afi at hs;split at hs
 .have he:=Nx dq;rw[he]at bF;obtain⟨ps,as,rfl,hp,hx⟩:=Ny bF;exact ajR hC hJ hn hp hx hs hk
 split at hs<;>try cases hs
 rename_i c rest _;split at hs<;>try cases hs
 rename_i zs V' hr;split at hs
 .cases hs
 have vA:rest.all qz=ab:=bc;cases xs with
 |nil=>cases bF
 |cons x xs=>
  have⟨_,gd⟩:=Av (P:=P) (ν:=ν) (R:=R) (φ:=φ) (σ:=σ) hr vA;have⟨ys,c1,c2⟩:=gd bF.2;split at hs<;>first|(cases hs)|skip<;>try exact Nz hC hJ hn bF.1 c1 c2 hs hk
  rename_i b s _;have hx:=bF.1;have⟨cw,tb⟩:=hx;have tO:(SE.tr s SE.an).den P ν=aa (.tree s []):=by simp[SE.den,cw]
  have⟨_,fq⟩:=hJ.AQ (fr:=af) cw tO;have oE:(V.l++[LO.row s af af af (SE.tr s SE.an)])[V.l.length]?=aa (.row s af af af (SE.tr s SE.an)):=aw;exact Nz (V:={V with l:=V.l++[.row s af af af (.tr s .an)]}) hC fq hn (x:=x) ⟨s,af,af,af,_,[],oE,tO,.inl ⟨xR hJ (ayL _),rfl,by grind⟩⟩ c1 c2 hs hk
end
section
variable{P:Program}{N:Nat}{ι:Io}{w:World}{σ au:St}{e:Env}{rd:Option Nat}{fn:FuncId}{df:List Df}{CW:lz}{ops:Array Oper}{o:Oper}{l:List Oper}
def St.skip(σ:St):St:=⟨σ.n+1,σ.t⟩
@[simp] theorem St.ajT(σ:St)(j:Nat):σ.skip.at j=σ.at j:=rfl
@[simp] theorem St.acS(σ:St):σ.skip.n=σ.n+1:=rfl
def afT{ob:Ob}(h:Inv N ι (σ.add ob) w)(h0:∀id,σ.n<=id->σ.at id=ah):Inv N ι σ.skip w:=
 ⟨h.mem,h.sep,h.gU,h.fresh,h.inj,λid o ho=>h.obj id o (by
  rw[St.ajT]at ho;rw[St.jO,if_neg (λhc=>by rw[<-hc,h0 _ (ayL _)]at ho;cases ho)];exact ho),λid hid=>h0 id (by simp at hid;omega)⟩
def ajU{ro:Nat}{ob:Ob}{bQ:Io}{w1:World}(h:Le ro ι w σ bQ w1 (σ.add ob)):Le ro ι w σ bQ w1 σ.skip:=
 ⟨h.ext,h.own,h.B8,λ_ h1 _=>h1,λ_ _ _=>rfl,h.zy,h.os,h.tape,h.output,h.size,h.frame,h.zz⟩
def cY.range{g:Operand}{ps:Array Tmp}{gL bd:Code}{f:FuncId}{args:List IV}{RW:IV->St->Prop}(pI:iH P (aD e g) [.sX (σ.n+1)]=aa (.enter f args))(hN:σ.n+2<=N)
 (h:fc P N f args (σ.skip.add (.loop .ready ah 0 e.t e.n ps.toList gL bd σ.n)) RW)
 (hRW:∀v mh,RW v mh->mh.n<=N/\∃s p f3 tm mb vb Ku vc nU,mh.at (σ.n+1)=aa (.loop s p f3 tm mb vb Ku vc nU)/\s≠.busy/\
  ∃ex:Ex,ex.Fj=af/\(∀t,ex≠.goto t)/\fV ex=p/\CW ex e (mh.put (σ.n+1) (.loop .exhausted p f3 tm mb vb Ku vc nU))):
 cY P N ah (.rangeFunc g ps gL bd) e df σ CW:=by
 intro B F ι a w Q hF hi he hd hQ;refine wpIn_rangeFunc λQH _=>?_;obtain⟨w1,bQ,ld,marks,i0,l0,vG,MH,Ou⟩:=Tx (P:=P) (ro:=0) (rd:=ah) (av:=σ.add (.Ha af)) (ga:=σ.n) (mark:=[.xu σ.n]) rfl (by simp;omega) hF hi;have i1:=afT i0 hi.wf;have l1:=ajU l0
 have So:FI B bQ w1 σ.skip σ.n:=by
  obtain⟨l',cJ,hh⟩:=i0.obj σ.n (.Ha af) aw;rw[vG]at cJ;cases cJ;refine⟨ld,vG,hi.wf _ (ayL _),by simp,?_,hh⟩;rcases l0.own σ.n ld.b ⟨0,ld,vG,rfl⟩with⟨e',l',h1,_⟩|h1
  .rw[hi.fresh σ.n (ayL _) aj e']at h1;cases h1
  .exact ay6 hd.1 h1
 have ki:=i1.fresh (σ.n+1) (ayL _) aj 0;have iX:=mz (l:=⟨w1.heap.size,1,1⟩) ki
 obtain⟨i2,l2⟩:=i1.Ez (ro:=0) (go:=.loop {state:=.ready,pending:=ah,fn:=QH,tmps:=a.tmps,params:=ps,assign:=gL,body:=bd,defers:=ld.b}) (ob:=.loop .ready ah 0 e.t e.n ps.toList gL bd σ.n) (by simp;omega)
  ⟨⟨w1.heap.size,1,1⟩,ld,a.tmps,QH,cC _ _ _ _,iX _ _ _ vG,by simp,he.1.symm,λt=>((he.2 t).mono l1.ext).mono iX⟩
 have gb:eR bQ (σ.n+1) 0 ⟨w1.heap.size,1,1⟩ (σ.n+1) 0=aa ⟨w1.heap.size,1,1⟩:=cC _ _ _ _;simp only[St.acS]at i2 l2 gb iX;generalize XC:({w1 with heap:=w1.heap.push (.loop {state:=.ready,pending:=ah,fn:=QH,tmps:=a.tmps,params:=ps,assign:=gL,body:=bd,defers:=ld.b})}:World)=w2 at i2 l2;generalize eR bQ (σ.n+1) 0 ⟨w1.heap.size,1,1⟩=sY at i2 l2 gb iX;obtain⟨d,j8,jy⟩:=Cf (w:=w2) (((he.mono l1.ext).mono iX).eval g) (aN.cons (.sX (σ.n+1) _ gb) aN.nil) pI;rcases jy with⟨f',as,vs,gw,hinv,eB,_⟩|⟨_,_,gw,_⟩
 .cases gw;refine⟨w1.heap.size,marks,w2,d,w2,f,vs.toArray,w2,by rw[Ou,XC],?_,λf' _=>hF.fn f',hinv,hF.depth,?_⟩
  .simpa[resolve,rangeCall,Act.eval]using j8
  .refine(hF.calls (h sY vs w2 i2 eB)).mono λed w3 hR=>?_;obtain⟨v,mh,vT,hR⟩:=hR;obtain⟨Kv,s,p,f3,tm,mb,vb,Ku,vc,nU,A6,cd,ex,yS,s5,KO,U6⟩:=hRW v mh vT;cases ed with
   |panicked chain=>exact hR.elim
   |outgrown=>exact hR.elim
   |returned u=>
    obtain⟨XD,_,i3,l3⟩:=hR;have Cj:=l3.ext _ _ _ gb;obtain⟨ld3,ts3,f3',hd3,A8,QI,HQ⟩:=ko i3 A6 Cj;obtain⟨i4,l4⟩:=AG (ro:=0) (dM:=.exhausted) (Ag:=p) (f':=f3') i3 (azz _) A6 Cj hd3 QI;refine⟨p,_,by simp only[Instr.endLoop,ayT,pH A8,ayM,QG s cd,azi,if_false,gC (P:=P) A8 aw,ay9];rfl,?_⟩;have l34:=Le.then i2 Kv l3 l4;have Ci:=Le.then i1 (by simp only[St.pD,St.acS];omega) l2 l34;have tQ:=Le.then hi (by simp;omega) l1 Ci;have e4:dc XD e a.tmps:=he.mono tQ.ext
    have d5:∀{w4:World},Le 0 ι w σ XD w4 (mh.put (σ.n+1) (.loop .exhausted p f3 tm mb vb Ku vc nU))->Le 0 bQ w1 σ.skip XD w4 (mh.put (σ.n+1) (.loop .exhausted p f3 tm mb vb Ku vc nU))->zW B XD w4 (mh.put (σ.n+1) (.loop .exhausted p f3 tm mb vb Ku vc nU)) df (marks++a.defers):=by
     intro w4 tQ Ci;obtain⟨EF,ids,h1,h2,h3⟩:=hd;refine⟨ay6 EF tQ.size,σ.n::ids,(MH.mono Ci.ext).append (h1.mono tQ.ext),λid hid=>?_,azP.2 ⟨λhc=>?_,h3⟩⟩
     .rcases ayW.1 hid with rfl|hid
      .exact So.step i1 Ci
      .exact(h2 id hid).step hi tQ
     .obtain⟨_,_,_,ak,_⟩:=h2 _ hc;omega
    cases ex with
    |normal=>simp only[fV]at KO;subst KO;exact hQ _ _ _ U6 _ _ _ [] i4 tQ e4 (d5 tQ Ci) trivial
    |exit i=>simp only[fV]at KO;subst KO;exact wpIn_exit (hQ _ _ _ U6 {a with defers:=marks++a.defers} _ _ [] i4 tQ e4 (d5 tQ Ci) trivial)
    |ret=>simp only[fV]at KO;subst KO;exact wpIn_ret (hQ _ _ _ U6 {a with defers:=marks++a.defers} _ _ [] i4 tQ e4 (d5 tQ Ci) trivial)
    |goto t=>exact absurd rfl (s5 t)
    |cg v=>cases yS
 .cases gw
theorem dK.round{nH:Nat}{args:List IV}{TA:FuncId}{tm:T IV}{mb:Nat}{ps:List Tmp}{gL bd:Code}{ga:Nat}(hw:aY o ops e=ab)(hv:aA P 0 (aD e) o σ=aa (.round nH args))
 (aT:σ.at nH=aa (.loop .ready ah TA tm mb ps gL bd ga))(hlen:args.length=ps.length)
 (h:cY P N (aa nH) gL ((ps.zip args).foldl (λe (p,v)=>e.put (aa p) v) ⟨mb,tm⟩) [] σ (λex e1 av=>ex=.normal/\av.n<=N/\∃f1 AV Fk Yl Pp Ym tA,av.at nH=aa (.loop .ready ah f1 AV Fk Yl Pp Ym tA)/\
  cY P N (aa nH) bd e1 [] (av.put nH (.loop .busy ah f1 AV Fk Yl Pp Ym tA)) (λex e2 cO=>ex.Fj=af/\cO.n<=N/\∃s3 p3 f3 Kr DQ vb GH vc nU,cO.at nH=aa (.loop s3 p3 f3 Kr DQ vb GH vc nU)/\
   dK P N rd ops l (e.put o.dst (.bool (fV ex).isNone)) df (cO.put nH (.loop (if(fV ex).isNone then .ready else .done) (fV ex) f3 Kr DQ vb GH vc nU)) CW))):
 dK P N rd ops (o::l) e df σ CW:=by
 refine .cons hw λB F ι a w Q k hl hF hi he hd hQ=>?_;refine⟨λf _=>hF.fn f,?_⟩;rw[Oper.semAt_eq _ _ _ (jd hv aw)];obtain⟨loc,us,afU,hr,h2⟩:=qO hi he.eval hv;obtain⟨ld,ts,f',Yn,hh,hE,ak⟩:=ko hi aT afU;have bo:us.toArray.size=ps.toArray.size:=by simp[<-h2.1,hlen]
 have hy:(aCG loc.b us.toArray).run P w=.ok (.round loc.b f' ((ps.zip us).foldl (λtmps (t,a)=>tmps.setIfInBounds t a) ts) gL bd) w:=by
  have hz:((ps.toArray.zip us.toArray).foldl (λtmps (t,a)=>tmps.setIfInBounds t a) ts)=(ps.zip us).foldl (λtmps (t,a)=>tmps.setIfInBounds t a) ts:=by simp[List.zip_toArray]
  simp only[aCG,ayT,pH hh,ayM,bo,ne_eq,not_true_eq_false,if_false,ay9,hz]
 rw[hr,hy,Oper.uponIn_round];refine⟨hF.depth,roundIn_of_wpIn (hF.fn f') ?_⟩;rw[hF.inRound];refine h w.heap.size (azk.inRound loc.b) ι {tmps:=_,defers:=[]} w _ (.inr ⟨nH,loc,rfl,afU,rfl⟩) hi (HO hE h2) zW.start λex e1 av hc=>?_;obtain⟨rfl,eG,f1,AV,Fk,Yl,Pp,Ym,tA,uI,aru⟩:=hc;intro a1 w1 bQ fC i1 l1 cS d1 p1;have om:=l1.ext _ _ _ afU;obtain⟨ld1,ts1,f1',Cg,xf,nq,rI⟩:=ko i1 uI om;obtain⟨i2,l2⟩:=AG (ro:=0) (dM:=.busy) (Ag:=ah) (f':=f1') i1 (azz _) uI om Cg nq;refine⟨_,by simp only[Instr.beginRound,ayT,pH xf,ayM,gC (P:=P) xf aw,ay9];rfl,?_⟩;refine aru w.heap.size (azk.inRound loc.b) bQ a1 _ _ (.inr ⟨nH,loc,rfl,om,rfl⟩) i2 cS (d1.step i1 l2) λex e2 cO hc=>?_;obtain⟨hnp,A7,s3,p3,f3,Kr,DQ,vb,GH,vc,nU,A6,afV⟩:=hc;intro a2 w2 sY ch2 i3 l3 e2' d2 p2;refine HP (by simp[hnp]) ?_;have gb:=l3.ext _ _ _ om;obtain⟨ld2,ts2,f2',Ks,va,Ch,ek⟩:=ko i3 A6 gb;obtain⟨i4,l4⟩:=AG (ro:=0) (dM:=if(fV ex).isNone then .ready else .done) (Ag:=fV ex) (f':=f2') i3 (azz _) A6 gb Ks Ch;have Ci:=Le.then i2 A7 l3 l4;have tQ:=Le.then i1 (by simp only[St.qK];exact eG) l2 Ci;have l04:=Le.then hi eG l1 tQ;refine⟨.bool (fV ex).isNone,_,by simp only[Instr.endRound,ayT,pH va,ayM,gC (P:=P) va aw,ay9];rfl,?_⟩;exact afV B F sY _ _ Q (k+1) hl (hF.mono l04.ext) i4 ((he.mono l04.ext).put (.raw _) _) (by have:=hd.step hi l04;cases o.dst<;>exact this) (λex e' au hc=>(hQ ex e' au hc).from hi l04 (by simp only[St.qK];exact A7))
end
section
variable{Cx:Cs}
variable{P:Program}{N:Nat}{σ au:St}{R R':Rs}{φ aV:Ph}{E:Nat->Env}{ν:List IV}{ro:Nat}{ι:Io}{w:World}{cfg:fe}{self:nW}
variable{C:Cr}{Q:IV->Prop}{K:List (List IV->Prop)}{V:SS}{d f0:Nat}{o:Oper}{k:PV SE->SS->aq}{L:List (LO SE)}{Γ:Gm SE}{rd:Option Nat}{df:List Df}
variable{kx:Kx}{sk:List Nat}{ops:Array Oper}{l:List Oper}{kk:SS->aq}{CX:Nat->lz}
def J.aaX(hJ:J Cx (ay P ν) R φ Γ L E σ){j nH c st dM f:Nat}{sn xi:List (Nat×PV SE)}{rc:ahz}{tm:T IV}{s:LoopState}{p:Option Code}{ga:Nat}(kh:φ j=aa nH)(hj:L[j]?=aa (.lp c st sn))(hR:R nH=ah)
 (hc:dM<2->Cx[c]?=aa rc)(hl:ZU dM s p)(zV:∀q∈xi,q.2.rN=ab/\VR (ay P ν) R φ L σ ((⟨rc.n,tm⟩:Env).at q.1) q.2):
 J Cx (ay P ν) R φ Γ (L.set j (.lp c dM xi)) E (σ.put nH (.loop s p f tm rc.n rc.ps rc.gL rc.bd ga))/\
 lj (ay P ν) (ay P ν) R φ L σ R φ (L.set j (.lp c dM xi)) (σ.put nH (.loop s p f tm rc.n rc.ps rc.gL rc.bd ga)) (λ_=>False):=by
 obtain⟨h1,h2⟩:=hJ.tU (R':=R) (bad:=λ_=>False) (kK:=.lp c dM xi) (fB:=.loop s p f tm rc.n rc.ps rc.gL rc.bd ga) kh hj (λ_ _=>rfl)
  (λm hm=>by rw[hR]at hm;cases hm) (λm _ _ _ hm=>by rw[hR]at hm;cases hm) (λm _ _ _ hm=>by rw[hR]at hm;cases hm)
  (λ_ h=>by cases h) (λ_ _ h=>by cases h) (λ_ _ _ _ _ h=>by cases h) (λ_ _ pv _=>pv.a_) (λ_ o _ _=>o.a_)
  (λgy=>⟨nH,rc,tm,ga,s,p,f,kh,hR,hc,by rw[St.dt,if_pos rfl],hl,λq hq=>⟨(zV q hq).1,(zV q hq).2.step gy (PV.a_ _)⟩⟩)
  (λ_ _ _ _=>⟨c,dM,xi,rfl⟩)
 exact⟨h2,h1⟩
theorem NA{d d' t:Nat}{pv:PV SE}:∀{sn:List (Nat×PV SE)},cz d' t (MV d sn)=aa pv->d'=d/\(t,pv)∈sn
 |[],h=>by cases h
 |q::sn,h=>by
  rcases ml (show cz d' t ((d,q.1,q.2)::MV d sn)=aa pv from h)with⟨rfl,rfl,rfl⟩|⟨_,h2⟩
  .simp
  .have⟨h3,h4⟩:=NA h2
   grind
theorem U7{D:Nat}:∀{ps:List Tmp} {args:List IV} {dq:List (PV SE)} {Γ:Gm SE} {e0:Env},J Cx (ay P ν) R φ Γ L (ly E D e0) σ->All2 (VR (ay P ν) R φ L σ) args dq->(∀p∈ps,p<e0.n)->
 J Cx (ay P ν) R φ (JD D ps dq Γ) L (ly E D ((ps.zip args).foldl (λe (p,v)=>e.put (aa p) v) e0)) σ/\((ps.zip args).foldl (λe (p,v)=>e.put (aa p) v) e0).n=e0.n
 |[],_,_,_,_,h,_,_=>⟨by simpa[JD]using h,rfl⟩
 |p::ps,[],[],_,_,h,_,_=>⟨by simpa[JD]using h,rfl⟩
 |p::ps,a::args,v::dq,Γ,e0,h,ha,hp=>by
  have h1:=h.put D (t:=p) (x:=a) (pv:=v) (by rw[bO];exact hp p aw) ha.1;rw[bO,acg]at h1;have⟨h2,h3⟩:=U7 (ps:=ps) h1 ha.2 (λq hq=>by rw[fj];exact hp q (by simp[hq]));exact⟨h2,by simp only[List.zip_cons_cons,azo];rw[h3,fj]⟩
 |p::ps,[],_::_,_,_,_,h,_=>h.elim
 |p::ps,_::_,[],_,_,_,h,_=>h.elim
def ajV{pv:PV SE}{j:Nat}(h:Uj pv j=ab):pv=.one (.yl j):=by
 unfold Uj at h;split at h
 all_goals simp_all
def acT(bN:oQ Cx P C Q self)(ih:EV Cx P C Q cfg self kx d f0 ops rd df kk CX sk l)(hJ:J Cx (ay P ν) R φ V.g V.l E σ)(hn:ν.length=V.n)(hK:K.length=V.lv)(bV:(E d).n=V.nt)
 (hd:∀t,o.dst=aa t->t<(E d).n)(oA:∀x,lA ((E d).put o.dst x) sk)(dJ:KS Cx P C Q d E K ν V.nt kk (λN e σ=>CX N .normal e σ))(gY:KP Cx P C Q d E K ν V.nt kx (λN v e σ=>CX N (.cg v) e σ))(hw:aY o ops (E d)=ab)
 {c:Call}{fo:Operand}{j:Nat}(ho:o.op=.call c)(hc:c.callee=.value fo)(hf:bP P d V 0 fo=.one (.yl j))
 (hs:(Uk P self Cx d f0 o.dst fo j (kz P d V c.args.toList c.argTypes.toList) V λpv V=>gP P cfg self kx Cx d f0 af ops sk l (V.b_ d o.dst pv) kk).sat P C Q K ν):
 ∃b,∀N,b<=N->dK P N rd ops (o::l) (E d) df σ (CX N):=by
 have tc:=bw hJ d 0 fo;rw[hf]at tc;have⟨nH,_,_,_,p1,_,p3⟩:=tc
 have link:∀{V':SS} {ν':List IV} {R':Rs} {aV:Ph} {E':Nat->Env} {au:St},J Cx (ay P ν') R' aV V'.g V'.l E' au->E' d=E d->Uj (bP P d V' 0 fo) j=ab->aV j=aa nH:=by
  intro V' ν' R' aV E' au KJ m9 hy;have hv:=bw KJ d 0 fo;rw[ajV hy]at hv;have⟨id,_,_,_,a1,_,a3⟩:=hv;rw[m9,p3]at a3;cases a3;exact a1
 unfold Uk at hs;split at hs<;>try cases hs
 rename_i c0 sn hj;split at hs<;>try cases hs
 rename_i rc Er;split at hs<;>try cases hs
 rename_i cH;simp only[ayI,azv,ayY]at cH;have⟨hlen,ou⟩:=cH;have⟨id,rc',tm,ga,s,p,f,q1,q2,q3,q4,q5,q6⟩:=hJ.obj j _ hj;rw[p1]at q1;cases q1;have amk:=q3 aj;rw[Er]at amk;cases amk;obtain⟨rfl,rfl⟩:=q5;have bF:=js hJ d c.args.toList c.argTypes.toList;have ef:(c.args.toList.map (aD (E d))).length=rc.ps.length:=by rw[bF.len];exact hlen
 have fD:aA P 0 (aD (E d)) o σ=aa (.round nH (c.args.toList.map (aD (E d)))):=by
  simp only[aA,ho,hc];rw[p3];rfl
 have mJ:J Cx (ay P ν) R φ (MV (d+1) sn++eM (d+1) V.g) V.l (ly E (d+1) ⟨rc.n,tm⟩) σ:=by
  refine{hJ with slot:=λd' t pv hg=>?_};rcases D5 hg with hg|hg
  .obtain⟨rfl,h2⟩:=NA hg;rw[bO];exact(q6 _ h2).2
  .have⟨h1,h2⟩:=pU hg;rw[e_ _ _ _ h1];exact hJ.slot d' t pv h2
 obtain⟨bE,eG⟩:=U7 mJ bF (λq hq=>by have:=ou q hq;simpa using this)
 obtain⟨b,hb⟩:=bN ab (d+1) _ rc.gL {V with g:=JD (d+1) rc.ps (kz P d V c.args.toList c.argTypes.toList) (MV (d+1) sn++eM (d+1) V.g),nt:=rc.n} _ ν K R φ _ σ
  (λN ex e1 av=>ex=.normal/\av.n<=N/\∃f1 AV Fk Yl Pp Ym tA,av.at nH=aa (.loop .ready ah f1 AV Fk Yl Pp Ym tA)/\
   cY P N (aa nH) rc.bd e1 [] (av.put nH (.loop .busy ah f1 AV Fk Yl Pp Ym tA)) (λex e2 cO=>ex.Fj=af/\cO.n<=N/\∃s3 p3 f3 Kr DQ vb GH vc nU,cO.at nH=aa (.loop s3 p3 f3 Kr DQ vb GH vc nU)/\
    dK P N rd ops l ((E d).put o.dst (.bool (fV ex).isNone)) df (cO.put nH (.loop (if(fV ex).isNone then .ready else .done) (fV ex) f3 Kr DQ vb GH vc nU)) (CX N)))
  (aa nH) [] aw hs bE hn hK (by rw[bO,eG]) (by
   intro ex V' μ K' R' aV E' au x hF hx bu;dsimp only at bu;split at bu<;>first|(cases bu)|skip
   rename_i c1 sn1 hj1;split at bu<;>first|(cases bu)|skip
   rename_i ow;simp only[ayI,azv]at ow;obtain⟨rfl,Nb⟩:=ow;obtain rfl:=hx;have aml:E' d=E d:=by rw[hF.hE d aj,e_ _ _ _ aj]
   have r0:=link hF.hJ aml Nb;have⟨id1,KQ,AV,tA,s1,p1',f1,r1,r2,r3,r4,r5,r6⟩:=hF.hJ.obj j _ hj1;rw[r0]at r1;cases r1;have amm:=r3 aj;rw[Er]at amm;cases amm;obtain⟨rfl,rfl⟩:=r5;obtain⟨fq,_⟩:=hF.hJ.aaX (dM:=1) (f:=f1) (ga:=tA) (s:=.busy) (p:=ah) r0 hj1 r2 (λ_=>Er) ⟨rfl,rfl⟩ r6
   obtain⟨b2,dw⟩:=bN ab (d+1) _ rc.bd {V' with l:=V'.l.set j (.lp c0 1 sn1)} _ (ν++μ) K' R' aV E' _
    (λN ex e2 cO=>ex.Fj=af/\cO.n<=N/\∃s3 p3 f3 Kr DQ vb GH vc nU,cO.at nH=aa (.loop s3 p3 f3 Kr DQ vb GH vc nU)/\
     dK P N rd ops l ((E d).put o.dst (.bool (fV ex).isNone)) df (cO.put nH (.loop (if(fV ex).isNone then .ready else .done) (fV ex) f3 Kr DQ vb GH vc nU)) (CX N))
    (aa nH) [] aw bu fq hF.hn hF.gh (by rw[hF.Hq,bO,eG,hF.bV]) (by
     intro Yo V2 μ2 K2 R2 Di E2 cO x2 KR s5 gX;dsimp only at gX;split at gX<;>try cases gX
     rename_i c2 sn2 Ce;split at gX<;>try cases gX
     rename_i amn;simp only[ayI,azv]at amn;obtain⟨rfl,avc⟩:=amn;have amo:E2 d=E d:=by rw[KR.hE d aj,aml]
     have t0:=link KR.hJ amo avc;have⟨T6,rc2,tm2,U8,s2,p2,f2,t1,t2,t3,t4,t5,t6⟩:=KR.hJ.obj j _ Ce;rw[t0]at t1;cases t1;have amp:=t3 aj;rw[Er]at amp;cases amp
     have fin:∀(dM:Nat) (xi:List (Nat×PV SE)) (b0:Bool) (jp:Option Code),(∀q∈xi,q∈sn2)->ZU dM (if jp.isNone then .ready else .done) jp->jp.isNone=b0->
      (gP P cfg self kx Cx d f0 af ops sk l (SS.b_ {V2 with g:=eM (d+1) V2.g,nt:=V.nt,l:=V2.l.set j (.lp c0 dM xi)} d o.dst (.one (.v (.b b0)))) kk).sat P C Q K2 (ν++μ++μ2)->
      ∃b,∀N,b<=N->dK P N rd ops l ((E d).put o.dst (.bool b0)) df (cO.put nH (.loop (if jp.isNone then .ready else .done) jp f2 tm2 rc.n rc.ps rc.gL rc.bd U8)) (CX N):=by
      intro dM xi b0 jp ic HW hb0 me;have⟨wI,_⟩:=KR.hJ.aaX (dM:=dM) (xi:=xi) (f:=f2) (ga:=U8) t0 Ce t2 (λ_=>Er) HW (λq hq=>t6 q (ic q hq));have hJ4:=vo (V:={V2 with l:=V2.l.set j (.lp c0 dM xi)}) wI (d+1)
      have:=ig (V1:={V2 with g:=eM (d+1) V2.g,nt:=V.nt,l:=V2.l.set j (.lp c0 dM xi)}) (μ:=μ++μ2) (K1:=K2) (R1:=R2) (ew:=Di) (E1:=E2) (x:=.bool b0) (pv:=.one (.v (.b b0))) ih oA hd bV dJ gY
       (by rw[<-ay3];exact hJ4) (by rw[<-ay3];exact KR.hn) (hF.hK.trans KR.hK) KR.gh rfl (λi hi=>by rw[KR.hE i aj,hF.hE i aj,e_ _ _ _ aj]) amo
       ⟨.raw (.bool b0),rfl,.raw _,rfl⟩ (by rw[<-ay3];exact me)
      exact this
     cases Yo with
     |cg t pv=>cases gX
     |normal=>
      obtain rfl:=s5;obtain⟨b3,dQ⟩:=fin 0 sn2 ab ah (λq hq=>hq) ⟨rfl,rfl⟩ rfl gX;exact⟨max b3 cO.n,λN hN=>⟨by omega,rfl,by omega,s2,p2,f2,tm2,_,_,_,_,U8,t4,dQ N aj⟩⟩
     |ret=>
      obtain rfl:=s5;obtain⟨b3,dQ⟩:=fin 2 [] af (aa .ret) (λq hq=>by cases hq) ⟨by simp,rfl⟩ rfl gX;exact⟨max b3 cO.n,λN hN=>⟨by omega,rfl,by omega,s2,p2,f2,tm2,_,_,_,_,U8,t4,dQ N aj⟩⟩
     |exit i=>
      obtain rfl:=s5;obtain⟨b3,dQ⟩:=fin (i+4) [] af (aa (.exit i)) (λq hq=>by cases hq) ⟨by simp,rfl⟩ rfl gX;exact⟨max b3 cO.n,λN hN=>⟨by omega,rfl,by omega,s2,p2,f2,tm2,_,_,_,_,U8,t4,dQ N aj⟩⟩)
   exact⟨max b2 au.n,λN hN=>⟨by omega,rfl,by omega,f1,AV,_,_,_,_,tA,r4,dw N aj⟩⟩)
 refine⟨b,λN hN=>?_⟩;have:=hb N hN;rw[bO]at this;exact .round hw fD q4 ef this
theorem J.skip(hJ:J Cx (ay P ν) R φ Γ L E σ):J Cx (ay P ν) R φ Γ L E σ.skip:=by
 have hg:jg R σ R σ.skip:=⟨λ_ m h=>⟨m,h,ayL _⟩,λid m cs aE mn _ aT=>⟨cs,aE,aT,ayL _,λ_ _=>rfl⟩,hJ.fits⟩;have hs:lj (ay P ν) (ay P ν) R φ L σ R φ L σ.skip (λ_=>False):=.mk' (λ_ _ h=>h) hg (λk cs hk=>⟨⟨cs,hk⟩,rfl⟩) (λk kt es hk=>⟨⟨es,hk⟩,rfl⟩) (λk s st cut fr z hk _=>⟨⟨st,hk⟩,rfl,λ_ _=>rfl⟩) (λk c st snap hk=>⟨⟨c,st,snap,hk⟩,rfl⟩)
 exact⟨λd t pv hg=>(hJ.slot d t pv hg).step hs pv.a_,λk o hk=>(hJ.obj k o hk).step hs rfl (λ_ _=>⟨rfl,rfl⟩) o.a_,hJ.inj,λk id hk=>⟨(hJ.lt k id hk).1,aDj (hJ.lt k id hk).2⟩,
  λid m h=>aDj (hJ.qS id m h),hJ.fits,hJ.wf,λid hid=>hJ.top id (Nat.le_of_succ_le hid)⟩
def J.cx(hJ:J Cx (ay P ν) R φ Γ L E σ){Cx':Cs}(h:∀(k c st:Nat) (sn:List (Nat×PV SE)),L[k]?=aa (LO.lp c st sn)->st<2->∀rc,Cx[c]?=aa rc->Cx'[c]?=aa rc):J Cx' (ay P ν) R φ Γ L E σ:=by
 refine{hJ with obj:=λk o hk=>?_};have ho:=hJ.obj k o hk;cases o with
 |lp c st sn=>
  have⟨id,rc,tm,ga,s,p,f,q1,q2,q3,q4,q5,q6⟩:=ho;exact⟨id,rc,tm,ga,s,p,f,q1,q2,λbL=>h k c st sn hk bL rc (q3 bL),q4,q5,q6⟩
 |_=>exact ho
def acU{q:Nat×PV SE}(h:q∈qj d V):cz d q.1 V.g=aa q.2/\q.2.rN=ab:=by
 grind [qj]
theorem U9{c j:Nat}:∀{L:List (LO SE)} {k0:Nat},CJ c j k0 L=ab->∀{k c' st:Nat} {sn:List (Nat×PV SE)},L[k]?=aa (.lp c' st sn)->k0+k≠j->st<2->c'<c
 |[],_,_,k,_,_,_,h,_,_=>by grind
 |o::L,k0,hl,k,c',st,sn,h,hj,bL=>by
  cases k with
  |zero=>
   simp at h;subst h;simp only[CJ,ayI,azp,azv,aAb]at hl;rcases hl.1 with(h1|h1)|h1
   .omega
   .omega
   simp_all
  |succ k=>
   have cJ:CJ c j (k0+1) L=ab:=by
    cases o<;>simp only[CJ]at hl<;>first|omega|grind
   exact U9 cJ (by assumption) aj bL
def acV{jk:Cs->nW}(NB:∀Cx,oQ Cx P C Q (jk Cx))(hJ:J Cx (ay P ν) R φ V.g V.l E σ)(hn:ν.length=V.n)(hK:K.length=V.lv)(bV:(E d).n=V.nt){k:zf->SS->aq}{CW:Nat->lz}(jU:KW Cx P C Q d E K ν V.nt k CW)
 {g:Operand}{params:Array Tmp}{assign body:Code}{F:FuncId}{bs:List (Nat×Nat)}{f1:Nat}(hg:bP P d V 0 g=.one (.fn F bs))
 (hs:(o5 P cfg (jk (Cx++[⟨params.toList,assign,body,V.nt⟩])) (λ_ _ _=>.fail 135) (d+1) f1 ah F (.one (.yl V.l.length)::bs.map λ(k,ext)=>.one (.pt k 0 ext))
    {V with g:=(d+1,0,.one (.yl V.l.length))::eM (d+1) V.g,l:=V.l++[.lp Cx.length 0 (qj d V)],nt:=1} λ_ W=>match cz (d+1) 0 W.g,W.l[V.l.length]? with
     |some (.one (.yl j)),aa (.lp c' st _)=>if ayQ j V.l.length&&ayQ c' Cx.length&&CJ Cx.length V.l.length 0 W.l then alW V.l.length Cx.length st {W with g:=eM (d+1) W.g,nt:=V.nt} k else .fail 137
     |_,_=>.fail 137).sat P C Q K ν):
 ∃b,∀N,b<=N->cY P N ah (.rangeFunc g params assign body) (E d) df σ (CW N):=by
 have dk:∃fn,P.funcs[F]?=aa fn/\fn.body.isSome=ab/\(fn.name != "runtime.NumGoroutine")=ab:=by
  unfold o5 at hs;split at hs<;>try cases hs
  split at hs<;>try cases hs
  split at hs<;>try cases hs
  split at hs<;>try cases hs
  grind
 have⟨fn,dk,hb,pT⟩:=dk
 have hJc:J (Cx++[⟨params.toList,assign,body,V.nt⟩]) (ay P ν) R φ V.g V.l E σ.skip:=hJ.skip.cx λk c st sn _ _ rc h=>by
  grind
 have cw:=EJ hJc (.loop .ready ah 0 (E d).t (E d).n params.toList assign body σ.n) (.lp Cx.length 0 (qj d V))
 have bE:=hJc.zB (.loop .ready ah 0 (E d).t (E d).n params.toList assign body σ.n) (.lp Cx.length 0 (qj d V))
  ⟨σ.skip.n,⟨params.toList,assign,body,V.nt⟩,(E d).t,σ.n,.ready,ah,0,by simp[bU],hJc.rP,λ_=>by simp,by simp_all,⟨rfl,rfl⟩,λq hq=>by
   have⟨h1,h2⟩:=acU hq;exact⟨h2,(hJc.slot d q.1 q.2 h1).step cw (PV.a_ _)⟩⟩
 have amq:=bw (V:={V with l:=V.l++[.lp Cx.length 0 (qj d V)]}) bE d 0 g;rw[show bP P d {V with l:=V.l++[.lp Cx.length 0 (qj d V)]} 0 g=.one (.fn F bs)from hg]at amq;have⟨ys,pI,vl⟩:=nG (args:=[.sX (σ.n+1)]) amq dk hb pT
 have Nb:VR (ay P ν) R (bU φ V.l.length σ.skip.n) (V.l++[.lp Cx.length 0 (qj d V)]) (σ.skip.add (.loop .ready ah 0 (E d).t (E d).n params.toList assign body σ.n)) (.sX (σ.n+1)) (.one (.yl V.l.length)):=
  ⟨σ.n+1,Cx.length,0,qj d V,by simp[bU],by simp,rfl⟩
 obtain⟨e1,nq⟩:∃e1,e1=(⟨1,.lf⟩:Env).put (aa 0) (.sX (σ.n+1)):=⟨_,rfl⟩;have avd:e1.at 0=.sX (σ.n+1):=by rw[nq];rfl
 have amj:e1.n=1:=by rw[nq];rfl
 have fq:J (Cx++[⟨params.toList,assign,body,V.nt⟩]) (ay P ν) R (bU φ V.l.length σ.skip.n) ((d+1,0,.one (.yl V.l.length))::eM (d+1) V.g) (V.l++[.lp Cx.length 0 (qj d V)]) (ly E (d+1) e1) (σ.skip.add (.loop .ready ah 0 (E d).t (E d).n params.toList assign body σ.n)):=by
  refine{bE with slot:=λd' t pv xm=>?_};rcases ml xm with⟨rfl,rfl,rfl⟩|⟨bA,xm⟩
  .simp_all
  .have⟨h1,h2⟩:=pU xm;rw[e_ _ _ _ h1];exact bE.slot d' t pv h2
 obtain⟨_,_,_,_,b,hcx⟩:=Aw (d:=d+1) (V:={V with g:=(d+1,0,.one (.yl V.l.length))::eM (d+1) V.g,l:=V.l++[.lp Cx.length 0 (qj d V)],nt:=1}) (E:=ly E (d+1) e1) (args:=.sX (σ.n+1)::ys) (dq:=.one (.yl V.l.length)::bs.map λ(p:Nat×Nat)=>.one (.pt p.1 0 p.2))
  (RW:=λN _ mh=>mh.n<=N/\∃s p f3 tm mb vb Ku vc nU,mh.at (σ.n+1)=aa (.loop s p f3 tm mb vb Ku vc nU)/\s≠.busy/\
   ∃ex:Ex,ex.Fj=af/\(∀t,ex≠.goto t)/\fV ex=p/\CW N ex (E d) (mh.put (σ.n+1) (.loop .exhausted p f3 tm mb vb Ku vc nU)))
  (PW:=λ_ _ _=>False) (NB _) fq hn hK yO ⟨Nb,vl⟩ hs (by
   intro pv V' μ K' R' aV E' au v hF m9 hv bu;split at bu<;>try contradiction
   rename_i j1 c1 pA sn1 hg1 om;split at bu<;>try contradiction
   rename_i ow;simp only[ayI,azv]at ow;obtain⟨⟨rfl,rfl⟩,ae7⟩:=ow;have Km:=hF.hJ.slot (d+1) 0 _ hg1;have⟨sZ,_,_,_,a1,_,a3⟩:=Km;rw[m9,bO,avd]at a3;cases a3;have⟨id,KQ,AV,tA,s1,p1,f1,r1,r2,r3,r4,r5,r6⟩:=hF.hJ.obj _ _ om;rw[a1]at r1;cases r1;have zK:E' d=E d:=by rw[hF.hE d aj,e_ _ _ _ aj]
   have fin:∀(dM:Nat) (Yo:zf) (ex:Ex),2<=dM->ZU dM .exhausted p1->(∀(R:Rs) φ L σ,XR P (ν++μ) R φ L σ Yo ex)->
    (k Yo {V' with g:=eM (d+1) V'.g,nt:=V.nt,l:=V'.l.set V.l.length (.lp Cx.length dM [])}).sat P C Q K' (ν++μ)->
    ∃b,∀N,b<=N->au.n<=N/\CW N ex (E d) (au.put (σ.n+1) (.loop .exhausted p1 f1 AV KQ.n KQ.ps KQ.gL KQ.bd tA)):=by
    intro dM Yo ex bL HW hxr me;have⟨wI,_⟩:=hF.hJ.aaX (dM:=dM) (xi:=[]) (rc:=KQ) (tm:=AV) (f:=f1) (ga:=tA) (s:=.exhausted) (p:=p1) a1 om r2 (λh=>by omega) HW (λq hq=>by grind)
    have hJ4:J Cx (ay P (ν++μ)) R' aV V'.g (V'.l.set V.l.length (.lp Cx.length dM [])) E' (au.put (σ.n+1) (.loop .exhausted p1 f1 AV KQ.n KQ.ps KQ.gL KQ.bd tA)):=wI.cx λk2 c st sn oU ave rc Er=>by
     rw[aC6]at oU;split at oU<;>try grind
     have ak:=U9 ae7 oU aj ave
     grind
    have hJ5:=vo (V:={V' with l:=V'.l.set V.l.length (.lp Cx.length dM [])}) hJ4 (d+1)
    obtain⟨b,hb⟩:=jU Yo {V' with g:=eM (d+1) V'.g,nt:=V.nt,l:=V'.l.set V.l.length (.lp Cx.length dM [])} μ K' R' aV E' _ ex
     ⟨hF.hK,hF.gh,rfl,hJ5,hF.hn,λi hi=>by rw[hF.hE i aj,e_ _ _ _ aj],by grind⟩ (hxr _ _ _ _) me
    refine⟨b,λN hN=>⟨(hb N hN).1,?_⟩⟩
    grind
   rcases pA with _|_|_|_|i
   .obtain⟨rfl,rfl⟩:=r5;obtain⟨b,hb⟩:=fin 3 .normal .normal aj ⟨by simp,rfl⟩ (λ_ _ _ _=>rfl) bu;exact⟨b,λN hN=>⟨(hb N hN).1,(hb N hN).1,_,_,_,_,_,_,_,_,_,r4,by simp,.normal,rfl,by simp,rfl,(hb N hN).2⟩⟩
   .cases bu
   .obtain⟨cd,rfl⟩:=r5;obtain⟨b,hb⟩:=fin 2 .ret .ret aj ⟨by simp,rfl⟩ (λ_ _ _ _=>rfl) bu;exact⟨b,λN hN=>⟨(hb N hN).1,(hb N hN).1,_,_,_,_,_,_,_,_,_,r4,cd,.ret,rfl,by simp,rfl,(hb N hN).2⟩⟩
   .cases bu
   .obtain⟨cd,rfl⟩:=r5;obtain⟨b,hb⟩:=fin (i+4) (.exit i) (.exit i) aj ⟨by simp,rfl⟩ (λ_ _ _ _=>rfl) bu;exact⟨b,λN hN=>⟨(hb N hN).1,(hb N hN).1,_,_,_,_,_,_,_,_,_,r4,cd,.exit i,rfl,by simp,rfl,(hb N hN).2⟩⟩) (by
   intro t pv V' μ K' R' aV E' au v hF m9 hv bu;cases bu)
 refine⟨max b (σ.n+2),λN hN=>.range (f:=F) (args:=.sX (σ.n+1)::ys) ?_ aj ((hcx N aj).toW λ_ _ h=>h) λv mh h=>h⟩
 grind
def l8{V V1:SS}(h:V1.ln=V.ln):V1.lv=V.lv/\V1.nt=V.nt:=by
 simp_all[SS.ln]
def acW(hC:mK P C)(bN:oQ Cx P C Q self)(ih:EV Cx P C Q cfg self kx d f0 ops rd df kk CX sk l)(hJ:J Cx (ay P ν) R φ V.g V.l E σ)(hn:ν.length=V.n)(hK:K.length=V.lv)(bV:(E d).n=V.nt)
 (hd:∀t,o.dst=aa t->t<(E d).n)(oA:∀x,lA ((E d).put o.dst x) sk)(dJ:KS Cx P C Q d E K ν V.nt kk (λN e σ=>CX N .normal e σ))(gY:KP Cx P C Q d E K ν V.nt kx (λN v e σ=>CX N (.cg v) e σ))(hw:aY o ops (E d)=ab)
 (hs:(MW P cfg self kx Cx d f0 af o V λpv V=>gP P cfg self kx Cx d f0 af ops sk l (V.b_ d o.dst pv) kk).sat P C Q K ν):
 ∃b,∀N,b<=N->dK P N rd ops (o::l) (E d) df σ (CX N):=by
 have arv:(gN P d o V λpv V=>gP P cfg self kx Cx d f0 af ops sk l (V.b_ d o.dst pv) kk).sat P C Q K ν->∃b,∀N,b<=N->dK P N rd ops (o::l) (E d) df σ (CX N):=by
  intro hs;have⟨x,av,R1,ew,pv,V1,μ,h1,h2,h3,h4,h5,h6⟩:=acI hJ hn hs;obtain⟨b,hb⟩:=ig ih oA hd bV dJ gY h2 h4 (azC K) (by rw[(l8 h5).1];omega) (l8 h5).2 (λ_ _=>rfl) rfl h3 h6;exact⟨max b av.n,λN hN=>.val hw h1 aj (hb N aj)⟩
 unfold MW at hs;split at hs
 .rename_i c ho;unfold aai at hs;split at hs
  .simp_all
  .rename_i f hc;split at hs
   rotate_left
   .rename_i j hf;exact acT bN ih hJ hn hK bV hd oA dJ gY hw ho hc hf hs
   .cases hs
   rename_i g bs hf;simp only at hs;split at hs
   .rename_i t cf xj je;obtain⟨rfl,s_,_⟩:=Nw je;split at hs<;>try cases hs
    rename_i fn dk;split at hs<;>try exact hs.elim
    rename_i cH;simp only[ayI]at cH;have tc:=bw hJ d 0 f;rw[hf]at tc;have bF:=js hJ d c.args.toList c.argTypes.toList;have⟨ys,pI,vl⟩:=nG (args:=c.args.toList.map (aD (E d))) tc dk cH.1.2 cH.2
    have LL:ys=[]:=by
     cases ys with
     |nil=>rfl
     |cons=>cases vl
    subst LL;rw[ay2]at pI
    have fD:aA P 0 (aD (E d)) o σ=aa (.enter g (c.args.toList.map (aD (E d)))):=by
     simp_all[aA]
    rw[s_]at bF
    obtain⟨cl,jy,avf⟩:∃cl,c.args.toList.map (aD (E d))=[cl]/\VR (ay P ν) R φ V.l σ cl (.one (.fn cf xj)):=by
     generalize c.args.toList.map (aD (E d))=l at bF
     match l,bF with
     |[cl],bF=>exact⟨cl,rfl,bF.1⟩
    have⟨b,hb⟩:=Ri (RW:=λN v av=>av.n<=N/\dK P N rd ops l ((E d).put o.dst v) df av (CX N)) hC bN hJ hn hK bV (azx.1 dk).1 avf hs (by
     intro pv V' μ K' R' aV E' au v hF m9 hv bu;have⟨b,hb⟩:=ig ih oA hd bV dJ gY hF.hJ hF.hn hF.hK hF.gh hF.bV hF.hE m9 hv bu;exact⟨max b au.n,λN hN=>⟨by omega,by omega,hb N aj⟩⟩)
    rw[jy]at fD;exact⟨b,λN hN=>.call hw fD (hb N hN) λv av hv=>hv⟩
   split at hs
   .rename_i hp;simp only[ayI,aAg]at hp;have jR:=hp.1;subst jR
    have qc:∃(args:List IV) (v:IV) (av:St) (R1:Rs) (ew:Ph) (pv:PV SE) (V1:SS) (μ:List IV),aA P 0 (aD (E d)) o σ=aa (.enter g args)/\(∀ro,lN P ro g args σ v av)/\(av=σ\/∃ob,av=σ.add ob)/\J Cx (ay P (ν++μ)) R1 ew V1.g V1.l E av/\VR (ay P (ν++μ)) R1 ew V1.l av v pv/\(ν++μ).length=V1.n/\V1.ln=V.ln/\
     (gP P cfg self kx Cx d f0 af ops sk l (V1.b_ d o.dst pv) kk).sat P C Q K (ν++μ):=by
     exact Rg hC hJ hn ho hc hf hs
    have⟨args,v,av,R1,ew,pv,V1,μ,fD,xk,_,g1,g2,g3,g4,g5⟩:=qc;obtain⟨b,hb⟩:=ig ih oA hd bV dJ gY g1 g3 (azC K) (by rw[(l8 g4).1];omega) (l8 g4).2 (λ_ _=>rfl) rfl g2 g5;exact⟨max b av.n,λN hN=>.call hw fD (fc.ofS (xk 0) aj) λv1 cO hv=>by grind⟩
   split at hs
   .rename_i hp;simp only[ayI,aAg]at hp;have jR:=hp.1;subst jR;split at hs<;>try cases hs
    rename_i fn dk;split at hs<;>try cases hs
    rename_i cH;simp only[ayI]at cH;have tc:=bw hJ d 0 f;rw[hf]at tc;have bF:=js hJ d c.args.toList c.argTypes.toList;have⟨ys,pI,vl⟩:=nG (args:=c.args.toList.map (aD (E d))) tc dk cH.1.2 cH.2
    have LL:ys=[]:=by
     cases ys with
     |nil=>rfl
     |cons=>cases vl
    subst LL;rw[ay2]at pI
    have fD:aA P 0 (aD (E d)) o σ=aa (.enter g (c.args.toList.map (aD (E d)))):=by
     simp_all[aA]
    obtain⟨b,hb⟩:=ajS (KW:=λN v av=>av.n<=N/\dK P N rd ops l ((E d).put o.dst v) df av (CX N)) hC hJ hn bF hs (by
     intro V1 μ R1 ew av x pv h2 h4 hlen h5 hx h6;obtain⟨b,hb⟩:=ig ih oA hd bV dJ gY h2 hlen (azC K) (by rw[(l8 h5).1];omega) (l8 h5).2 (λ_ _=>rfl) rfl hx h6;exact⟨max b av.n,λN hN=>⟨by omega,hb N aj⟩⟩)
    exact⟨b,λN hN=>.call hw fD (hb N hN) λv av hv=>hv⟩
   split at hs
   .rename_i hp;simp only[ayI,aAg]at hp;have jR:=hp.1;subst jR;split at hs<;>try cases hs
    rename_i zs V' fn hr dk;split at hs<;>try exact hs.elim
    rename_i cH;simp only[ayI]at cH;have⟨g',args,z,R1,pv,V1,μ,h1,h2,h3,h4,h5,h6,h7⟩:=UW hC hJ hn ho hc hf hr dk cH.1.2 cH.2 cH.1.1 hs;obtain⟨b,hb⟩:=ig ih oA hd bV dJ gY h3 h5 (azC K) (by rw[(l8 h6).1];omega) (l8 h6).2 (λ_ _=>rfl) rfl h4 h7;refine⟨max b σ.n,λN hN=>.call hw h1 (fc.ofS (h2 0) aj) λv av hv=>?_⟩
    grind
   .split at hs<;>try grind
    have tc:=bw hJ d 0 f;rw[hf]at tc;have bF:=js hJ d c.args.toList c.argTypes.toList
    have dk:∃fn,P.funcs[g]?=aa fn/\fn.body.isSome=ab/\(fn.name != "runtime.NumGoroutine")=ab:=by
     unfold o5 at hs;split at hs<;>try cases hs
     split at hs<;>try cases hs
     split at hs<;>try cases hs
     split at hs<;>try cases hs
     grind
    have⟨fn,dk,hb,pT⟩:=dk;have⟨ys,pI,vl⟩:=nG (args:=c.args.toList.map (aD (E d))) tc dk hb pT
    have fD:aA P 0 (aD (E d)) o σ=aa (.enter g (c.args.toList.map (aD (E d))++ys)):=by
     simp_all[aA]
    have⟨_,_,_,_,b,U6⟩:=Aw (RW:=λN v av=>av.n<=N/\dK P N rd ops l ((E d).put o.dst v) df av (CX N)) (PW:=λN v av=>CX N (.cg v) (E d) av) bN hJ hn hK bV (bF.app vl) hs (by
     intro pv V' μ K' R' aV E' au v hF m9 hv bu;have⟨b,hb⟩:=ig ih oA hd bV dJ gY hF.hJ hF.hn hF.hK hF.gh hF.bV hF.hE m9 hv bu;exact⟨max b au.n,λN hN=>⟨by omega,by omega,hb N aj⟩⟩) (by
     intro t pv V' μ K' R' aV E' au v hF m9 hv bu;have⟨b,hb⟩:=gY t pv V' μ K' R' aV E' au v hF hv bu;exact⟨b,λN hN=>⟨(hb N hN).1,by grind⟩⟩)
    exact⟨b,λN hN=>.ZY hw fD (U6 N hN) (λv av hv=>hv) λv av hv=>hv⟩
  .cases hs
 simp_all
def U_{a:SE}{u x:IV}(h:Sx a=aa u)(hx:VR (ay P ν) R φ V.l σ x (.one (.v a))):x=u:=by
 unfold Sx at h;split at h<;>first|grind|skip<;>(cases h;have⟨y,h1,h2,_⟩:=hx;simp only[SE.den,ayO]at h1;subst h1;exact cD h2)
def afW(hJ:J Cx (ay P ν) R φ V.g V.l E σ){pv:PV SE}(h:Ul P d V o=aa pv):∃x,aA P 0 (aD (E d)) o σ=aa (.val x σ)/\VR (ay P ν) R φ V.l σ x pv:=by
 unfold Ul at h;split at h
 .rename_i op t x y yt ho;split at h<;>try grind
  rename_i a b ha hb;split at h<;>try grind
  rename_i u v hu hv;have hx:=bw hJ d t x;have hy:=bw hJ d t y;rw[ha]at hx;rw[hb]at hy;rw[ayR]at h;obtain⟨e,h1,rfl⟩:=h;rw[ay4]at h1;have⟨w,h2,h3⟩:=h1;refine⟨w,?_,?_⟩
  .simp only[aA,ho,U_ hu hx,U_ hv hy,h2,ret]
  .unfold ahF at h3
   repeat' split at h3<;>try grind
   all_goals (cases h3;exact⟨_,rfl,.raw _,rfl⟩)
 .rename_i t x ix ho;split at h<;>try grind
  rename_i n el cs z hu kY ct;split at h<;>try grind
  rename_i s ba bo Ux;split at h<;>try grind
  rename_i hc;have hx:=bw hJ d t x;have hi:=bw hJ d 0 ix;rw[kY]at hx;rw[ct]at hi;have cK:=U_ (a:=.i z) rfl hi;have⟨cW,Ho,bH⟩:=hx
  have⟨v,hv,hr⟩:=vi (pv:=pv) bo Ux bH hc.2.2 (by
   grind)
  refine⟨v,?_,hr⟩;simp only[aA,ho,hu,Ho,cK,bo];rw[if_pos ⟨hc.1,hc.2.1⟩,hv];rfl
 grind
def ajW(hJ:J Cx (ay P ν) R φ V.g V.l E σ){es:SE}{s:Nat}{c:Cl SE}(h:aaj P d V o=aa (es,s,c)){z:IV}(hz:(SE.sub s es (.len es) (.i 0)).den P ν=aa z):
 ∃x,aA P 0 (aD (E d)) o σ=aa (.val x σ)/\VR (ay P ν) R φ V.l σ x (.one c):=by
 unfold aaj at h;split at h<;>try (cases h;done)
 rename_i c0 ho;split at h<;>try (cases h;done)
 rename_i hc;have bF:=js hJ d c0.args.toList c0.argTypes.toList;split at h<;>try (cases h;done)
 rename_i base ca hh;rw[hh]at bF;have⟨x0,x1,hx,EE,wK⟩:=LD bF;split at h<;>try (cases h;done)
 rename_i t0 t1 X8 Q8;split at h<;>try (cases h;done)
 rename_i et et1 het afv;split at h<;>try (cases h;done)
 rename_i s' z' bytes bo wH KK;split at h<;>try (cases h;done)
 rename_i cH;simp only[azp,azY,not_or,Bool.not_eq_false]at cH;have⟨⟨cU,qP⟩,hc3⟩:=cH;have avg:=ay0 qP;have ayA:bytes<=1000000:=by simpa using hc3
 have cw:s'≠0:=λh=>by subst h;simp at cU
 split at h<;>try (cases h;done)
 rename_i fr aW raw b w UJ;cases h;simp only[SE.den,ay4]at hz;have⟨a1,m8,b1,⟨a2,amr,hlen⟩,h0⟩:=hz;rw[m8]at amr;cases amr
 have:a1=.tree s []:=by
  obtain⟨a,ha,h0⟩:=h0;cases ha;unfold H_ at hlen;split at hlen<;>try (cases hlen;done)
  cases hlen;simp only[nD,gW]at h0;split at h0<;>try cases h0
  rename_i hc;obtain⟨rfl,_,h1,_,_⟩:=hc;have:=List.eq_nil_of_length_eq_zero (by simpa using h1);rw[this]
 subst this;have bA:fM s []=ab:=rfl;have⟨g1,new,g2,g3,_,g5⟩:=Ig hJ UJ wK m8 aj bA (λ_=>⟨.tree s [],by simp[SE.den,m8]⟩);have m7:new=[]:=by simpa using g3
 subst m7;have⟨hw,tb⟩:=EE;refine⟨x0,?_,hw,tb⟩;have arw:fv 0 s 0 0 [] x0 σ=aa (.val x0 σ):=by subst tb;cases b<;>simp[fv,ret]
 have mc:qE x0=aa 0:=by subst tb;cases b<;>rfl
 simp only[aA,ho,hc,fw,hx,mw,X8,Q8,qA het,qA afv,bo,wH,KK,u5,g1,g2,mc];rw[if_neg (by rintro(h|h);exact cw h;exact h avg),if_pos ⟨by simp,by simp,by simp;omega,by simp⟩];exact arw
def acX{o:Oper}{j kt:Nat}{pz:TypeId}{es x:SE}(h:MX P d V o=aa (j,kt,pz,es,x)):
 ∃it,o.op=.next it af/\bP P d V 0 it=.one (.mp j)/\V.l[j]?=aa (.mp kt x)/\1000000<=kt/\V.l[kt % 1000000]?=aa (.mp pz es)/\¬oX pz=ab:=by
 unfold MX at h;split at h<;>try grind
 split at h<;>try grind
 split at h<;>try grind
 split at h<;>try grind
 split at h<;>try grind
 split at h<;>try grind
 simp_all
def acY(hJ:J Cx (ay P ν) R φ V.g V.l E σ)(hn:ν.length=V.n){j id kt m i:Nat}{x0:SE}{ds Va:List IV}{seen:List Nat}{y:IV}{ob:Ob}(hj:V.l[j]?=aa (.mp kt x0))(lu:1000000<=kt)(kh:φ j=aa id)(hR:R id=ah)
 (Nu:∃rO z',V.l[kt % 1000000]?=aa (.mp rO z'))(hm:φ (kt % 1000000)=aa m)(hs:∀s∈seen,s<ds.length)(hl:Left ds (seen++[i]) Va)(hy:ds[i]?=aa y)(aT:σ.at id=aa ob):
 J Cx (ay P (ν++[y,.aF [.aF ds,.aF Va,y]])) R φ V.g (V.l.set j (.mp kt (.var (V.n+1)))) E (σ.put id (.kV (aa m) ds.length (seen++[i]) ds.length)):=by
 have bE:=hJ.up (jz:=ay P (ν++[y,.aF [.aF ds,.aF Va,y]])) (λe y h=>SE.dI P e h)
 exact(bE.tU (R':=R) (bad:=λ_=>False) (kK:=.mp kt (.var (V.n+1))) (fB:=.kV (aa m) ds.length (seen++[i]) ds.length) kh hj (λ_ _=>rfl)
  (λm hm=>by rw[hR]at hm;cases hm) (λm _ _ _ hm=>by rw[hR]at hm;cases hm) (λm _ _ _ hm=>by rw[hR]at hm;cases hm)
  (λ_ h=>by cases h) (λ_ _ _=>by rename_i h;cases h;exact⟨_,rfl⟩) (λ_ _ _ _ _ h=>by cases h) (λ_ _ pv _=>pv.a_) (λ_ o _ _=>o.a_)
  (λgy=>by
   rw[lQ,if_pos (H4 lu)];refine .inr ⟨lu,id,m,ds,seen++[i],Va,[y],by simp[SE.den,<-hn],kh,hR,?_,hm,by rw[St.dt,if_pos rfl],λs bu=>?_,hl,.inr ⟨i,y,rfl,by simp,hy⟩⟩
   .have⟨rO,z',hz⟩:=Nu;rw[aC6];split<;>try exact⟨_,_,hz⟩
    have ak:=(ayH.1 hj).1;rw[if_pos ak];exact⟨_,_,rfl⟩
   .simp only[List.mem_append,List.mem_singleton]at bu;rcases bu with bu|rfl
    .exact hs s bu
    .exact(ayH.1 hy).1)).2
def afX(ih:EV Cx P C Q cfg self kx d f0 ops rd df kk CX sk l)(hJ:J Cx (ay P ν) R φ V.g V.l E σ)(hn:ν.length=V.n)(hK:K.length=V.lv)(bV:(E d).n=V.nt)
 (hd:∀t,o.dst=aa t->t<(E d).n)(oA:∀x,lA ((E d).put o.dst x) sk)(dJ:KS Cx P C Q d E K ν V.nt kk (λN e σ=>CX N .normal e σ))(gY:KP Cx P C Q d E K ν V.nt kx (λN v e σ=>CX N (.cg v) e σ))(hw:aY o ops (E d)=ab)
 {j kt:Nat}{pz:TypeId}{es x:SE}(hit:MX P d V o=aa (j,kt,pz,es,x))
 (hs:(aak P j kt pz es x V λpv V=>gP P cfg self kx Cx d f0 af ops sk l (V.b_ d o.dst pv) kk).sat P C Q K ν):
 ∃b,∀N,b<=N->dK P N rd ops (o::l) (E d) df σ (CX N):=by
 have⟨it,ho,hm,hj,lu,hjm,gu⟩:=acX hit;have r_:=bw hJ d 0 it;rw[hm]at r_;have⟨id,kt3,x3,g1,g2,g3⟩:=r_;rw[hj]at g2;cases g2;rw[if_pos (H4 lu)]at g3;have eW:=hJ.obj j _ hj;rw[lQ,if_pos (H4 lu)]at eW;rcases eW with⟨h0,_⟩|⟨_,bz,m,ds,seen,rem,rest,e1,e2,e3,e4,e5,e6,e7,e8,e9⟩
 .exact(aqn lu h0).elim
 rw[g1]at e2;cases e2;have cS:x.den P ν=aa (.aF (.aF ds::.aF rem::rest)):=e1;have UQ:=hJ.obj _ _ hjm;rw[lQ,if_neg gu]at UQ;have⟨T6,Rk,clock,TR,c1,c2,c3,c4,c5,c6⟩:=UQ;rw[e5]at c2;cases c2;have qn:=c1;unfold aak at hs;split at hs<;>try exact hs.elim
 have⟨qe,Va,d1,⟨r,d2⟩,AY,arx⟩:=hs;rw[cS]at d2;obtain⟨rfl,rfl,_⟩:=d2;simp only[qn,ayO,IV.aF.injEq]at d1;subst d1;have hlen:=All2.len c5
 obtain⟨B1,Vb⟩:∃b,∀N,b<=N->(∀i,i<Rk.length->i∈seen)->dK P N rd ops l ((E d).put o.dst (.aF [.bool af])) df σ (CX N):=by
  by_cases bX:∀i,i<Rk.length->i∈seen
  .obtain⟨b,hb⟩:=ig (V1:=V) (μ:=[]) (x:=.aF [.bool af]) (pv:=.tu [(af,[.v (.b af)])]) ih oA hd bV dJ gY (by rw[ay2];exact hJ) (by rw[ay2];exact hn) (azC K) hK rfl (λ_ _=>rfl) rfl
    (by rw[ay2];exact⟨_,rfl,⟨_,rfl,.raw (.bool af),rfl,.raw _,rfl⟩,trivial⟩) (by rw[ay2];exact AY (e8.empty λi hi=>bX i (by rw[hlen];exact hi)))
   exact⟨b,λN hN _=>hb N hN⟩
  .exact⟨0,λ_ _ h=>absurd h bX⟩
 obtain⟨B2,hB2⟩:=T8 (p:=λi N=>∀en,Rk[i]?=aa en->i∉seen->dK P N rd ops l ((E d).put o.dst (.aF [.bool ab,lift en.1,en.2.1])) df (σ.put id (.kV (aa m) Rk.length (seen++[i]) Rk.length)) (CX N)) Rk.length λi hi=>by
  by_cases oq:i∈seen
  .exact⟨0,λ_ _ _ _ h=>absurd oq h⟩
  have⟨q,y,hq,hy,hl⟩:=e8.has (by rw[<-hlen];exact hi) oq;have fq:=acY hJ hn hj lu g1 e3 e4 e5 e7 hl hy e6
  obtain⟨b,hb⟩:=ig (V1:={V with n:=V.n+2,l:=V.l.set j (.mp kt (.var (V.n+1)))}) (μ:=[y,.aF [.aF TR,.aF (rem.eraseIdx q),y]]) (x:=.aF [.bool ab,lift Rk[i].1,Rk[i].2.1]) (pv:=.tu [(af,[.v (.b ab)]),(af,[.un]),(af,[.un])]) ih oA hd bV dJ gY fq (by simp[hn]) (azC K) hK rfl (λ_ _=>rfl) rfl
   ⟨_,rfl,⟨_,rfl,.raw (.bool ab),rfl,.raw _,rfl⟩,⟨_,rfl,trivial⟩,⟨_,rfl,trivial⟩,trivial⟩ (arx q y hq)
  refine⟨b,λN hN en tP _=>?_⟩;rw[ayG hi]at tP;cases tP;rw[hlen];exact hb N hN
 refine⟨max σ.n (max B1 B2),λN hN=>.aqo hw ho g3 (by rw[hlen];exact e6) c4 c6 aj (Vb N aj) λi en tP oq=>hB2 i (ayH.1 tP).1 N aj en tP oq⟩
def afY(hC:mK P C)(bN:oQ Cx P C Q self)(ih:EV Cx P C Q cfg self kx d f0 ops rd df kk CX sk l)(hJ:J Cx (ay P ν) R φ V.g V.l E σ)(hn:ν.length=V.n)(hK:K.length=V.lv)(bV:(E d).n=V.nt)
 (hd:∀t,o.dst=aa t->t<(E d).n)(oA:∀x,lA ((E d).put o.dst x) sk)(dJ:KS Cx P C Q d E K ν V.nt kk (λN e σ=>CX N .normal e σ))(gY:KP Cx P C Q d E K ν V.nt kx (λN v e σ=>CX N (.cg v) e σ))(hw:aY o ops (E d)=ab)
 (hs:(FP P cfg self kx Cx d f0 af o V λpv V=>gP P cfg self kx Cx d f0 af ops sk l (V.b_ d o.dst pv) kk).sat P C Q K ν):
 ∃b,∀N,b<=N->dK P N rd ops (o::l) (E d) df σ (CX N):=by
 unfold FP at hs;split at hs
 .rename_i hit;exact afX ih hJ hn hK bV hd oA dJ gY hw hit hs
 split at hs
 .rename_i es s c hq;split at hq<;>try cases hq
  have⟨⟨z,hz⟩,hk⟩:=hs;have⟨x,h1,h2⟩:=ajW hJ hq hz;obtain⟨b,hb⟩:=ig (V1:=V) (μ:=[]) (x:=x) (pv:=.one c) ih oA hd bV dJ gY (by rw[ay2];exact hJ) (by rw[ay2];exact hn) (azC K) hK rfl (λ_ _=>rfl) rfl (by rw[ay2];exact h2) (by rw[ay2];exact hk);exact⟨max b σ.n,λN hN=>.val hw h1 aj (hb N aj)⟩
 .split at hs<;>try exact acW hC bN ih hJ hn hK bV hd oA dJ gY hw hs
  rename_i pv hq;split at hq<;>try cases hq
  have⟨x,h1,h2⟩:=afW hJ hq;obtain⟨b,hb⟩:=ig (V1:=V) (μ:=[]) (x:=x) (pv:=pv) ih oA hd bV dJ gY (by rw[ay2];exact hJ) (by rw[ay2];exact hn) (azC K) hK rfl (λ_ _=>rfl) rfl (by rw[ay2];exact h2) (by rw[ay2];exact hs);exact⟨max b σ.n,λN hN=>.val hw h1 aj (hb N aj)⟩
def afZ{o:Oper}{rest:List Oper}{t:TypeId}{pv:PV SE}(h:aal P d V o rest=aa (t,pv)):
 ∃x p b,o.op=.makeInterface t x/\o.dst=aa b/\o.guard=ah/\rest=[p]/\p.op=.panic (.tmp b)/\p.guard=ah/\(∀u,(P.underlying t=aa (.interface u)->False)/\(P.underlying t=ah->False))/\pv=bP P d V t x:=by
 unfold aal at h;split at h<;>try grind
 rename_i t1 x1 p1 ho;split at h<;>try grind
 rename_i a b hp eY hg1 hg2;split at h<;>try grind
 rename_i hc;simp only[ayI]at hc;have⟨cG,qP⟩:=hc;have:=ay0 cG;subst this;cases h;refine⟨x1,p1,a,ho,eY,hg1,rfl,hp,hg2,λu=>⟨λhu=>?_,λhu=>?_⟩,rfl⟩
 all_goals simp_all[Um]
theorem Pq(hC:mK P C)(bN:oQ Cx P C Q self):∀(l:List Oper) (sk:List Nat),EV Cx P C Q cfg self kx d f0 ops rd df kk CX sk l
 |[],sk=>by
  intro V ν K R φ E σ _ hs hJ hn hK bV dJ _;have⟨b,hb⟩:=dJ.now hJ hn hK hs;exact⟨b,λN hN=>.nil (hb N hN).2⟩
 |o::l,sk=>by
  intro V ν K R φ E σ Is hs hJ hn hK bV dJ gY;have ih:=λsk=>Pq hC bN l sk;simp only[gP]at hs
  have Yn:∀t,o.dst=aa t->t<V.nt:=by
   intro t ht;rw[ht]at hs;by_cases ak:t<V.nt
   .exact ak
   .have:azy t V.nt=af:=by
     cases h:azy t V.nt
     .rfl
     .exact absurd (by simpa using h) ak
    simp only[this]at hs;cases hs
  rw[if_neg]at hs
  rotate_left
  .cases hh:o.dst with
   |none=>simp
   |some t=>simp[Yn t hh]
  .have hd:∀t,o.dst=aa t->t<(E d).n:=by rw[bV];exact Yn
   split at hs
   .rename_i t pv af0;obtain⟨x,p,b0,ho,eY,hg1,rfl,hp,hg2,hty,rfl⟩:=afZ af0;have hx:=bw hJ d t x;have bE:=GC (d:=d) (dst:=o.dst) (x:=.dP t (aD (E d) x)) hJ;have Oo:(V.ll d o.dst).ln=V.ln:=GD ..
    have⟨gh,l7⟩:=l8 Oo
    obtain⟨b,hb⟩:=gY t _ (V.ll d o.dst) [] K R φ _ σ (aD (E d) x) ⟨azC K,by rw[gh];exact hK,l7,by rw[ay2];exact bE,by rw[ay2,Ip];exact hn,λj hj=>e_ _ _ _ aj,by rw[bO,fj]⟩
     (by rw[ay2];cases o.dst<;>exact hx) (by rw[ay2];exact hs)
    rw[bO]at hb;refine⟨max b σ.n,λN hN=>?_⟩;have Rm:aY o ops (E d)=ab:=by unfold aY;rw[hg1]
    have fD:aA P 0 (aD (E d)) o σ=aa (.val (.dP t (aD (E d) x)) σ):=by
     simp only[aA,ho];split
     .rename_i u hu;exact((hty u).1 hu).elim
     .rfl
     .rename_i hu;exact((hty #[]).2 hu).elim
    refine .val Rm fD aj ?_;have ak:=hd b0 eY;refine .panic (by unfold aY;rw[hg2]) (v:=.dP t (aD (E d) x)) ?_ (hb N aj).2;simp only[aA,hp,aD];rw[eY,cI ak]
   rename_i af0;clear af0
   have ia:∀(V1:SS),J Cx (ay P ν) R φ V1.g V1.l E σ->V1.n=V.n->V1.ln=V.ln->aY o ops (E d)=ab->
    (match Bs P cfg d af o V1 with
     |some (g,args)=>JB P cfg self kx d f0 o.dst g args V1 λV=>gP P cfg self kx Cx d f0 af ops (vX sk o.dst) l V kk
     |none=>FP P cfg self kx Cx d f0 af o V1 λpv V=>gP P cfg self kx Cx d f0 af ops (vX sk o.dst) l (V.b_ d o.dst pv) kk).sat P C Q K ν->∃b,∀N,b<=N->dK P N rd ops (o::l) (E d) df σ (CX N):=by
    intro V1 bE eG Hc hw gy;have⟨gh,l7⟩:=l8 Hc;split at gy
    .rename_i g dq hj;obtain⟨c,f,bs,ho,hc,hf,rfl⟩:=acR hj;have tc:=bw bE d 0 f;rw[hf]at tc;have bF:=js bE d c.args.toList c.argTypes.toList
     have dk:∃fn,P.funcs[g]?=aa fn/\fn.body.isSome=ab/\(fn.name != "runtime.NumGoroutine")=ab:=by
      by_cases hh:∃fn,P.funcs[g]?=aa fn/\fn.body.isSome=ab/\(fn.name != "runtime.NumGoroutine")=ab
      .exact hh
      .exfalso;simp only[JB]at gy;split at gy<;>try exact gy
       rename_i hfb
       have⟨n,hn⟩:=afO (P:=P) (cfg:=cfg) (self:=self) (kx:=λ_ _ _=>.fail 0) (d:=d) (f0:=f0) (dst:=o.dst) (V:={V1 with lv:=V1.lv+1}) (k:=λpv W=>.bad 999999 (W.b_ d o.dst pv).n (W.b_ d o.dst pv).lv 0 0 (W.b_ d o.dst pv).g (W.b_ d o.dst pv).l (W.b_ d o.dst pv).g (W.b_ d o.dst pv).l) (g:=g)
        (dq:=kz P d V1 c.args.toList c.argTypes.toList++bs.map λ(p:Nat×Nat)=>.one (.pt p.1 0 p.2)) (λfn h1 h2 h3=>hh ⟨fn,h1,h2,h3⟩)
       rw[hn]at hfb;cases hfb
     have⟨fn,dk,hb,pT⟩:=dk;have⟨ys,pI,vl⟩:=nG (args:=c.args.toList.map (aD (E d))) tc dk hb pT
     have fD:aA P 0 (aD (E d)) o σ=aa (.enter g (c.args.toList.map (aD (E d))++ys)):=by
      simp only[aA,ho,hc];exact pI
     have⟨_,_,_,_,b,U6⟩:=afQ (RW:=λN v av=>av.n<=N/\dK P N rd ops l ((E d).put o.dst v) df av (CX N)) (PW:=λN v av=>CX N (.cg v) (E d) av) hC bN bE (by rw[eG];exact hn) (by rw[gh];exact hK) (by rw[l7];exact bV) (bF.app vl) hd gy (by
      intro H vs R' aV E' au v KJ oW avh af1 hE' zK bu
      have⟨b,hb⟩:=ih (vX sk o.dst) H (ν++vs) K R' aV E' au (by rw[zK];exact Is.put o.dst _) bu KJ oW (by rw[avh,gh];exact hK) (by rw[zK,fj,af1,l7];exact bV) (by
       rw[af1,l7];exact dJ.fwd (azC K) hE' (by rw[zK,fj])) (by
       rw[af1,l7];exact gY.fwd (azC K) hE' (by rw[zK,fj]))
      refine⟨max b au.n,λN hN=>⟨by omega,by omega,?_⟩⟩;have:=hb N aj;rw[zK]at this;exact this) (by
      intro t pv V' μ K' R' aV E' au v hF m9 hv bu;have⟨b,hb⟩:=gY t pv V' μ K' R' aV E' au v (l7▸hF) hv bu;exact⟨b,λN hN=>⟨(hb N hN).1,by rw[<-m9];exact(hb N hN).2⟩⟩)
     exact⟨b,λN hN=>.ZY hw fD (U6 N hN) (λv av hv=>hv) λv av hv=>hv⟩
    .exact afY hC bN (ih (vX sk o.dst)) bE (by rw[eG];exact hn) (by rw[gh];exact hK) (by rw[l7];exact bV) hd (λx=>Is.put o.dst x) (by rw[l7];exact dJ) (by rw[l7];exact gY) hw gy
   have GI:∀(V1:SS),J Cx (ay P ν) R φ V1.g V1.l E σ->V1.n=V.n->V1.ln=V.ln->aY o ops (E d)=af->
    (gP P cfg self kx Cx d f0 af ops (JE sk o.dst) l (V1.ll d o.dst) kk).sat P C Q K ν->∃b,∀N,b<=N->dK P N rd ops (o::l) (E d) df σ (CX N):=by
    intro V1 bE eG Hc hw gy;have Oo:(V1.ll d o.dst).ln=V.ln:=by rw[GD,Hc]
    have⟨gh,l7⟩:=l8 Oo
    have⟨b,hb⟩:=ih (JE sk o.dst) (V1.ll d o.dst) ν K R φ _ σ (by rw[bO];exact Is.add hd) gy (GC (x:=.undef) bE) (by rw[Ip,eG];exact hn) (by rw[gh];exact hK) (by rw[bO,fj,l7];exact bV) (by
     rw[l7];have:=dJ.fwd (Dl:=[]) (E1:=ly E d ((E d).put o.dst .undef)) (azC K) (λj hj=>e_ _ _ _ aj) (by rw[bO,fj]);rw[ay2]at this;exact this) (by
     rw[l7];have:=gY.fwd (Dl:=[]) (E1:=ly E d ((E d).put o.dst .undef)) (azC K) (λj hj=>e_ _ _ _ aj) (by rw[bO,fj]);rw[ay2]at this;exact this)
    refine⟨b,λN hN=>.skip hw ?_⟩;have:=hb N hN;rw[bO]at this;exact this
   have⟨w1,w2,w3⟩:=UX (o:=o) hJ bV (ops:=ops)
   have w2':(if o6 sk ops o=ab then Want.skip else vW ops d V o)=.skip->aY o ops (E d)=af:=λh=>by
    by_cases hq:o6 sk ops o=ab
    .exact Is.ah1 hq
    .rw[if_neg hq]at h;exact w2 h
   have w0:∀w,w≠.skip->(if o6 sk ops o=ab then Want.skip else vW ops d V o)=w->vW ops d V o=w:=λw hw h=>by
    by_cases hq:o6 sk ops o=ab
    .rw[if_pos hq]at h;exact absurd h.symm hw
    .rw[if_neg hq]at h;exact h
   split at hs
   .rename_i hh;exact ia V hJ rfl rfl (w1 (w0 _ aw hh)) hs
   .rename_i hh;exact GI V hJ rfl rfl (w2' hh) hs
   .rename_i t e want hh;replace hh:=w0 _ aw hh;have⟨hg,hb⟩:=w3 _ _ _ hh;rcases hs with⟨h1,hs⟩|⟨h1,hs⟩
    .have⟨aT,bE⟩:=J.refine hJ hg h1;have hw:=hb _ aT;cases want
     .exact GI _ bE rfl rfl (by rw[hw];rfl) hs
     .exact ia _ bE rfl rfl (by rw[hw];rfl) hs
    .have⟨aT,bE⟩:=J.refine hJ hg h1;have hw:=hb _ aT;cases want
     .exact ia _ bE rfl rfl (by rw[hw];rfl) hs
     .exact GI _ bE rfl rfl (by rw[hw];rfl) hs
   .cases hs
end
section
variable{Cx:Cs}
variable{P:Program}{N:Nat}{σ au:St}{R R':Rs}{φ aV:Ph}{E:Nat->Env}{ν:List IV}{ro:Nat}{ι:Io}{w:World}{cfg:fe}{self:nW}
variable{C:Cr}{Q:IV->Prop}{K:List (List IV->Prop)}{V:SS}{d f0:Nat}{o:Oper}{k:PV SE->SS->aq}{L:List (LO SE)}{Γ:Gm SE}{rd:Option Nat}{df:List Df}
variable{fr:Bool}{kx:Kx}{sk:List Nat}{ops:Array Oper}{pl:ey}{l:List (Oper×Nat)}{kk:SS->aq}{CX:Nat->lz}
def aaY(Cx:Cs)(fr:Bool)(P:Program)(C:Cr)(Q:IV->Prop)(cfg:fe)(self:nW)(kx:Kx)(d f0:Nat)(ops:Array Oper)(pl:ey)(kk:SS->aq)(CX:Nat->lz)(sk:List Nat)(l:List (Oper×Nat)):Prop:=
 ∀(V:SS) ν K R φ E σ,lA (E d) sk->(gP P cfg self kx Cx d f0 ab ops sk (l.map azU) V kk).sat P C Q K ν->J Cx (ay P ν) R φ V.g V.l E σ->ν.length=V.n->K.length=V.lv->(E d).n=V.nt->KS Cx P C Q d E K ν V.nt kk (λN e σ=>CX N .normal e σ)->
  ∃e' au,gr P 0 ops pl fr l (E d) σ e' au/\∃b,∀N,b<=N->au.n<=N/\CX N .normal e' au
def GJ(ih:aaY Cx fr P C Q cfg self kx d f0 ops pl kk CX sk l){dst:Option Nat}(oA:∀x,lA ((E d).put dst x) sk)(hd:∀t,dst=aa t->t<(E d).n){nt:Nat}(bV:(E d).n=nt)(dJ:KS Cx P C Q d E K ν nt kk (λN e σ=>CX N .normal e σ))
 {V1:SS}{μ:List IV}{R1:Rs}{ew:Ph}{av:St}{x:IV}{pv:PV SE}
 (hJ:J Cx (ay P (ν++μ)) R1 ew V1.g V1.l E av)(hn:(ν++μ).length=V1.n)(gh:K.length=V1.lv)(l7:V1.nt=nt)
 (hx:VR (ay P (ν++μ)) R1 ew V1.l av x pv)(hs:(gP P cfg self kx Cx d f0 ab ops sk (l.map azU) (V1.b_ d dst pv) kk).sat P C Q K (ν++μ)):
 ∃e' au,gr P 0 ops pl fr l ((E d).put dst x) av e' au/\∃b,∀N,b<=N->au.n<=N/\CX N .normal e' au:=by
 have bE:=GB (d:=d) (dst:=dst) hJ hx hd;have Pk:(V1.b_ d dst pv).nt=nt:=by cases dst<;>exact l7
 have afN:(V1.b_ d dst pv).lv=V1.lv:=by cases dst<;>rfl
 have:=ih (V1.b_ d dst pv) (ν++μ) K R1 ew _ av (by rw[bO];exact oA x) hs bE (by rw[Im];exact hn) (by rw[afN];exact gh) (by rw[bO,fj,bV,Pk]) (by
  rw[Pk];exact dJ.fwd (azC K) (λj hj=>by rw[e_ _ _ _ aj]) (by rw[bO,fj]))
 rw[bO]at this;exact this
def NC(cfg:fe)(g:FuncId):xI (AN cfg) g=af:=by
 cases h:xI (AN cfg) g with
 |false=>rfl
 |true=>
  simp only[xI,ayI]at h;have⟨ak,h⟩:=h;have⟨n,hn,hg⟩:=aAE.1 h;have:=ay0 hg;have h2:=(azB.1 hn).2;simp at h2 ak;omega
def af2{j:Nat}(hC:mK P C)(hq:∀g,xI cfg g=ab->fr=ab)(ih:aaY Cx fr P C Q cfg self kx d f0 ops pl kk CX sk l)(hJ:J Cx (ay P ν) R φ V.g V.l E σ)(hn:ν.length=V.n)(hK:K.length=V.lv)(bV:(E d).n=V.nt)
 (hd:∀t,o.dst=aa t->t<(E d).n)(oA:∀x,lA ((E d).put o.dst x) sk)(dJ:KS Cx P C Q d E K ν V.nt kk (λN e σ=>CX N .normal e σ))(hw:aY o ops (E d)=ab)
 (hs:(FP P cfg self kx Cx d f0 ab o V λpv V=>gP P cfg self kx Cx d f0 ab ops sk (l.map azU) (V.b_ d o.dst pv) kk).sat P C Q K ν):
 ∃e' au,gr P 0 ops pl fr ((o,j)::l) (E d) σ e' au/\∃b,∀N,b<=N->au.n<=N/\CX N .normal e' au:=by
 have arv:(gN P d o V λpv V=>gP P cfg self kx Cx d f0 ab ops sk (l.map azU) (V.b_ d o.dst pv) kk).sat P C Q K ν->∃e' au,gr P 0 ops pl fr ((o,j)::l) (E d) σ e' au/\∃b,∀N,b<=N->au.n<=N/\CX N .normal e' au:=by
  intro hs;have⟨x,av,R1,ew,pv,V1,μ,h1,h2,h3,h4,h5,h6⟩:=acI hJ hn hs;have⟨e',au,g1,g2⟩:=GJ ih oA hd bV dJ h2 h4 (by rw[(l8 h5).1];omega) (l8 h5).2 h3 h6;exact⟨e',au,.val hw h1 g1,g2⟩
 simp only[FP,if_true,Bool.not_true,Bool.false_and,azi,if_false]at hs;unfold MW at hs;split at hs
 .rename_i c ho;unfold aai at hs;split at hs
  .simp_all
  .rename_i f hc;split at hs
   rotate_left
   .contradiction
   .cases hs
   rename_i g bs hf;simp only at hs;split at hs
   .split at hs
    all_goals contradiction
   split at hs
   .rename_i hp;simp only[ayI,aAg]at hp;have⟨jR,qc⟩:=hp;subst jR
    have avi:∃(args:List IV) (v:IV) (av:St) (R1:Rs) (ew:Ph) (pv:PV SE) (V1:SS) (μ:List IV),aA P 0 (aD (E d)) o σ=aa (.enter g args)/\(∀ro,lN P ro g args σ v av)/\(av=σ\/∃ob,av=σ.add ob)/\J Cx (ay P (ν++μ)) R1 ew V1.g V1.l E av/\VR (ay P (ν++μ)) R1 ew V1.l av v pv/\(ν++μ).length=V1.n/\V1.ln=V.ln/\
     (gP P cfg self kx Cx d f0 ab ops sk (l.map azU) (V1.b_ d o.dst pv) kk).sat P C Q K (ν++μ):=by
     exact Rg hC hJ hn ho hc hf hs
    have⟨args,v,av,R1,ew,pv,V1,μ,fD,xk,vE,g1,g2,g3,g4,g5⟩:=avi;have⟨e',au,r1,r2⟩:=GJ ih oA hd bV dJ g1 g3 (by rw[(l8 g4).1];omega) (l8 g4).2 g2 g5;rcases vE with rfl|⟨ob,rfl⟩
    .exact⟨e',au,.Sl hw fD xk r1,r2⟩
    .exact⟨e',au,.ZT (hq g qc) hw fD xk r1,r2⟩
   split at hs
   .split at hs<;>exact hs.elim
   split at hs<;>try cases hs
   rename_i hp;simp only[ayI,aAg]at hp;have jR:=hp.1;subst jR;split at hs<;>try cases hs
   rename_i zs V' fn hr dk;split at hs<;>try exact hs.elim
   rename_i cH;simp only[ayI]at cH;have⟨g',args,z,R1,pv,V1,μ,h1,h2,h3,h4,h5,h6,h7⟩:=UW hC hJ hn ho hc hf hr dk cH.1.2 cH.2 cH.1.1 hs;have⟨e',au,g1,g2⟩:=GJ ih oA hd bV dJ h3 h5 (by rw[(l8 h6).1];omega) (l8 h6).2 h4 h7;exact⟨e',au,.Sl hw h1 h2 g1,g2⟩
  .cases hs
 simp_all
theorem zn(hC:mK P C)(hq:∀g,xI cfg g=ab->fr=ab):∀(l:List (Oper×Nat)) (sk:List Nat),aaY Cx fr P C Q cfg self kx d f0 ops pl kk CX sk l
 |[],sk=>by
  intro V ν K R φ E σ _ hs hJ hn hK bV dJ;exact⟨E d,σ,.nil _ _,dJ.now hJ hn hK hs⟩
 |(o,j)::l,sk=>by
  intro V ν K R φ E σ Is hs hJ hn hK bV dJ;have ih:=λsk=>zn hC hq l sk;simp only[azr,gP,if_true]at hs
  have Yn:∀t,o.dst=aa t->t<V.nt:=by
   intro t ht;rw[ht]at hs;by_cases ak:t<V.nt
   .exact ak
   .have:azy t V.nt=af:=by
     cases h:azy t V.nt
     .rfl
     .exact absurd (by simpa using h) ak
    simp only[this]at hs;cases hs
  rw[if_neg]at hs
  rotate_left
  .cases hh:o.dst with
   |none=>simp
   |some t=>simp[Yn t hh]
  .have hd:∀t,o.dst=aa t->t<(E d).n:=by rw[bV];exact Yn
   have ia:∀(V1:SS),J Cx (ay P ν) R φ V1.g V1.l E σ->V1.n=V.n->V1.ln=V.ln->aY o ops (E d)=ab->
    (match Bs P cfg d ab o V1 with
     |some (g,args)=>JB P cfg self kx d f0 o.dst g args V1 λV=>gP P cfg self kx Cx d f0 ab ops (vX sk o.dst) (l.map azU) V kk
     |none=>FP P cfg self kx Cx d f0 ab o V1 λpv V=>gP P cfg self kx Cx d f0 ab ops (vX sk o.dst) (l.map azU) (V.b_ d o.dst pv) kk).sat P C Q K ν->
    ∃e' au,gr P 0 ops pl fr ((o,j)::l) (E d) σ e' au/\∃b,∀N,b<=N->au.n<=N/\CX N .normal e' au:=by
    intro V1 bE eG Hc hw gy;have⟨gh,l7⟩:=l8 Hc;have:Bs P cfg d ab o V1=ah:=by simp[Bs]
    rw[this]at gy;exact af2 hC hq (ih (vX sk o.dst)) bE (by rw[eG];exact hn) (by rw[gh];exact hK) (by rw[l7];exact bV) hd (λx=>Is.put o.dst x) (by rw[l7];exact dJ) hw gy
   have GI:∀(V1:SS),J Cx (ay P ν) R φ V1.g V1.l E σ->V1.n=V.n->V1.ln=V.ln->aY o ops (E d)=af->
    (gP P cfg self kx Cx d f0 ab ops (JE sk o.dst) (l.map azU) (V1.ll d o.dst) kk).sat P C Q K ν->∃e' au,gr P 0 ops pl fr ((o,j)::l) (E d) σ e' au/\∃b,∀N,b<=N->au.n<=N/\CX N .normal e' au:=by
    intro V1 bE eG Hc hw gy;have Oo:(V1.ll d o.dst).ln=V.ln:=by rw[GD,Hc]
    have⟨gh,l7⟩:=l8 Oo
    have⟨e',au,g1,g2⟩:=ih (JE sk o.dst) (V1.ll d o.dst) ν K R φ _ σ (by rw[bO];exact Is.add hd) gy (GC (x:=.undef) bE) (by rw[Ip,eG];exact hn) (by rw[gh];exact hK) (by rw[bO,fj,l7];exact bV) (by
     rw[l7];have:=dJ.fwd (Dl:=[]) (E1:=ly E d ((E d).put o.dst .undef)) (azC K) (λj hj=>e_ _ _ _ aj) (by rw[bO,fj]);rw[ay2]at this;exact this)
    rw[bO]at g1;exact⟨e',au,.skip hw g1,g2⟩
   have⟨w1,w2,w3⟩:=UX (o:=o) hJ bV (ops:=ops)
   have w2':(if o6 sk ops o=ab then Want.skip else vW ops d V o)=.skip->aY o ops (E d)=af:=λh=>by
    by_cases hq:o6 sk ops o=ab
    .exact Is.ah1 hq
    .rw[if_neg hq]at h;exact w2 h
   have w0:∀w,w≠.skip->(if o6 sk ops o=ab then Want.skip else vW ops d V o)=w->vW ops d V o=w:=λw hw h=>by
    by_cases hq:o6 sk ops o=ab
    .rw[if_pos hq]at h;exact absurd h.symm hw
    .rw[if_neg hq]at h;exact h
   split at hs
   .rename_i hh;exact ia V hJ rfl rfl (w1 (w0 _ aw hh)) hs
   .rename_i hh;exact GI V hJ rfl rfl (w2' hh) hs
   .rename_i t e want hh;replace hh:=w0 _ aw hh;have⟨hg,hb⟩:=w3 _ _ _ hh;rcases hs with⟨h1,hs⟩|⟨h1,hs⟩
    .have⟨aT,bE⟩:=J.refine hJ hg h1;have hw:=hb _ aT;cases want
     .exact GI _ bE rfl rfl (by rw[hw];rfl) hs
     .exact ia _ bE rfl rfl (by rw[hw];rfl) hs
    .have⟨aT,bE⟩:=J.refine hJ hg h1;have hw:=hb _ aT;cases want
     .exact ia _ bE rfl rfl (by rw[hw];rfl) hs
     .exact GI _ bE rfl rfl (by rw[hw];rfl) hs
   .cases hs
def Yp(hJ:J Cx (ay P ν) R φ V.g V.l E σ)(bV:(E d).n=V.nt):lR σ.n (E d) (xJ d V):=by
 refine⟨bV,λt ht=>?_,λt ht=>by cases ht⟩;simp only[jh,aAE]at ht;have⟨t',Yh,hb⟩:=ht;have:=ay0 hb;subst this;have h2:=(azB.1 Yh).2;split at h2
 .rename_i k off ext hg;have⟨id,cs,h3,_,h5⟩:=hJ.slot d t _ hg;exact .inl ⟨id,off,0,ext,h5,(hJ.lt k id h3).2⟩
 .rename_i cs hg;have⟨ds,h3,_⟩:=hJ.slot d t _ hg;exact .inr (.inl ⟨ds,h3⟩)
 grind
def Vc(hJ:J Cx (ay P ν) R φ V.g V.l E σ){ops:Array Oper}:rQ P ops φ (E d) σ (xJ d V):=by
 refine⟨λt h ht=>?_,(λi a d h hm=>by cases hm),λt h ht=>?_⟩
 rotate_left
 .have⟨⟨d',t',pv⟩,_,h2⟩:=aCS.1 (show(t,h)∈V.g.filterMap _ from ht);simp only at h2;split at h2<;>try grind
  split at h2<;>try grind
  split at h2<;>try grind
  split at h2<;>try grind
  rename_i k hg _ kt es hl hit;cases h2;have⟨id,rO,aW,h3,h4,h5⟩:=hJ.slot d _ _ hg
  grind
 have⟨⟨d',t',pv⟩,_,h2⟩:=aCS.1 (show(t,h)∈V.g.filterMap _ from ht);simp only at h2;split at h2<;>try grind
 split at h2<;>try grind
 rename_i k off ext hg;cases h2;have⟨id,cs,h3,_,h5⟩:=hJ.slot d _ _ hg
 grind
def Vd{fr:Bool}{R:Rs}{x y:IV}{n0:Nat}(hR:∀id m,R id=aa m->id<n0)(h:bx fr R σ x y):Z1 n0 x:=by
 cases h with
 |raw v=>constructor<;>intros<;>contradiction
 |nil s hs=>constructor<;>intros<;>contradiction
 |emp s hs=>constructor<;>intros<;>contradiction
 |dP t x y h=>constructor<;>intros<;>contradiction
 |agg cs ds hl h=>constructor<;>intros<;>contradiction
 |aF cs ds hl h=>constructor<;>intros<;>contradiction
 |pure x hf hp=>exact⟨(λ_ _ _ _ _ _ h=>by subst h;cases hp),(λ_ _ _ _ h=>by subst h;cases hp)⟩
 |sl id off len cap ep s m cs aE mn es h1=>exact⟨λ_ _ _ _ _ _ h=>by cases h;exact hR _ _ h1,(λ_ _ _ _ h=>by cases h)⟩
def Ve(hJ:J Cx (ay P ν) R φ V.g V.l E σ){ops:Array Oper}:pJ P ops σ.n (E d) σ (xJ d V):=by
 refine⟨ayL _,λt ht=>?_,(λt ht=>by cases ht),(λt ht=>by cases ht),(λi a d hm=>by cases hm)⟩;simp only[jh,aAE]at ht;have⟨t',Yh,hb⟩:=ht;have:=ay0 hb;subst this;have h2:=(azB.1 Yh).2;split at h2
 .rename_i z hg;have⟨y,_,h3,_⟩:=hJ.slot d t _ hg;exact Vd (λ_ _ h=>by cases h) h3
 .rename_i fr z hg;have⟨y,_,h3,_⟩:=hJ.slot d t _ hg;exact Vd hJ.qS h3
 grind
def af3(fR:P.follows .mixedOrders=ab)(hC:mK P C){fn:FuncId}{id:Nat}(gd:((bS ops).ok&&(Cw ops (bS ops)||ji P (bS ops) ops.toList.zipIdx (xJ d V)))=ab)(hs:(gP P (if ji P (bS ops) ops.toList.zipIdx (xJ d V)then cfg else AN cfg) self kx Cx d f0 ab ops [] ops.toList V kk).sat P C Q K ν)
 (hJ:J Cx (ay P ν) R φ V.g V.l E σ)(hn:ν.length=V.n)(hK:K.length=V.lv)(bV:(E d).n=V.nt)(dJ:KS Cx P C Q d E K ν V.nt kk (λN e σ=>CX N .normal e σ)):
 ∃b,∀N,b<=N->cY P N rd (.region id ops ab) (E d) df σ (CX N):=by
 simp only[ayI,azp]at gd;have bo:ops.toList.zipIdx.map (·.1)=ops.toList:=aw;by_cases hq:ji P (bS ops) ops.toList.zipIdx (xJ d V)=ab
 .rw[if_pos hq]at hs;obtain⟨e',au,h1,b,hb⟩:=zn (fr:=ab) (pl:=bS ops) (CX:=CX) hC (λ_ _=>rfl) ops.toList.zipIdx [] V ν K R φ E σ (lA.nil _) (by rw[bo];exact hs) hJ hn hK bV dJ;exact⟨b,λN hN=>cY.ofS (fn:=fn) (λ_=>gD.Z5 fR gd.1 hq (Yp hJ bV) hJ.inj ⟨Vc hJ,Ve hJ⟩ hJ.wf h1) (hb N hN).1 (hb N hN).2⟩
 .rw[if_neg hq]at hs;obtain⟨e',au,h1,b,hb⟩:=zn (fr:=af) (pl:=bS ops) (CX:=CX) hC (λg hg=>by rw[NC]at hg;cases hg) ops.toList.zipIdx [] V ν K R φ E σ (lA.nil _) (by rw[bo];exact hs) hJ hn hK bV dJ;rcases gd.2 with rS|rS
  .exact⟨b,λN hN=>cY.ofS (fn:=fn) (λ_=>gD.draw fR gd.1 rS hJ.wf h1) (hb N hN).1 (hb N hN).2⟩
  .exact absurd rS hq
def Vf(fR:P.follows .mixedOrders=ab)(hC:mK P C)(bN:oQ Cx P C Q self){id j:Nat}(gd:(Sp ops j&&(bS (ops.extract 0 j)).ok&&(Cw (ops.extract 0 j) (bS (ops.extract 0 j))||ji P (bS (ops.extract 0 j)) (ops.extract 0 j).toList.zipIdx (xJ d V)))=ab)
 (hs:(gP P (if ji P (bS (ops.extract 0 j)) (ops.extract 0 j).toList.zipIdx (xJ d V)then cfg else AN cfg) self kx Cx d f0 ab (ops.extract 0 j) [] (ops.extract 0 j).toList V λV=>gP P cfg self kx Cx d f0 af ops [] (ops.toList.drop j) V kk).sat P C Q K ν)
 (hJ:J Cx (ay P ν) R φ V.g V.l E σ)(hn:ν.length=V.n)(hK:K.length=V.lv)(bV:(E d).n=V.nt)(dJ:KS Cx P C Q d E K ν V.nt kk (λN e σ=>CX N .normal e σ))(gY:KP Cx P C Q d E K ν V.nt kx (λN v e σ=>CX N (.cg v) e σ)):
 ∃b,∀N,b<=N->cY P N rd (.region id ops ab) (E d) df σ (CX N):=by
 simp only[ayI,azp]at gd;have⟨⟨ht,oV⟩,hq0⟩:=gd;have bo:(ops.extract 0 j).toList.zipIdx.map (·.1)=(ops.extract 0 j).toList:=aw
 have ams:KS Cx P C Q d E K ν V.nt (λV=>gP P cfg self kx Cx d f0 af ops [] (ops.toList.drop j) V kk) (λN e σ=>(λN (_:Ex) e σ=>dK P N rd ops (ops.toList.drop j) e df σ (CX N)) N .normal e σ):=by
  intro V' μ K' R' aV E' au hf bu;have⟨b,hb⟩:=Pq (CX:=CX) (rd:=rd) (df:=df) hC bN (ops.toList.drop j) [] V' (ν++μ) K' R' aV E' au (lA.nil _) bu hf.hJ hf.hn hf.gh (by rw[hf.Hq,bV,hf.bV]) (by rw[hf.bV];exact dJ.fwd hf.hK hf.hE hf.Hq) (by rw[hf.bV];exact gY.fwd hf.hK hf.hE hf.Hq);exact⟨max b au.n,λN hN=>⟨by omega,hb N aj⟩⟩
 by_cases hq:ji P (bS (ops.extract 0 j)) (ops.extract 0 j).toList.zipIdx (xJ d V)=ab
 .rw[if_pos hq]at hs;obtain⟨e',au,h1,b,hb⟩:=zn (fr:=ab) (pl:=bS (ops.extract 0 j)) (CX:=λN _ e σ=>dK P N rd ops (ops.toList.drop j) e df σ (CX N)) hC (λ_ _=>rfl) (ops.extract 0 j).toList.zipIdx [] V ν K R φ E σ (lA.nil _) (by rw[bo];exact hs) hJ hn hK bV ams;exact⟨b,λN hN=>cY.T7 fR ht oV (λ_=>Lo.Z5 oV hq (Yp hJ bV) hJ.inj ⟨Vc hJ,Ve hJ⟩ hJ.wf h1) (hb N hN).1 (hb N hN).2⟩
 .rw[if_neg hq]at hs;obtain⟨e',au,h1,b,hb⟩:=zn (fr:=af) (pl:=bS (ops.extract 0 j)) (CX:=λN _ e σ=>dK P N rd ops (ops.toList.drop j) e df σ (CX N)) hC (λg hg=>by rw[NC]at hg;cases hg) (ops.extract 0 j).toList.zipIdx [] V ν K R φ E σ (lA.nil _) (by rw[bo];exact hs) hJ hn hK bV ams;rcases hq0 with rS|rS
  .exact⟨b,λN hN=>cY.T7 fR ht oV (λ_=>Lo.draw oV rS hJ.wf h1) (hb N hN).1 (hb N hN).2⟩
  .exact absurd rS hq
end
end Go.Ev
