/- Lemmas over the model, without conditions. -/
import Derived.Test.YtabefplkfkfdfaaGreatPAe
import Derived.Test.YtabefplkfkfdfaaGreatPAc
import Derived.Test.YtabefplkfkfdfaaGreatPAd
import Derived.KernelRfl
import Derived.Test.YtabefplkfkfdfaaGreatProg
open Option.some renaming injEq->awf
open Prod.mk renaming injEq->awM
open Option renaming bind_some->awc,bind_eq_some_iff->awx,map_some->awQ,map_eq_some_iff->awj
open Bool renaming and_eq_true->awb,not_eq_true'->awX,false_eq_true->awA,or_eq_true->awO,not_false->ayl,not_true->axu,false_and->ax8
open Array renaming getElem?_eq_some_iff->aw4
open List renaming prefix_append->aAx,append_assoc->awv,getElem?_append_right->awD,singleton_append->azc,getElem?_cons_zero->axB,length_append->awi,all_eq_true->awt,mem_of_getElem?->awq,getElem?_eq_some_iff->awa,getElem?_map->awu,getElem?_range->ax9,getElem?_eq_getElem->av_,getElem_mem->awd,map_cons->awZ,cons_append->axk,nodup_cons->axi,mem_cons->aws,range->axt,length->awN,length_map->aw0,getElem?_cons_succ->axI,mem_filterMap->azs,getElem?_append_left->awp,getElem?_set->aAH,prefix_refl->axb,append_nil->aww,isEmpty_iff->axT,eq_nil_of_length_eq_zero->awG,any_eq_true->ayp,mem_filter->aw7,drop_of_length_le->awY,drop_eq_getElem_cons->awH,drop_zero->azd,mem_map->awB
open Nat renaming sub_self->aBC,eq_of_beq_eq_true->awk,zero_add->axo,le_refl->awe,le_trans->awy,zero_le->aw5,beq_eq->awV,lt_succ_of_lt->aAV,beq->awl,blt->aw6,ble->axj,add_zero->aze
open List.cons renaming injEq->axC
open Go.Sem renaming run_bind->awn,run_pure->awz
open Go.Result renaming andThen_ok->awg
open Go.Instr renaming yield->aAm
open Go.Fence renaming wide->awP
open Prod renaming fst->axs
open Iff renaming rfl->azf
open Go.IntKind renaming i64->awK
open Go.Op renaming equalIn->axa
open Option renaming some->aa,none->ah
open Bool renaming true->ab,false->af
set_option linter.all false
namespace Go.Ev
section
variable{Cx:Cs}
variable{P:Program}{N:Nat}{G au:St}{R R':Rs}{X aU:Ph}{E:Nat->Env}{O:List IV}{ro:Nat}{Z:Io}{w:World}{cfg:fe}{self:nJ}
variable{C:Cr}{Q:IV->Prop}{K:List (List IV->Prop)}{V:SS}{d f0:Nat}{o:Oper}{k:PV SE->SS->aq}{L:List (LO SE)}{Γ:Gm SE}{rd:Option Nat}{df:List Df}
variable{kx:Kx}{sk:List Nat}{ops:Array Oper}{l:List Oper}{kk:SS->aq}{CW:Nat->Env->St->Prop}{CX:Nat->kT}
def kU(e:Env)(sk:List Nat):Prop:=∀t,i5 sk t=ab->e.at t=.undef
def kU.nil(e:Env):kU e []:=λ_ h=>by cases h
theorem kU.put{e:Env}{sk:List Nat}(h:kU e sk)(dst:Option Nat)(x:IV):kU (e.put dst x) (vI sk dst):=by
 cases dst with
 |none=>exact h
 |some d=>
  intro t ht;obtain⟨h1,h2⟩:=xE ht;rw[fN h2];exact h t h1
def kU.add{e:Env}{sk:List Nat}(h:kU e sk){dst:Option Nat}(hd:∀t,dst=aa t->t<e.n):kU (e.put dst .undef) (IP sk dst):=by
 cases dst with
 |none=>exact h
 |some d=>
  intro t ht;rcases kz ht with rfl|ht
  .exact cC (hd _ rfl)
  .exact h.put (aa d) .undef t ht
def kU.agI{e:Env}{sk:List Nat}(h:kU e sk){ops:Array Oper}{o:Oper}(hs:oI sk ops o=ab):aX o ops e=af:=by
 unfold oI at hs;unfold aX;split at hs<;>try (cases hs;done)
 rename_i j w hg;rw[hg];simp only;split at hs<;>try (cases hs;done)
 rename_i t ht;rw[ht];simp only;rw[h t hs];split
 .rfl
 .rfl
def A8(Cx:Cs)(P:Program)(C:Cr)(Q:IV->Prop)(cfg:fe)(self:nJ)(kx:Kx)(d f0:Nat)(ops:Array Oper)(rd:Option Nat)(df:List Df)(kk:SS->aq)(CX:Nat->kT)(sk:List Nat)(l:List Oper):Prop:=
 ∀(V:SS) O K R X E G,kU (E d) sk->(gO P cfg self kx Cx d f0 af ops sk l V kk).sat P C Q K O->J Cx (ax P O) R X V.g V.l E G->O.length=V.n->K.length=V.lv->(E d).n=V.nt->KS Cx P C Q d E K O V.nt kk (λN e G=>CX N .normal e G)->KP Cx P C Q d E K O V.nt kx (λN v e G=>CX N (.cd v) e G)->
  ∃b,∀N,b<=N->dC P N rd ops l (E d) df G (CX N)
def ia(ih:A8 Cx P C Q cfg self kx d f0 ops rd df kk CX sk l){dst:Option Nat}(pX:∀x,kU ((E d).put dst x) sk)(hd:∀t,dst=aa t->t<(E d).n){nt:Nat}(bR:(E d).n=nt)(dz:KS Cx P C Q d E K O nt kk (λN e G=>CX N .normal e G))(gR:KP Cx P C Q d E K O nt kx (λN v e G=>CX N (.cd v) e G))
 {V1:SS}{I:List IV}{K1:List (List IV->Prop)}{R1:Rs}{eg:Ph}{E1:Nat->Env}{av:St}{x:IV}{pv:PV SE}
 (hJ:J Cx (ax P (O++I)) R1 eg V1.g V1.l E1 av)(hn:(O++I).length=V1.n)(hK:K<+:K1)(fW:K1.length=V1.lv)(lC:V1.nt=nt)(hE:∀j,j<d->E1 j=E j)(mq:E1 d=E d)
 (hx:VR (ax P (O++I)) R1 eg V1.l av x pv)(hs:(gO P cfg self kx Cx d f0 af ops sk l (V1.bY d dst pv) kk).sat P C Q K1 (O++I)):
 ∃b,∀N,b<=N->dC P N rd ops l ((E d).put dst x) df av (CX N):=by
 have bH:=Fi (d:=d) (dst:=dst) hJ hx (by rw[mq];exact hd);have Oo:(V1.bY d dst pv).nt=nt:=by cases dst<;>exact lC
 have aeQ:(V1.bY d dst pv).lv=V1.lv:=by cases dst<;>rfl
 obtain⟨b,hb⟩:=ih (V1.bY d dst pv) (O++I) K1 R1 eg _ av (by rw[bI,mq];exact pX x) hs bH (by rw[HD];exact hn) (by rw[aeQ];exact fW) (by rw[bI,eO,mq,bR,Oo]) (by
  rw[Oo];exact dz.fwd hK (λj hj=>by rw[eS _ _ _ aj];exact hE j hj) (by rw[bI,eO,mq])) (by
  rw[Oo];exact gR.fwd hK (λj hj=>by rw[eS _ _ _ aj];exact hE j hj) (by rw[bI,eO,mq]))
 refine⟨b,λN hN=>?_⟩;have:=hb N hN;rw[bI,mq]at this;exact this
def abZ{sM:Bool}{g:FuncId}{da:List (PV SE)}(h:AT P cfg d sM o V=aa (g,da)):
 ∃c f bs,o.op=.call c/\c.callee=.value f/\bM P d V 0 f=.one (.fn g bs)/\da=jX P d V c.args.toList c.argTypes.toList++bs.map (λ(p:Nat×Nat)=>.one (.pt p.1 0 p.2)):=by
 unfold AT at h;split at h<;>try (cases h;done)
 split at h<;>try (cases h;done)
 rename_i c ho;split at h<;>try (cases h;done)
 rename_i f hc;split at h<;>try (cases h;done)
 rename_i g' bs hf;split at h<;>try (cases h;done)
 simp only[awf,awM]at h;obtain⟨rfl,rfl⟩:=h;exact⟨c,f,bs,ho,hc,hf,rfl⟩
def KH{es:List SE}{vs:List IV}(h:jL (P:=P) O (eR es)=aa vs):All2 (λ(e:SE) y=>e.den P O=aa y) es vs:=by
 induction es generalizing vs with
 |nil=>
  unfold jL at h;simp only[eR,SE.den,awf]at h;subst h;trivial
 |cons e es ih=>
  unfold jL at h;simp only[eR,SE.den]at h;cases h1:e.den P O with
  |none=>rw[h1]at h;simp at h
  |some x=>
   rw[h1]at h;simp only[awc]at h;cases h2:(eR es).den P O with
   |none=>rw[h2]at h;simp at h
   |some y=>
    rw[h2]at h;simp only[awc]at h;cases y<;>simp only at h<;>try (cases h;done)
    rename_i cs;cases h;exact⟨h1,ih (by unfold jL;rw[h2])⟩
def aeR{g:FuncId}{dst:Option Nat}{da:List (PV SE)}(h:∀fn,P.funcs[g]?=aa fn->fn.body.isSome=ab->(fn.name != "runtime.NumGoroutine")=ab->False):∃n,IK P cfg self kx d f0 dst g da V k=.fail n:=by
 unfold IK;split
 .split
  .rename_i fn cL;split
   .rename_i hc;simp only[awb]at hc;exact(h fn cL hc.1 hc.2).elim
   .exact⟨_,rfl⟩
  .exact⟨_,rfl⟩
 .unfold oH;split
  .rename_i fn cL;split
   .rename_i body hb;split
    .exact⟨_,rfl⟩
    .split
     .rename_i hc;simp only[awb]at hc;exact(h fn cL (by simp[hb]) hc.2).elim
     .exact⟨_,rfl⟩
   .exact⟨_,rfl⟩
  .exact⟨_,rfl⟩
def aeS(hC:mj P C)(bE:ou Cx P C Q self)(hJ:J Cx (ax P O) R X V.g V.l E G)(hn:O.length=V.n)(hK:K.length=V.lv)(bR:(E d).n=V.nt){g:FuncId}{dst:Option Nat}{args:List IV}{da:List (PV SE)}(bJ:All2 (VR (ax P O) R X V.l G) args da)
 (hs:(IK P cfg self kx d f0 dst g da V k).sat P C Q K O){RW PW:Nat->IV->St->Prop}
 (hk:∀(pv:PV SE) (V':SS) I K' R' aU E' au v,yC Cx P d E K O V.nt V' I K' R' aU E' au->E' d=E d->VR (ax P (O++I)) R' aU V'.l au v pv->(k pv V').sat P C Q K' (O++I)->∃b,∀N,b<=N->au.n<=N/\RW N v au)
 (Cc:∀t (pv:PV SE) (V':SS) I K' R' aU E' au v,yC Cx P d E K O V.nt V' I K' R' aU E' au->E' d=E d->VR (ax P (O++I)) R' aU V'.l au v pv->(kx t pv V').sat P C Q K' (O++I)->∃b,∀N,b<=N->au.n<=N/\PW N (.dK t v) au):
 ∃fn,P.funcs[g]?=aa fn/\fn.body.isSome=ab/\(fn.name != "runtime.NumGoroutine")=ab/\∃b,∀N,b<=N->vD P N g args G (RW N) (PW N):=by
 unfold IK at hs;split at hs
 .rename_i t c wJ pc;obtain⟨_,rfl,_⟩:=Mq pc;split at hs<;>try exact hs.elim
  rename_i fn cL;split at hs<;>try exact hs.elim
  rename_i cn;simp only[awb]at cn
  match args,bJ with
  |[cl],bJ=>
   obtain⟨b,hb⟩:=Qt hC bE hJ hn hK bR (aw4.1 cL).1 bJ.1 hs hk;exact⟨fn,cL,cn.1,cn.2,b,λN hN=>(hb N hN).toX⟩
 .exact zJ bE hJ hn hK bR bJ hs hk Cc
def aeT(hC:mj P C)(bE:ou Cx P C Q self)(hJ:J Cx (ax P O) R X V.g V.l E G)(hn:O.length=V.n)(hK:K.length=V.lv)(bR:(E d).n=V.nt){g:FuncId}{dst:Option Nat}{args:List IV}{da:List (PV SE)}(bJ:All2 (VR (ax P O) R X V.l G) args da)
 (hd:∀t,dst=aa t->t<(E d).n)
 {k:SS->aq}(hs:(IL P cfg self kx d f0 dst g da V k).sat P C Q K O){RW PW:Nat->IV->St->Prop}
 (hk:∀(H:SS) vs R' aU E' au v,J Cx (ax P (O++vs)) R' aU H.g H.l E' au->(O++vs).length=H.n->H.lv=V.lv->H.nt=V.nt->(∀j,j<d->E' j=E j)->E' d=(E d).put dst v->(k H).sat P C Q K (O++vs)->∃b,∀N,b<=N->au.n<=N/\RW N v au)
 (Cc:∀t (pv:PV SE) (V':SS) I K' R' aU E' au v,yC Cx P d E K O V.nt V' I K' R' aU E' au->E' d=E d->VR (ax P (O++I)) R' aU V'.l au v pv->(kx t pv V').sat P C Q K' (O++I)->∃b,∀N,b<=N->au.n<=N/\PW N (.dK t v) au):
 ∃fn,P.funcs[g]?=aa fn/\fn.body.isSome=ab/\(fn.name != "runtime.NumGoroutine")=ab/\∃b,∀N,b<=N->vD P N g args G (RW N) (PW N):=by
 unfold IL at hs;simp only at hs;split at hs
 .exact hs.elim
 .simp only[aq.sat]at hs;refine aeS (V:={V with lv:=V.lv+1}) hC bE hJ hn (by simp[hK]) bR bJ hs ?_ (λt pv V' I K' R' aU E' au v hf=>Cc t pv V' I K' R' aU E' au v ⟨(aAx K _).trans hf.hK,hf.fW,hf.bR,hf.hJ,hf.hn,hf.hE,hf.GF⟩);intro pv V' I K' R' aU E' au v hf mq hv bp;have bH:=Fi (d:=d) (dst:=dst) hf.hJ hv (by rw[mq];exact hd);obtain⟨R2,fg,zi,_⟩:=T_ _ bH;split at bp
  .rename_i es ef hi;obtain⟨vs,p,h1,h2,h3⟩:=bp;obtain⟨hlen,vM⟩:=On (sP:=O) fg hn ⟨I,rfl⟩ hi (KH h1);obtain⟨t,ht⟩:=hf.hK;rw[<-ht,awv,awD aj,hK,aBC]at h2;simp only[azc,axB,awf]at h2;subst h2;exact hk _ vs R2 _ _ au v vM (by rw[awi,hlen,hn]) rfl rfl (λj hj=>by rw[eS _ _ _ aj];exact hf.hE j hj) (by rw[bI,mq]) h3.2
  .exact bp.elim
def Oq{e:SE}{z:IV}(h:(SE.rws e).den P O=aa z):∃s es,e.den P O=aa (.tree s es)/\z=.tree s es/\∀e∈es,∀c∈cellsOf e,aN c=ab:=by
 simp only[SE.den,awx]at h;obtain⟨y,h1,h2⟩:=h;split at h2<;>try (cases h2;done)
 split at h2<;>try (cases h2;done)
 rename_i bS;cases h2;rw[awt]at bS;exact⟨_,_,h1,rfl,λe he c hc=>awt.1 (bS e he) c hc⟩
def Xy(Cx:Cs)(P:Program)(C:Cr)(Q:IV->Prop)(K:List (List IV->Prop))(E:Nat->Env)(O:List IV)(lv:Nat×Nat)(k:PV SE->SS->aq)(KW:Nat->IV->St->Prop):Prop:=
 ∀(V1:SS) (I:List IV) (R1:Rs) (eg:Ph) (av:St) (x:IV) (pv:PV SE),J Cx (ax P (O++I)) R1 eg V1.g V1.l E av->V1.ln=lv->(O++I).length=V1.n->V1.ln=lv->VR (ax P (O++I)) R1 eg V1.l av x pv->(k pv V1).sat P C Q K (O++I)->∃b,∀N,b<=N->KW N x av
def aeU{fr:Bool}{x:IV}{cs:List IV}(h:bx fr R G x (.agg cs)):∃xs,x=.agg xs/\All2 (bx fr R G) xs cs:=by
 cases h with
 |agg sI _ hl hh=>exact⟨sI,rfl,.mk hl hh⟩
 |pure _ hf hp=>
  refine⟨cs,rfl,.mk rfl λi a b h1 h2=>?_⟩;rw[h1]at h2;cases h2;cases hp with
  |agg _ hh=>exact .pure a hf (hh a (awq h1))
def Fm{t:TypeId}{e:SE}{x z:IV}{f:aq}(hz:e.den P O=aa z)(hc:jJ x z)(hs:(tO P t e f).sat P C Q K O):f.sat P C Q K O/\VR (ax P O) R X L G x (ofType P t e):=by
 unfold tO at hs;unfold ofType;by_cases ha:isAgg P t=ab
 .rw[if_pos ha]at hs;obtain⟨⟨y,hy⟩,hk⟩:=hs;simp only[SE.den,hz,awc]at hy;split at hy
  .rename_i cs;split at hy
   .rename_i jy;obtain⟨xs,rfl,nZ⟩:=aeU hc;refine⟨hk,?_⟩;rw[if_pos ha];refine⟨xs,rfl,.mk (by simp[nZ.len,jy.1]) λi a b h1 h2=>?_⟩;have hi:=(awa.1 h1).1;rw[nZ.len]at hi;rw[awu,ax9 aj]at h2;simp only[awQ,awf]at h2;subst h2;have Mf:cs[i]?=aa cs[i]:=av_ hi;have a_:Ev.ao cs[i]=ab:=(awt.1 jy.2) _ (awd hi);exact⟨cs[i],by simp[ax,SE.den,hz,Mf,vJ,a_],nZ.get h1 Mf,a_⟩
   .cases hy
  .cases hy
 .rw[if_neg ha]at hs;obtain⟨⟨y,hy⟩,hk⟩:=hs;obtain⟨h1,h2⟩:=rC hy;rw[hz]at h1;cases h1;rw[if_neg ha];exact⟨hk,z,hy,hc,h2⟩
theorem Ot:∀{zs:List SE} {v:IV},(eR zs).den P O=aa v->∃ys,v=.agg ys/\All2 (λ(z:SE) y=>z.den P O=aa y) zs ys
 |[],v,h=>by
  simp only[eR,SE.den,awf]at h;exact⟨[],h.symm,trivial⟩
 |z::zs,v,h=>by
  simp only[eR,SE.den]at h;obtain⟨x,hx,h⟩:=awx.1 h;obtain⟨w,hw,h⟩:=awx.1 h;obtain⟨ys,rfl,va⟩:=Ot hw;simp only[awf]at h;exact⟨x::ys,h.symm,hx,va⟩
theorem Mr:∀(args:List (PV SE)),args=(u9 args).1.map (λp=>PV.one (Cl.pt p.1 0 p.2))++(u9 args).2
 |[]=>rfl
 |pv::r=>by
  unfold u9;split
  .rename_i k ext r' h;cases h;simp only[awZ,axk];rw[<-Mr r]
  .simp
theorem Ea:∀{l:List Nat},distinct l=ab->l.Nodup
 |[],_=>List.nodup_nil
 |k::l,h=>by
  simp only[distinct,awb,awX,List.any_eq_false]at h;refine axi.2 ⟨λhm=>?_,Ea h.2⟩;exact h.1 k hm ay
def aeV(es:List SE)(h:∀e∈es,∃y,e.den P O=aa y):∃cs:List IV,All2 (λ(z:SE) y=>z.den P O=aa y) es cs:=by
 induction es with
 |nil=>exact⟨[],trivial⟩
 |cons e es ih=>
  obtain⟨y,hy⟩:=h e ay;obtain⟨cs,bD⟩:=ih λe he=>h e (by simp[he]);exact⟨y::cs,hy,bD⟩
theorem JM(hJ:J Cx (ax P O) R X V.g V.l E G):∀{l:List (Nat×Nat)} {Hp:List (List SE)},AS V l=aa Hp->
 ∃ins:List (List IV),Hp.length=l.length/\ins.length=l.length/\All2 (λ(z:SE) y=>z.den P O=aa y) (Hp.map eR) (ins.map IV.agg)/\
  ∀(i:Nat) (p:Nat×Nat) (cs:List IV),l[i]?=aa p->ins[i]?=aa cs->∃es:List SE,V.l[p.1]?=aa (.var (es.map .v))/\cs.length=p.2/\All2 (λ(z:SE) y=>z.den P O=aa y) es cs
 |[],Hp,h=>by
  simp only[AS,awf]at h;subst h;exact⟨[],rfl,rfl,trivial,λi p cs h=>by simp at h⟩
 |(k,n)::l,Hp,h=>by
  simp only[AS]at h;split at h<;>try (cases h;done)
  rename_i ds hk;split at h<;>try (cases h;done)
  rename_i hn;split at h<;>try (cases h;done)
  rename_i es r jR hr;simp only[awf]at h;subst h;have zn:=KC jR;subst zn;have oX:=awk hn;obtain⟨ins,h1,h2,h3,h4⟩:=JM hJ hr;obtain⟨id,cS,o1,o2,o3,o4⟩:=hJ.obj k _ hk
  obtain⟨cs,bD⟩:=aeV (P:=P) (O:=O) es λe he=>by
   obtain⟨q,hq⟩:=List.getElem?_of_mem he;obtain⟨x,_,hx⟩:=o4.Db (i:=q) (b:=.v e) (by rw[awu,hq];rfl);obtain⟨y,hy,_⟩:=hx;exact⟨y,hy⟩
  refine⟨cs::ins,by simp[h1],by simp[h2],⟨gy bD,h3⟩,λi p bG hp hc=>?_⟩;cases i with
  |zero=>
   simp at hp hc;subst hp hc;exact⟨es,hk,by rw[<-bD.len];simpa using oX,bD⟩
  |succ i=>exact h4 i p bG (by simpa using hp) (by simpa using hc)
theorem JN{y:SE}:∀{l:List (Nat×Nat)} {i:Nat} {L:List (LO SE)},(mW y i l L).length=L.length
 |[],_,_=>rfl
 |(k,n)::l,i,L=>by simp[mW,JN (l:=l)]
theorem Dl{y:SE}:∀{l:List (Nat×Nat)} {i j:Nat} {L:List (LO SE)},j∉l.map (·.1)->(mW y i l L)[j]?=L[j]?
 |[],_,_,_,_=>rfl
 |(k,n)::l,i,j,L,h=>by
  simp only[awZ,aws,not_or]at h;simp only[mW];rw[Dl h.2,List.getElem?_set_ne (λhc=>h.1 hc.symm)]
theorem JO{y:SE}:∀{l:List (Nat×Nat)} {i q:Nat} {p:Nat×Nat} {L:List (LO SE)},(l.map (·.1)).Nodup->l[q]?=aa p->p.1<L.length->
 (mW y i l L)[p.1]?=aa (.var ((axt p.2).map λj=>.v (.aO (.proj y (i+q+1)) j)))
 |[],_,_,_,_,_,h,_=>by simp at h
 |(k,n)::l,i,0,p,L,ku,h,ak=>by
  simp at h;subst h;simp only[awZ,axi]at ku;simp only[mW];rw[Dl ku.1,List.getElem?_set_self ak]
 |(k,n)::l,i,q+1,p,L,ku,h,ak=>by
  simp only[awZ,axi]at ku;simp only[mW];rw[JO (q:=q) ku.2 (by simpa using h) (by simpa using ak)];rw[show i+1+q+1=i+(q+1)+1 by omega]
theorem Ms{α β:Type}{r:α->β->Prop}:∀{bs cs:List β} {as_:List α},All2 r as_ (bs++cs)->∃as1 as2,as_=as1++as2/\All2 r as1 bs/\All2 r as2 cs
 |[],cs,as_,h=>⟨[],as_,rfl,trivial,h⟩
 |b::bs,cs,[],h=>h.elim
 |b::bs,cs,a::as_,h=>by
  obtain⟨as1,as2,rfl,h1,h2⟩:=Ms h.2;exact⟨a::as1,as2,rfl,⟨h.1,h1⟩,h2⟩
def aiu{a b:List (List IV)}(h:a.map IV.agg=b.map IV.agg):a=b:=(List.map_inj_right (λx y hh=>by injection hh)).1 h
def aiv(hC:mj P C)(hJ:J Cx (ax P O) R X V.g V.l E G)(hn:O.length=V.n){g:FuncId}{l:List (Nat×Nat)}{rest:List (PV SE)}{ps xs:List IV}
 (hp:All2 (VR (ax P O) R X V.l G) ps (l.map λp=>PV.one (Cl.pt p.1 0 p.2)))(hx:All2 (VR (ax P O) R X V.l G) xs rest)(hs:(aei P g l rest V k).sat P C Q K O){KW:Nat->IV->St->Prop}(hk:Xy Cx P C Q K E O V.ln k KW):
 ∃b,∀N,b<=N->eY P N g (ps++xs) G (KW N):=by
 unfold aei at hs;split at hs<;>try exact hs.elim
 rename_i zs V' Hp fn hr hoc cL;split at hs
 .exact hs.elim
 rename_i asB;have dZ:rest.all qb=ab:=by simpa using asB
 split at hs
 .exact hs.elim
 rename_i asC;have ku:(l.map (·.1)).Nodup:=Ea (by simpa using asC);split at hs<;>try exact hs.elim
 rename_i t ht;obtain⟨_,aoy⟩:=zI (P:=P) (O:=O) (R:=R) (X:=X) (G:=G) hr dZ;obtain⟨ys,c1,c2⟩:=aoy hx;obtain⟨ins,i1,i2,i3,i4⟩:=JM hJ hoc;obtain⟨us,z,d1,d2,d3⟩:=hs
 have yg:us=.agg (ins.map IV.agg)::ys:=by
  have bS:All2 (λ(z:SE) y=>z.den P O=aa y) (eR (Hp.map eR)::zs) (.agg (ins.map IV.agg)::ys):=⟨gy i3,c1⟩;have:=gy bS;unfold jL at d1;rw[show SE.ac (eR (Hp.map eR)) (eR zs)=eR (eR (Hp.map eR)::zs)from rfl,this]at d1;cases d1;rfl
 subst yg;obtain⟨av4,yh,outs,z0,e1,rfl,e3,e4,asD⟩:=(hC _ _ _ _ d2).2.2.1 g (aw4.1 cL).1 rfl;simp only[axC,IV.agg.injEq]at e1;obtain⟨e1,rfl⟩:=e1;have:=aiu e1;subst this;have yf:outs.length=ins.length:=by have:=congrArg awN e3;simpa using this
 have W1:∀e w,ax P O e=aa w->ax P (O++[IV.aF (z0::outs.map IV.agg)]) e=aa w:=λe w h=>SE.dw P e h;have oK:(SE.var V.n).den P (O++[IV.aF (z0::outs.map IV.agg)])=aa (IV.aF (z0::outs.map IV.agg)):=by simp[SE.den,<-hn]
 have asE:(SE.proj (.var V.n) 0).den P (O++[IV.aF (z0::outs.map IV.agg)])=aa z0:=by simp only[SE.den]at oK⊢;rw[oK];rfl
 refine ZT W1 hJ (ks:=l.map (·.1)) ku (L':=mW (.var V.n) 0 l V.l) (ins:=ins) (outs:=outs) (by simp[i2]) (λi k cs hk hi=>?_) ⟨by rw[hp.len,aw0,i2],λi cs p hi DX=>?_⟩ c2 asD yf JN (λj hj=>Dl hj) (λi k cs hk hi=>?_) KW λR' au v JJ hv=>?_
 .rw[awu]at hk;obtain⟨p,GG,rfl⟩:=awj.1 hk;obtain⟨es,a1,_,a3⟩:=i4 i p cs GG hi;refine⟨_,a1,.mk (by rw[aw0,a3.len]) λq c u hc hu=>?_⟩;rw[awu]at hc;obtain⟨e,he,rfl⟩:=awj.1 hc;exact⟨e,rfl,a3.get he hu⟩
 .have zk:i<l.length:=by rw[<-i2];exact(awa.1 hi).1
  have hli:=av_ zk;obtain⟨es,a1,a2,a3⟩:=i4 i _ cs hli hi;obtain⟨id,ds,b1,b2,b3⟩:=hp.get DX (by rw[awu,hli];rfl);exact⟨id,by simp only[awu,hli,awQ,awc];exact b1,by rw[b3,a2]⟩
 .rw[awu]at hk;obtain⟨p,GG,rfl⟩:=awj.1 hk;have JI:i<ins.length:=by rw[<-yf];exact(awa.1 hi).1
  obtain⟨es,a1,a2,_⟩:=i4 i p _ GG (av_ JI);have ak:p.1<V.l.length:=(awa.1 a1).1;refine⟨_,JO ku GG ak,?_⟩
  have g_:cs.length=p.2:=by
   have h5:=congrArg (λq=>q[i]?) e3;simp only[awu,hi,av_ JI,awQ,awf]at h5;omega
  refine .mk (by simp[g_]) λq c u hc hu=>?_;have hq:=(awa.1 hu).1;rw[awu,ax9 aj]at hc;simp only[awQ,awf]at hc;subst hc;refine⟨_,rfl,?_⟩
  have hoi:(z0::outs.map IV.agg)[0+i+1]?=aa (.agg cs):=by
   rw[axo,axI,awu,hi];rfl
  have Hu:=e4 cs (awq hi) u (awq hu);show(SE.aO _ _).den P _=_;simp only[SE.den]at oK⊢;rw[oK];simp only[awc,hoi,hu];simp[vJ,Hu]
 .obtain⟨g1,g2⟩:=Fm (R:=R') (X:=X) (L:=mW (.var V.n) 0 l V.l) (G:=au) asE hv d3;exact hk {V with n:=V.n+1,l:=mW (.var V.n) 0 l V.l} [IV.aF (z0::outs.map IV.agg)] R' X au v _ JJ rfl (by simp[hn]) rfl g2 g1
def Mu(hC:mj P C)(hJ:J Cx (ax P O) R X V.g V.l E G)(hn:O.length=V.n){g:FuncId}{j:Nat}{zs:List SE}{x:IV}{xs ys:List IV}(hx:cR (ax P O) R X V.l G x (.sr j))
 (hz:All2 (λ(z:SE) y=>z.den P O=aa y) zs ys)(nZ:All2 jJ xs ys)(hs:(IM P g zs j V k).sat P C Q K O){KW:Nat->IV->St->Prop}(hk:Xy Cx P C Q K E O V.ln k KW):
 ∃b,∀N,b<=N->eY P N g (x::xs) G (KW N):=by
 unfold IM at hs;split at hs<;>try exact hs.elim
 rename_i s fr es hj;split at hs<;>try exact hs.elim
 rename_i asF;have aoz:g<P.funcs.size:=by simpa using asF
 obtain⟨⟨_,hr⟩,us,z,h1,h2,h3⟩:=hs;obtain⟨s1,gu,h4,_,jM⟩:=Oq hr
 have yg:us=.tree s1 gu::ys:=by
  have:All2 (λ(z:SE) y=>z.den P O=aa y) (es::zs) (.tree s1 gu::ys):=⟨h4,hz⟩;unfold jL at h1;rw[gy this]at h1;cases h1;rfl
 subst yg;obtain⟨s2,e2,xs2,aT,g1,rfl,Ay⟩:=(hC _ _ _ _ h2).2.1 g aoz rfl;simp only[axC,IV.tree.injEq]at g1;obtain⟨⟨rfl,rfl⟩,rfl⟩:=g1;obtain⟨_,lW,k1,_,_⟩:=hJ.obj j _ hj;have Ca:es.den P O=aa (.tree s lW):=k1;rw[h4]at Ca;cases Ca;have bH:=hJ.up (jj:=ax P (O++[.tree s aT])) (λe y h=>SE.dw P e h)
 have cB:cR (ax P (O++[.tree s aT])) R X V.l G x (.sr j):=by
  have hbv:VR (ax P O) R X V.l G x (.one (.sr j)):=hx;exact VR.up hJ hbv (λe z h=>SE.dw P e h)
 have fg:=bH.Y8 j;have hjd:(V.l.map (LO.drop j))[j]?=aa (.row s af af fr es):=by simp[awu,hj,LO.drop]
 have dv:cR (ax P (O++[.tree s aT])) R X (V.l.map (LO.drop j)) G x (.sr j):=cB.step (Kj bH j) (Cl.aZ _);have oK:(SE.var V.n).den P (O++[.tree s aT])=aa (.tree s aT):=by simp[SE.den,<-hn]
 refine abS fg hjd (SE.dw P es h4) oK jM dv nZ (λd t pv hg=>Mc hg) (λi o hi bg=>by
  rw[awu]at hi;obtain⟨o',_,rfl⟩:=awj.1 hi;exact o'.oD j) Ay KW λR' aU au v a b=>?_
 exact hk ((({V with n:=V.n+1}:SS).u7 j).setObj j (.row s af af af (.var V.n))) [.tree s aT] R' aU au v (.one (.sr j)) a rfl (by simp[hn,SS.u7,SS.setObj]) rfl b h3
def aiw{KW:Nat->IV->St->Prop}(hC:mj P C)(hJ:J Cx (ax P O) R X V.g V.l E G)(hn:O.length=V.n){g:FuncId}{da:List (PV SE)}{xs:List IV}
 (bJ:All2 (VR (ax P O) R X V.l G) xs da)(hs:(aej P g da V k).sat P C Q K O)
 (hk:∀(V1:SS) (I:List IV) (R1:Rs) (eg:Ph) (av:St) (x:IV) (pv:PV SE),J Cx (ax P (O++I)) R1 eg V1.g V1.l E av->V1.ln=V.ln->(O++I).length=V1.n->V1.ln=V.ln->VR (ax P (O++I)) R1 eg V1.l av x pv->(k pv V1).sat P C Q K (O++I)->∃b,∀N,b<=N->KW N x av):
 ∃b,∀N,b<=N->eY P N g xs G (KW N):=by
 unfold aej at hs;split at hs
 .have he:=Mr da;rw[he]at bJ;obtain⟨ps,as_,rfl,hp,hx⟩:=Ms bJ;exact aiv hC hJ hn hp hx hs hk
 split at hs<;>try exact hs.elim
 rename_i c rest _;split at hs<;>try exact hs.elim
 rename_i zs V' hr;split at hs
 .exact hs.elim
 rename_i hp;have vl:rest.all qb=ab:=by simpa using hp
 cases xs with
 |nil=>exact bJ.elim
 |cons x xs=>
  obtain⟨_,dZ⟩:=zI (P:=P) (O:=O) (R:=R) (X:=X) (G:=G) hr vl;obtain⟨ys,c1,c2⟩:=dZ bJ.2;split at hs<;>try exact hs.elim
  .exact Mu hC hJ hn bJ.1 c1 c2 hs hk
  .rename_i b s _;have hx:=bJ.1;unfold newObj at hs;obtain⟨cj,pV⟩:=hx;have qX:(SE.tr s SE.an).den P O=aa (.tree s []):=by simp[SE.den,cj]
   obtain⟨_,fg⟩:=hJ.Aq (fr:=af) cj qX;have oj:(V.l++[LO.row s af af af (SE.tr s SE.an)])[V.l.length]?=aa (.row s af af af (SE.tr s SE.an)):=by simp
   exact Mu (V:={V with l:=V.l++[.row s af af af (.tr s .an)]}) hC fg hn (x:=x) ⟨s,af,af,af,_,[],oj,qX,.inl ⟨xj hJ (awe _),rfl,by subst pV;cases b<;>simp⟩⟩ c1 c2 hs hk
end
section
variable{P:Program}{N:Nat}{Z:Io}{w:World}{G au:St}{e:Env}{rd:Option Nat}{fn:FuncId}{df:List Df}{CW:kT}{ops:Array Oper}{o:Oper}{l:List Oper}
def St.skip(G:St):St:=⟨G.n+1,G.t⟩
@[simp] theorem St.aix(G:St)(j:Nat):G.skip.at j=G.at j:=rfl
@[simp] theorem St.ab0(G:St):G.skip.n=G.n+1:=rfl
def aeW{ob:Ob}(h:Inv N Z (G.add ob) w)(h0:∀id,G.n<=id->G.at id=ah):Inv N Z G.skip w:=
 ⟨h.mem,h.sep,h.gE,h.fresh,h.inj,λid o ho=>h.obj id o (by
  rw[St.aix]at ho;rw[St.iO,if_neg (λhc=>by rw[<-hc,h0 _ (awe _)]at ho;cases ho)];exact ho),λid hid=>h0 id (by simp at hid;omega)⟩
def aiy{ro:Nat}{ob:Ob}{bO:Io}{w1:World}(h:Le ro Z w G bO w1 (G.add ob)):Le ro Z w G bO w1 G.skip:=
 ⟨h.ext,h.own,h.Bz,λ_ h1 _=>h1,λ_ _ _=>rfl,h.yO,h.os,h.tape,h.output,h.size,h.frame,h.yP⟩
def cT.range{g:Operand}{ps:Array Tmp}{gD bd:Code}{f:FuncId}{args:List IV}{RW:IV->St->Prop}(kg:gV P (aB e g) [.sD (G.n+1)]=aa (.enter f args))(hN:G.n+2<=N)
 (h:eY P N f args (G.skip.add (.loop .ready ah 0 e.t e.n ps.toList gD bd G.n)) RW)
 (hRW:∀v lS,RW v lS->lS.n<=N/\∃s p f3 tm lO uZ Jy u4 nH,lS.at (G.n+1)=aa (.loop s p f3 tm lO uZ Jy u4 nH)/\s≠.busy/\
  ∃ex:Ex,ex.Ez=af/\(∀t,ex≠.goto t)/\fK ex=p/\CW ex e (lS.put (G.n+1) (.loop .exhausted p f3 tm lO uZ Jy u4 nH))):
 cT P N ah (.rangeFunc g ps gD bd) e df G CW:=by
 intro B F Z a w Q hF hi he hd hQ;refine wpIn_rangeFunc λPQ _=>?_;obtain⟨w1,bO,ld,marks,i0,l0,u5,LK,C8⟩:=SD (P:=P) (ro:=0) (rd:=ah) (av:=G.add (.Gp af)) (fT:=G.n) (mark:=[.wT G.n]) rfl (by simp;omega) hF hi;have i1:=aeW i0 hi.wf;have l1:=aiy l0
 have Ru:EW B bO w1 G.skip G.n:=by
  obtain⟨l',cz,hh⟩:=i0.obj G.n (.Gp af) ay;rw[u5]at cz;cases cz;refine⟨ld,u5,hi.wf _ (awe _),by simp,?_,hh⟩;rcases l0.own G.n ld.b ⟨0,ld,u5,rfl⟩with⟨e',l',h1,_⟩|h1
  .rw[hi.fresh G.n (awe _) aj e']at h1;cases h1
  .exact awy hd.1 h1
 have jT:=i1.fresh (G.n+1) (awe _) aj 0;have iF:=l9 (l:=⟨w1.heap.size,1,1⟩) jT
 obtain⟨i2,l2⟩:=i1.DN (ro:=0) (go:=.loop {state:=.ready,pending:=ah,fn:=PQ,tmps:=a.tmps,params:=ps,assign:=gD,body:=bd,defers:=ld.b}) (ob:=.loop .ready ah 0 e.t e.n ps.toList gD bd G.n) (by simp;omega)
  ⟨⟨w1.heap.size,1,1⟩,ld,a.tmps,PQ,cE _ _ _ _,iF _ _ _ u5,by simp,he.1.symm,λt=>((he.2 t).mono l1.ext).mono iF⟩
 have gg:eJ bO (G.n+1) 0 ⟨w1.heap.size,1,1⟩ (G.n+1) 0=aa ⟨w1.heap.size,1,1⟩:=cE _ _ _ _;simp only[St.ab0]at i2 l2 gg iF;generalize G7:({w1 with heap:=w1.heap.push (.loop {state:=.ready,pending:=ah,fn:=PQ,tmps:=a.tmps,params:=ps,assign:=gD,body:=bd,defers:=ld.b})}:World)=w2 at i2 l2;generalize eJ bO (G.n+1) 0 ⟨w1.heap.size,1,1⟩=sE at i2 l2 gg iF;obtain⟨d,hZ,g_⟩:=BF (w:=w2) (((he.mono l1.ext).mono iF).eval g) (aL.cons (.sD (G.n+1) _ gg) aL.nil) kg;rcases g_ with⟨f',as_,vs,fM,hinv,dP,_⟩|⟨_,_,fM,_⟩
 .cases fM;refine⟨w1.heap.size,marks,w2,d,w2,f,vs.toArray,w2,by rw[C8,G7],?_,λf' _=>hF.fn f',hinv,hF.depth,?_⟩
  .simpa[resolve,rangeCall,Act.eval]using hZ
  .refine(hF.calls (h sE vs w2 i2 dP)).mono λed w3 hR=>?_;obtain⟨v,lS,vC,hR⟩:=hR;obtain⟨G6,s,p,f3,tm,lO,uZ,Jy,u4,nH,AE,cB,ex,wB,sG,JP,Ud⟩:=hRW v lS vC;cases ed with
   |panicked chain=>exact hR.elim
   |outgrown=>exact hR.elim
   |returned u=>
    obtain⟨PR,_,i3,l3⟩:=hR;have BI:=l3.ext _ _ _ gg;obtain⟨ld3,ts3,f3',hd3,AG,PS,G8⟩:=jU i3 AE BI;obtain⟨i4,l4⟩:=Ah (ro:=0) (dj:=.exhausted) (zB:=p) (f':=f3') i3 (aw5 _) AE BI hd3 PS;refine⟨p,_,by simp only[Instr.endLoop,awn,o9 AG,awg,PO s cB,awA,if_false,gw (P:=P) AG ay,awz];rfl,?_⟩;have l34:=Le.then i2 G6 l3 l4;have BH:=Le.then i1 (by simp only[St.o5,St.ab0];omega) l2 l34;have tA:=Le.then hi (by simp;omega) l1 BH;have e4:cY PR e a.tmps:=he.mono tA.ext
    have d5:∀{w4:World},Le 0 Z w G PR w4 (lS.put (G.n+1) (.loop .exhausted p f3 tm lO uZ Jy u4 nH))->Le 0 bO w1 G.skip PR w4 (lS.put (G.n+1) (.loop .exhausted p f3 tm lO uZ Jy u4 nH))->zm B PR w4 (lS.put (G.n+1) (.loop .exhausted p f3 tm lO uZ Jy u4 nH)) df (marks++a.defers):=by
     intro w4 tA BH;obtain⟨DU,ids,h1,h2,h3⟩:=hd;refine⟨awy DU tA.size,G.n::ids,(LK.mono BH.ext).append (h1.mono tA.ext),λid hid=>?_,axi.2 ⟨λhc=>?_,h3⟩⟩
     .rcases aws.1 hid with rfl|hid
      .exact Ru.step i1 BH
      .exact(h2 id hid).step hi tA
     .obtain⟨_,_,_,ak,_⟩:=h2 _ hc;omega
    cases ex with
    |normal=>simp only[fK]at JP;subst JP;exact hQ _ _ _ Ud _ _ _ [] i4 tA e4 (d5 tA BH) trivial
    |exit i=>simp only[fK]at JP;subst JP;exact wpIn_exit (hQ _ _ _ Ud {a with defers:=marks++a.defers} _ _ [] i4 tA e4 (d5 tA BH) trivial)
    |ret=>simp only[fK]at JP;subst JP;exact wpIn_ret (hQ _ _ _ Ud {a with defers:=marks++a.defers} _ _ [] i4 tA e4 (d5 tA BH) trivial)
    |goto t=>exact absurd rfl (sG t)
    |cd v=>cases wB
 .cases fM
theorem dC.round{m7:Nat}{args:List IV}{SH:FuncId}{tm:T IV}{lO:Nat}{ps:List Tmp}{gD bd:Code}{fT:Nat}(hw:aX o ops e=ab)(hv:aA P 0 (aB e) o G=aa (.round m7 args))
 (aM:G.at m7=aa (.loop .ready ah SH tm lO ps gD bd fT))(hlen:args.length=ps.length)
 (h:cT P N (aa m7) gD ((ps.zip args).foldl (λe (p,v)=>e.put (aa p) v) ⟨lO,tm⟩) [] G (λex e1 av=>ex=.normal/\av.n<=N/\∃f1 Aw EA Xz Ou XA s5,av.at m7=aa (.loop .ready ah f1 Aw EA Xz Ou XA s5)/\
  cT P N (aa m7) bd e1 [] (av.put m7 (.loop .busy ah f1 Aw EA Xz Ou XA s5)) (λex e2 cK=>ex.Ez=af/\cK.n<=N/\∃s3 p3 f3 Ju C7 uZ Fo u4 nH,cK.at m7=aa (.loop s3 p3 f3 Ju C7 uZ Fo u4 nH)/\
   dC P N rd ops l (e.put o.dst (.bool (fK ex).isNone)) df (cK.put m7 (.loop (if(fK ex).isNone then .ready else .done) (fK ex) f3 Ju C7 uZ Fo u4 nH)) CW))):
 dC P N rd ops (o::l) e df G CW:=by
 refine .cons hw λB F Z a w Q k hl hF hi he hd hQ=>?_;refine⟨λf _=>hF.fn f,?_⟩;rw[Oper.semAt_eq _ _ _ (iX hv ay)];obtain⟨loc,us,aeX,hr,h2⟩:=qv hi he.eval hv;obtain⟨ld,ts,f',XB,hh,hE,ak⟩:=jU hi aM aeX;have bf:us.toArray.size=ps.toArray.size:=by simp[<-h2.1,hlen]
 have hy:(aAm loc.b us.toArray).run P w=.ok (.round loc.b f' ((ps.zip us).foldl (λtmps (t,a)=>tmps.setIfInBounds t a) ts) gD bd) w:=by
  have hz:((ps.toArray.zip us.toArray).foldl (λtmps (t,a)=>tmps.setIfInBounds t a) ts)=(ps.zip us).foldl (λtmps (t,a)=>tmps.setIfInBounds t a) ts:=by simp[List.zip_toArray]
  simp only[aAm,awn,o9 hh,awg,bf,ne_eq,not_true_eq_false,if_false,awz,hz]
 rw[hr,hy,Oper.uponIn_round];refine⟨hF.depth,roundIn_of_wpIn (hF.fn f') ?_⟩;rw[hF.inRound];refine h w.heap.size (awP.inRound loc.b) Z {tmps:=_,defers:=[]} w _ (.inr ⟨m7,loc,rfl,aeX,rfl⟩) hi (G4 hE h2) zm.start λex e1 av hc=>?_;obtain⟨rfl,dW,f1,Aw,EA,Xz,Ou,XA,s5,o_,aoA⟩:=hc;intro a1 w1 bO ft i1 l1 cM d1 p1;have mM:=l1.ext _ _ _ aeX;obtain⟨ld1,ts1,f1',AF,wE,kZ,qZ⟩:=jU i1 o_ mM;obtain⟨i2,l2⟩:=Ah (ro:=0) (dj:=.busy) (zB:=ah) (f':=f1') i1 (aw5 _) o_ mM AF kZ;refine⟨_,by simp only[Instr.beginRound,awn,o9 wE,awg,gw (P:=P) wE ay,awz];rfl,?_⟩;refine aoA w.heap.size (awP.inRound loc.b) bO a1 _ _ (.inr ⟨m7,loc,rfl,mM,rfl⟩) i2 cM (d1.step i1 l2) λex e2 cK hc=>?_;obtain⟨hnp,zi,s3,p3,f3,Ju,C7,uZ,Fo,u4,nH,AE,aeY⟩:=hc;intro a2 w2 sE ch2 i3 l3 e2' d2 p2;refine G5 (by simp[hnp]) ?_;have gg:=l3.ext _ _ _ mM;obtain⟨ld2,ts2,f2',Jv,uY,BG,dY⟩:=jU i3 AE gg;obtain⟨i4,l4⟩:=Ah (ro:=0) (dj:=if(fK ex).isNone then .ready else .done) (zB:=fK ex) (f':=f2') i3 (aw5 _) AE gg Jv BG;have BH:=Le.then i2 zi l3 l4;have tA:=Le.then i1 (by simp only[St.mY];exact dW) l2 BH;have l04:=Le.then hi dW l1 tA;refine⟨.bool (fK ex).isNone,_,by simp only[Instr.endRound,awn,o9 uY,awg,gw (P:=P) uY ay,awz];rfl,?_⟩;exact aeY B F sE _ _ Q (k+1) hl (hF.mono l04.ext) i4 ((he.mono l04.ext).put (.raw _) _) (by have:=hd.step hi l04;cases o.dst<;>exact this) (λex e' au hc=>(hQ ex e' au hc).from hi l04 (by simp only[St.mY];exact zi))
end
section
variable{Cx:Cs}
variable{P:Program}{N:Nat}{G au:St}{R R':Rs}{X aU:Ph}{E:Nat->Env}{O:List IV}{ro:Nat}{Z:Io}{w:World}{cfg:fe}{self:nJ}
variable{C:Cr}{Q:IV->Prop}{K:List (List IV->Prop)}{V:SS}{d f0:Nat}{o:Oper}{k:PV SE->SS->aq}{L:List (LO SE)}{Γ:Gm SE}{rd:Option Nat}{df:List Df}
variable{kx:Kx}{sk:List Nat}{ops:Array Oper}{l:List Oper}{kk:SS->aq}{CX:Nat->kT}
def J.ZY(hJ:J Cx (ax P O) R X Γ L E G){j m7 c st dj f:Nat}{sn wI:List (Nat×PV SE)}{rc:agu}{tm:T IV}{s:LoopState}{p:Option Code}{fT:Nat}(jS:X j=aa m7)(hj:L[j]?=aa (.lp c st sn))(hR:R m7=ah)
 (hc:dj<2->Cx[c]?=aa rc)(hl:Y6 dj s p)(ym:∀q∈wI,q.2.q_=ab/\VR (ax P O) R X L G ((⟨rc.n,tm⟩:Env).at q.1) q.2):
 J Cx (ax P O) R X Γ (L.set j (.lp c dj wI)) E (G.put m7 (.loop s p f tm rc.n rc.ps rc.gD rc.bd fT))/\
 kL (ax P O) (ax P O) R X L G R X (L.set j (.lp c dj wI)) (G.put m7 (.loop s p f tm rc.n rc.ps rc.gD rc.bd fT)) (λ_=>False):=by
 obtain⟨h1,h2⟩:=hJ.tE (R':=R) (bad:=λ_=>False) (kq:=.lp c dj wI) (fp:=.loop s p f tm rc.n rc.ps rc.gD rc.bd fT) jS hj (λ_ _=>rfl)
  (λm hm=>by rw[hR]at hm;cases hm) (λm _ _ _ hm=>by rw[hR]at hm;cases hm) (λm _ _ _ hm=>by rw[hR]at hm;cases hm)
  (λ_ h=>by cases h) (λ_ _ h=>by cases h) (λ_ _ _ _ _ h=>by cases h) (λ_ _ pv _=>pv.aZ) (λ_ o _ _=>o.aZ)
  (λfq=>⟨m7,rc,tm,fT,s,p,f,jS,hR,hc,by rw[St.cW,if_pos rfl],hl,λq hq=>⟨(ym q hq).1,(ym q hq).2.step fq (PV.aZ _)⟩⟩)
  (λ_ _ _ _=>⟨c,dj,wI,rfl⟩)
 exact⟨h2,h1⟩
theorem Mv{d d' t:Nat}{pv:PV SE}:∀{sn:List (Nat×PV SE)},ct d' t (L4 d sn)=aa pv->d'=d/\(t,pv)∈sn
 |[],h=>by cases h
 |q::sn,h=>by
  rcases lU (show ct d' t ((d,q.1,q.2)::L4 d sn)=aa pv from h)with⟨rfl,rfl,rfl⟩|⟨_,h2⟩
  .exact⟨rfl,by simp⟩
  .obtain⟨h3,h4⟩:=Mv h2;exact⟨h3,by simp[h4]⟩
theorem Ue{D:Nat}:∀{ps:List Tmp} {args:List IV} {da:List (PV SE)} {Γ:Gm SE} {e0:Env},J Cx (ax P O) R X Γ L (kS E D e0) G->All2 (VR (ax P O) R X L G) args da->(∀p∈ps,p<e0.n)->
 J Cx (ax P O) R X (IN D ps da Γ) L (kS E D ((ps.zip args).foldl (λe (p,v)=>e.put (aa p) v) e0)) G/\((ps.zip args).foldl (λe (p,v)=>e.put (aa p) v) e0).n=e0.n
 |[],_,_,_,_,h,_,_=>⟨by simpa[IN]using h,rfl⟩
 |p::ps,[],[],_,_,h,_,_=>⟨by simpa[IN]using h,rfl⟩
 |p::ps,a::args,v::da,Γ,e0,h,ha,hp=>by
  have h1:=h.put D (t:=p) (x:=a) (pv:=v) (by rw[bI];exact hp p ay) ha.1;rw[bI,abr]at h1;obtain⟨h2,h3⟩:=Ue (ps:=ps) h1 ha.2 (λq hq=>by rw[eO];exact hp q (by simp[hq]));exact⟨h2,by simp only[List.zip_cons_cons,List.foldl_cons];rw[h3,eO]⟩
 |p::ps,[],_::_,_,_,_,h,_=>h.elim
 |p::ps,_::_,[],_,_,_,h,_=>h.elim
def aiz{pv:PV SE}{j:Nat}(h:Tw pv j=ab):pv=.one (.yl j):=by
 unfold Tw at h;split at h
 .rw[awk h]
 .cases h
def ab1(bE:ou Cx P C Q self)(ih:A8 Cx P C Q cfg self kx d f0 ops rd df kk CX sk l)(hJ:J Cx (ax P O) R X V.g V.l E G)(hn:O.length=V.n)(hK:K.length=V.lv)(bR:(E d).n=V.nt)
 (hd:∀t,o.dst=aa t->t<(E d).n)(pX:∀x,kU ((E d).put o.dst x) sk)(dz:KS Cx P C Q d E K O V.nt kk (λN e G=>CX N .normal e G))(gR:KP Cx P C Q d E K O V.nt kx (λN v e G=>CX N (.cd v) e G))(hw:aX o ops (E d)=ab)
 {c:Call}{fo:Operand}{j:Nat}(ho:o.op=.call c)(hc:c.callee=.value fo)(hf:bM P d V 0 fo=.one (.yl j))
 (hs:(Tx P self Cx d f0 o.dst fo j (jX P d V c.args.toList c.argTypes.toList) V λpv V=>gO P cfg self kx Cx d f0 af ops sk l (V.bY d o.dst pv) kk).sat P C Q K O):
 ∃b,∀N,b<=N->dC P N rd ops (o::l) (E d) df G (CX N):=by
 have sO:=bw hJ d 0 fo;rw[hf]at sO;obtain⟨m7,_,_,_,p1,_,p3⟩:=sO
 have link:∀{V':SS} {ν':List IV} {R':Rs} {aU:Ph} {E':Nat->Env} {au:St},J Cx (ax P ν') R' aU V'.g V'.l E' au->E' d=E d->Tw (bM P d V' 0 fo) j=ab->aU j=aa m7:=by
  intro V' ν' R' aU E' au JJ mq hy;have hv:=bw JJ d 0 fo;rw[aiz hy]at hv;obtain⟨id,_,_,_,a1,_,a3⟩:=hv;rw[mq,p3]at a3;cases a3;exact a1
 unfold Tx at hs;split at hs<;>try exact hs.elim
 rename_i c0 sn hj;split at hs<;>try exact hs.elim
 rename_i rc Ay;split at hs<;>try exact hs.elim
 rename_i cn;simp only[awb,awV,awt]at cn;obtain⟨hlen,nY⟩:=cn;obtain⟨id,rc',tm,fT,s,p,f,q1,q2,q3,q4,q5,q6⟩:=hJ.obj j _ hj;rw[p1]at q1;cases q1;have akP:=q3 aj;rw[Ay]at akP;cases akP;obtain⟨rfl,rfl⟩:=q5;have bJ:=i_ hJ d c.args.toList c.argTypes.toList;have ey:(c.args.toList.map (aB (E d))).length=rc.ps.length:=by rw[bJ.len];exact hlen
 have fv:aA P 0 (aB (E d)) o G=aa (.round m7 (c.args.toList.map (aB (E d)))):=by
  simp only[aA,ho,hc];rw[p3];rfl
 have mh:J Cx (ax P O) R X (L4 (d+1) sn++eE (d+1) V.g) V.l (kS E (d+1) ⟨rc.n,tm⟩) G:=by
  refine{hJ with slot:=λd' t pv hg=>?_};rcases Dk hg with hg|hg
  .obtain⟨rfl,h2⟩:=Mv hg;rw[bI];exact(q6 _ h2).2
  .obtain⟨h1,h2⟩:=pf hg;rw[eS _ _ _ h1];exact hJ.slot d' t pv h2
 obtain⟨bH,dW⟩:=Ue mh bJ (λq hq=>by have:=nY q hq;simpa using this)
 obtain⟨b,hb⟩:=bE ab (d+1) _ rc.gD {V with g:=IN (d+1) rc.ps (jX P d V c.args.toList c.argTypes.toList) (L4 (d+1) sn++eE (d+1) V.g),nt:=rc.n} _ O K R X _ G
  (λN ex e1 av=>ex=.normal/\av.n<=N/\∃f1 Aw EA Xz Ou XA s5,av.at m7=aa (.loop .ready ah f1 Aw EA Xz Ou XA s5)/\
   cT P N (aa m7) rc.bd e1 [] (av.put m7 (.loop .busy ah f1 Aw EA Xz Ou XA s5)) (λex e2 cK=>ex.Ez=af/\cK.n<=N/\∃s3 p3 f3 Ju C7 uZ Fo u4 nH,cK.at m7=aa (.loop s3 p3 f3 Ju C7 uZ Fo u4 nH)/\
    dC P N rd ops l ((E d).put o.dst (.bool (fK ex).isNone)) df (cK.put m7 (.loop (if(fK ex).isNone then .ready else .done) (fK ex) f3 Ju C7 uZ Fo u4 nH)) (CX N)))
  (aa m7) [] ay hs bH hn hK (by rw[bI,dW]) (by
   intro ex V' I K' R' aU E' au x hF hx bp;dsimp only at bp;split at bp<;>try exact bp.elim
   rename_i c1 sn1 hj1;split at bp<;>try exact bp.elim
   rename_i jy;simp only[awb,awV]at jy;obtain⟨rfl,GC⟩:=jy;obtain rfl:=hx;have akQ:E' d=E d:=by rw[hF.hE d aj,eS _ _ _ aj]
   have r0:=link hF.hJ akQ GC;obtain⟨id1,JQ,Aw,s5,s1,p1',f1,r1,r2,r3,r4,r5,r6⟩:=hF.hJ.obj j _ hj1;rw[r0]at r1;cases r1;have akR:=r3 aj;rw[Ay]at akR;cases akR;obtain⟨rfl,rfl⟩:=r5;obtain⟨fg,_⟩:=hF.hJ.ZY (dj:=1) (f:=f1) (fT:=s5) (s:=.busy) (p:=ah) r0 hj1 r2 (λ_=>Ay) ⟨rfl,rfl⟩ r6
   obtain⟨b2,dv⟩:=bE ab (d+1) _ rc.bd {V' with l:=V'.l.set j (.lp c0 1 sn1)} _ (O++I) K' R' aU E' _
    (λN ex e2 cK=>ex.Ez=af/\cK.n<=N/\∃s3 p3 f3 Ju C7 uZ Fo u4 nH,cK.at m7=aa (.loop s3 p3 f3 Ju C7 uZ Fo u4 nH)/\
     dC P N rd ops l ((E d).put o.dst (.bool (fK ex).isNone)) df (cK.put m7 (.loop (if(fK ex).isNone then .ready else .done) (fK ex) f3 Ju C7 uZ Fo u4 nH)) (CX N))
    (aa m7) [] ay bp fg hF.hn hF.fW (by rw[hF.GF,bI,dW,hF.bR]) (by
     intro XC V2 μ2 K2 R2 B9 E2 cK x2 JR sG gJ;dsimp only at gJ;split at gJ<;>try exact gJ.elim
     rename_i c2 sn2 BE;split at gJ<;>try exact gJ.elim
     rename_i akS;simp only[awb,awV]at akS;obtain⟨rfl,asG⟩:=akS;have akT:E2 d=E d:=by rw[JR.hE d aj,akQ]
     have t0:=link JR.hJ akT asG;obtain⟨Te,rc2,tm2,Uf,s2,p2,f2,t1,t2,t3,t4,t5,t6⟩:=JR.hJ.obj j _ BE;rw[t0]at t1;cases t1;have akU:=t3 aj;rw[Ay]at akU;cases akU
     have fin:∀(dj:Nat) (wI:List (Nat×PV SE)) (b0:Bool) (jp:Option Code),(∀q∈wI,q∈sn2)->Y6 dj (if jp.isNone then .ready else .done) jp->jp.isNone=b0->
      (gO P cfg self kx Cx d f0 af ops sk l (SS.bY {V2 with g:=eE (d+1) V2.g,nt:=V.nt,l:=V2.l.set j (.lp c0 dj wI)} d o.dst (.one (.v (.b b0)))) kk).sat P C Q K2 (O++I++μ2)->
      ∃b,∀N,b<=N->dC P N rd ops l ((E d).put o.dst (.bool b0)) df (cK.put m7 (.loop (if jp.isNone then .ready else .done) jp f2 tm2 rc.n rc.ps rc.gD rc.bd Uf)) (CX N):=by
      intro dj wI b0 jp iG Gy hb0 lQ;obtain⟨vM,_⟩:=JR.hJ.ZY (dj:=dj) (wI:=wI) (f:=f2) (fT:=Uf) t0 BE t2 (λ_=>Ay) Gy (λq hq=>t6 q (iG q hq));have hJ4:=vd (V:={V2 with l:=V2.l.set j (.lp c0 dj wI)}) vM (d+1)
      have:=ia (V1:={V2 with g:=eE (d+1) V2.g,nt:=V.nt,l:=V2.l.set j (.lp c0 dj wI)}) (I:=I++μ2) (K1:=K2) (R1:=R2) (eg:=B9) (E1:=E2) (x:=.bool b0) (pv:=.one (.v (.b b0))) ih pX hd bR dz gR
       (by rw[<-awv];exact hJ4) (by rw[<-awv];exact JR.hn) (hF.hK.trans JR.hK) JR.fW rfl (λi hi=>by rw[JR.hE i aj,hF.hE i aj,eS _ _ _ aj]) akT
       ⟨.raw (.bool b0),rfl,.raw _,rfl⟩ (by rw[<-awv];exact lQ)
      exact this
     unfold akr at gJ;cases XC with
     |cd t pv=>exact gJ.elim
     |normal=>
      obtain rfl:=sG;obtain⟨b3,dL⟩:=fin 0 sn2 ab ah (λq hq=>hq) ⟨rfl,rfl⟩ rfl gJ;exact⟨max b3 cK.n,λN hN=>⟨by omega,rfl,by omega,s2,p2,f2,tm2,_,_,_,_,Uf,t4,dL N aj⟩⟩
     |ret=>
      obtain rfl:=sG;obtain⟨b3,dL⟩:=fin 2 [] af (aa .ret) (λq hq=>by cases hq) ⟨by simp,rfl⟩ rfl gJ;exact⟨max b3 cK.n,λN hN=>⟨by omega,rfl,by omega,s2,p2,f2,tm2,_,_,_,_,Uf,t4,dL N aj⟩⟩
     |exit i=>
      obtain rfl:=sG;obtain⟨b3,dL⟩:=fin (i+4) [] af (aa (.exit i)) (λq hq=>by cases hq) ⟨by simp,rfl⟩ rfl gJ;exact⟨max b3 cK.n,λN hN=>⟨by omega,rfl,by omega,s2,p2,f2,tm2,_,_,_,_,Uf,t4,dL N aj⟩⟩)
   exact⟨max b2 au.n,λN hN=>⟨by omega,rfl,by omega,f1,Aw,_,_,_,_,s5,r4,dv N aj⟩⟩)
 refine⟨b,λN hN=>?_⟩;have:=hb N hN;rw[bI]at this;exact .round hw fv q4 ey this
theorem J.skip(hJ:J Cx (ax P O) R X Γ L E G):J Cx (ax P O) R X Γ L E G.skip:=by
 have hg:iZ R G R G.skip:=⟨λ_ m h=>⟨m,h,awe _⟩,λid m cs aD mn _ aM=>⟨cs,aD,aM,awe _,λ_ _=>rfl⟩,hJ.fits⟩;have hs:kL (ax P O) (ax P O) R X L G R X L G.skip (λ_=>False):=.mk' (λ_ _ h=>h) hg (λk cs hk=>⟨⟨cs,hk⟩,rfl⟩) (λk kt es hk=>⟨⟨es,hk⟩,rfl⟩) (λk s st cut fr z hk _=>⟨⟨st,hk⟩,rfl,λ_ _=>rfl⟩) (λk c st snap hk=>⟨⟨c,st,snap,hk⟩,rfl⟩)
 exact⟨λd t pv hg=>(hJ.slot d t pv hg).step hs pv.aZ,λk o hk=>(hJ.obj k o hk).step hs rfl (λ_ _=>⟨rfl,rfl⟩) o.aZ,hJ.inj,λk id hk=>⟨(hJ.lt k id hk).1,aAV (hJ.lt k id hk).2⟩,
  λid m h=>aAV (hJ.qz id m h),hJ.fits,hJ.wf,λid hid=>hJ.top id (Nat.le_of_succ_le hid)⟩
def J.cx(hJ:J Cx (ax P O) R X Γ L E G){Cx':Cs}(h:∀(k c st:Nat) (sn:List (Nat×PV SE)),L[k]?=aa (LO.lp c st sn)->st<2->∀rc,Cx[c]?=aa rc->Cx'[c]?=aa rc):J Cx' (ax P O) R X Γ L E G:=by
 refine{hJ with obj:=λk o hk=>?_};have ho:=hJ.obj k o hk;cases o with
 |lp c st sn=>
  obtain⟨id,rc,tm,fT,s,p,f,q1,q2,q3,q4,q5,q6⟩:=ho;exact⟨id,rc,tm,fT,s,p,f,q1,q2,λcy=>h k c st sn hk cy rc (q3 cy),q4,q5,q6⟩
 |_=>exact ho
def ab2{q:Nat×PV SE}(h:q∈pT d V):ct d q.1 V.g=aa q.2/\q.2.q_=ab:=by
 unfold pT at h;obtain⟨p,_,hp⟩:=azs.1 h;split at hp<;>try (cases hp;done)
 split at hp<;>try (cases hp;done)
 split at hp<;>try (cases hp;done)
 rename_i cy;cases hp;exact⟨‹_›,cy⟩
theorem Ug{c j:Nat}:∀{L:List (LO SE)} {k0:Nat},BZ c j k0 L=ab->∀{k c' st:Nat} {sn:List (Nat×PV SE)},L[k]?=aa (.lp c' st sn)->k0+k≠j->st<2->c'<c
 |[],_,_,k,_,_,_,h,_,_=>by simp at h
 |o::L,k0,hl,k,c',st,sn,h,hj,cy=>by
  cases k with
  |zero=>
   simp at h;subst h;simp only[BZ,awb,awO,awV,Nat.ble_eq]at hl;rcases hl.1 with(h1|h1)|h1
   .omega
   .omega
   .simpa using h1
  |succ k=>
   have cz:BZ c j (k0+1) L=ab:=by
    cases o<;>simp only[BZ,awb]at hl<;>first|exact hl|exact hl.2
   exact Ug cz (by simpa using h) aj cy
def ab3{i9:Cs->nJ}(Mw:∀Cx,ou Cx P C Q (i9 Cx))(hJ:J Cx (ax P O) R X V.g V.l E G)(hn:O.length=V.n)(hK:K.length=V.lv)(bR:(E d).n=V.nt){k:yw->SS->aq}{CW:Nat->kT}(jl:KW Cx P C Q d E K O V.nt k CW)
 {g:Operand}{params:Array Tmp}{assign body:Code}{F:FuncId}{bs:List (Nat×Nat)}{f1:Nat}(hg:bM P d V 0 g=.one (.fn F bs))
 (hs:(oH P cfg (i9 (Cx++[⟨params.toList,assign,body,V.nt⟩])) (λ_ _ _=>.fail 135) (d+1) f1 ah F (.one (.yl V.l.length)::bs.map λ(k,ext)=>.one (.pt k 0 ext))
    {V with g:=(d+1,0,.one (.yl V.l.length))::eE (d+1) V.g,l:=V.l++[.lp Cx.length 0 (pT d V)],nt:=1} λ_ W=>match ct (d+1) 0 W.g,W.l[V.l.length]? with
     |some (.one (.yl j)),aa (.lp c' st _)=>if awl j V.l.length&&awl c' Cx.length&&BZ Cx.length V.l.length 0 W.l then aks V.l.length Cx.length st {W with g:=eE (d+1) W.g,nt:=V.nt} k else .fail 137
     |_,_=>.fail 137).sat P C Q K O):
 ∃b,∀N,b<=N->cT P N ah (.rangeFunc g params assign body) (E d) df G (CW N):=by
 have cL:∃fn,P.funcs[F]?=aa fn/\fn.body.isSome=ab/\(fn.name != "runtime.NumGoroutine")=ab:=by
  unfold oH at hs;split at hs<;>try exact hs.elim
  rename_i fn cL;split at hs<;>try exact hs.elim
  rename_i body hb;split at hs<;>try exact hs.elim
  split at hs<;>try exact hs.elim
  rename_i jy;simp only[awb]at jy;exact⟨fn,cL,by simp[hb],jy.2⟩
 obtain⟨fn,cL,hb,ot⟩:=cL
 have hJc:J (Cx++[⟨params.toList,assign,body,V.nt⟩]) (ax P O) R X V.g V.l E G.skip:=hJ.skip.cx λk c st sn _ _ rc h=>by
  rw[awp (c7 h)];exact h
 have cj:=DY hJc (.loop .ready ah 0 (E d).t (E d).n params.toList assign body G.n) (.lp Cx.length 0 (pT d V))
 have bH:=hJc.yS (.loop .ready ah 0 (E d).t (E d).n params.toList assign body G.n) (.lp Cx.length 0 (pT d V))
  ⟨G.skip.n,⟨params.toList,assign,body,V.nt⟩,(E d).t,G.n,.ready,ah,0,by simp[bT],hJc.ra,λ_=>by simp,by rw[St.iO,if_pos rfl,bR],⟨rfl,rfl⟩,λq hq=>by
   obtain⟨h1,h2⟩:=ab2 hq;exact⟨h2,(hJc.slot d q.1 q.2 h1).step cj (PV.aZ _)⟩⟩
 have akV:=bw (V:={V with l:=V.l++[.lp Cx.length 0 (pT d V)]}) bH d 0 g;rw[show bM P d {V with l:=V.l++[.lp Cx.length 0 (pT d V)]} 0 g=.one (.fn F bs)from hg]at akV;obtain⟨ys,kg,va⟩:=m6 (args:=[.sD (G.n+1)]) akV cL hb ot
 have GC:VR (ax P O) R (bT X V.l.length G.skip.n) (V.l++[.lp Cx.length 0 (pT d V)]) (G.skip.add (.loop .ready ah 0 (E d).t (E d).n params.toList assign body G.n)) (.sD (G.n+1)) (.one (.yl V.l.length)):=
  ⟨G.n+1,Cx.length,0,pT d V,by simp[bT],by simp,rfl⟩
 obtain⟨e1,kZ⟩:∃e1,e1=(⟨1,.lf⟩:Env).put (aa 0) (.sD (G.n+1)):=⟨_,rfl⟩;have akW:e1.at 0=.sD (G.n+1):=by rw[kZ];exact cC (by decide)
 have aeP:e1.n=1:=by rw[kZ];exact eO ..
 have fg:J (Cx++[⟨params.toList,assign,body,V.nt⟩]) (ax P O) R (bT X V.l.length G.skip.n) ((d+1,0,.one (.yl V.l.length))::eE (d+1) V.g) (V.l++[.lp Cx.length 0 (pT d V)]) (kS E (d+1) e1) (G.skip.add (.loop .ready ah 0 (E d).t (E d).n params.toList assign body G.n)):=by
  refine{bH with slot:=λd' t pv wN=>?_};rcases lU wN with⟨rfl,rfl,rfl⟩|⟨bg,wN⟩
  .rw[bI,akW];exact GC
  .obtain⟨h1,h2⟩:=pf wN;rw[eS _ _ _ h1];exact bH.slot d' t pv h2
 obtain⟨_,_,_,_,b,hcx⟩:=zJ (d:=d+1) (V:={V with g:=(d+1,0,.one (.yl V.l.length))::eE (d+1) V.g,l:=V.l++[.lp Cx.length 0 (pT d V)],nt:=1}) (E:=kS E (d+1) e1) (args:=.sD (G.n+1)::ys) (da:=.one (.yl V.l.length)::bs.map λ(p:Nat×Nat)=>.one (.pt p.1 0 p.2))
  (RW:=λN _ lS=>lS.n<=N/\∃s p f3 tm lO uZ Jy u4 nH,lS.at (G.n+1)=aa (.loop s p f3 tm lO uZ Jy u4 nH)/\s≠.busy/\
   ∃ex:Ex,ex.Ez=af/\(∀t,ex≠.goto t)/\fK ex=p/\CW N ex (E d) (lS.put (G.n+1) (.loop .exhausted p f3 tm lO uZ Jy u4 nH)))
  (PW:=λ_ _ _=>False) (Mw _) fg hn hK (by rw[bI,aeP]) ⟨GC,va⟩ hs (by
   intro pv V' I K' R' aU E' au v hF mq hv bp;split at bp<;>try exact bp.elim
   rename_i j1 c1 m5 sn1 hg1 mM;split at bp<;>try exact bp.elim
   rename_i jy;simp only[awb,awV]at jy;obtain⟨⟨rfl,rfl⟩,ad7⟩:=jy;have wC:=hF.hJ.slot (d+1) 0 _ hg1;obtain⟨sF,_,_,_,a1,_,a3⟩:=wC;rw[mq,bI,akW]at a3;cases a3;obtain⟨id,JQ,Aw,s5,s1,p1,f1,r1,r2,r3,r4,r5,r6⟩:=hF.hJ.obj _ _ mM;rw[a1]at r1;cases r1;have vS:E' d=E d:=by rw[hF.hE d aj,eS _ _ _ aj]
   have fin:∀(dj:Nat) (XC:yw) (ex:Ex),2<=dj->Y6 dj .exhausted p1->(∀(R:Rs) X L G,XR P (O++I) R X L G XC ex)->
    (k XC {V' with g:=eE (d+1) V'.g,nt:=V.nt,l:=V'.l.set V.l.length (.lp Cx.length dj [])}).sat P C Q K' (O++I)->
    ∃b,∀N,b<=N->au.n<=N/\CW N ex (E d) (au.put (G.n+1) (.loop .exhausted p1 f1 Aw JQ.n JQ.ps JQ.gD JQ.bd s5)):=by
    intro dj XC ex cy Gy hxr lQ;obtain⟨vM,_⟩:=hF.hJ.ZY (dj:=dj) (wI:=[]) (rc:=JQ) (tm:=Aw) (f:=f1) (fT:=s5) (s:=.exhausted) (p:=p1) a1 mM r2 (λh=>by omega) Gy (λq hq=>by cases hq)
    have hJ4:J Cx (ax P (O++I)) R' aU V'.g (V'.l.set V.l.length (.lp Cx.length dj [])) E' (au.put (G.n+1) (.loop .exhausted p1 f1 Aw JQ.n JQ.ps JQ.gD JQ.bd s5)):=vM.cx λk2 c st sn lR asH rc Ay=>by
     rw[aAH]at lR;split at lR
     .split at lR
      .cases lR;omega
      .cases lR
     .have ak:c<Cx.length:=Ug ad7 lR aj asH;rw[awp ak]at Ay;exact Ay
    have hJ5:=vd (V:={V' with l:=V'.l.set V.l.length (.lp Cx.length dj [])}) hJ4 (d+1)
    obtain⟨b,hb⟩:=jl XC {V' with g:=eE (d+1) V'.g,nt:=V.nt,l:=V'.l.set V.l.length (.lp Cx.length dj [])} I K' R' aU E' _ ex
     ⟨hF.hK,hF.fW,rfl,hJ5,hF.hn,λi hi=>by rw[hF.hE i aj,eS _ _ _ aj],by rw[vS]⟩ (hxr _ _ _ _) lQ
    refine⟨b,λN hN=>⟨(hb N hN).1,?_⟩⟩;have:=(hb N hN).2;rw[vS]at this;exact this
   rcases m5 with _|_|_|_|i
   .obtain⟨rfl,rfl⟩:=r5;obtain⟨b,hb⟩:=fin 3 .normal .normal aj ⟨by simp,rfl⟩ (λ_ _ _ _=>rfl) bp;exact⟨b,λN hN=>⟨(hb N hN).1,(hb N hN).1,_,_,_,_,_,_,_,_,_,r4,by simp,.normal,rfl,by simp,rfl,(hb N hN).2⟩⟩
   .exact bp.elim
   .obtain⟨cB,rfl⟩:=r5;obtain⟨b,hb⟩:=fin 2 .ret .ret aj ⟨by simp,rfl⟩ (λ_ _ _ _=>rfl) bp;exact⟨b,λN hN=>⟨(hb N hN).1,(hb N hN).1,_,_,_,_,_,_,_,_,_,r4,cB,.ret,rfl,by simp,rfl,(hb N hN).2⟩⟩
   .exact bp.elim
   .obtain⟨cB,rfl⟩:=r5;obtain⟨b,hb⟩:=fin (i+4) (.exit i) (.exit i) aj ⟨by simp,rfl⟩ (λ_ _ _ _=>rfl) bp;exact⟨b,λN hN=>⟨(hb N hN).1,(hb N hN).1,_,_,_,_,_,_,_,_,_,r4,cB,.exit i,rfl,by simp,rfl,(hb N hN).2⟩⟩) (by
   intro t pv V' I K' R' aU E' au v hF mq hv bp;exact bp.elim)
 refine⟨max b (G.n+2),λN hN=>.range (f:=F) (args:=.sD (G.n+1)::ys) ?_ aj ((hcx N aj).toW λ_ _ h=>h) λv lS h=>h⟩;exact kg
def lD{V V1:SS}(h:V1.ln=V.ln):V1.lv=V.lv/\V1.nt=V.nt:=by
 simp only[SS.ln,awM]at h;exact h
def ab4(hC:mj P C)(bE:ou Cx P C Q self)(ih:A8 Cx P C Q cfg self kx d f0 ops rd df kk CX sk l)(hJ:J Cx (ax P O) R X V.g V.l E G)(hn:O.length=V.n)(hK:K.length=V.lv)(bR:(E d).n=V.nt)
 (hd:∀t,o.dst=aa t->t<(E d).n)(pX:∀x,kU ((E d).put o.dst x) sk)(dz:KS Cx P C Q d E K O V.nt kk (λN e G=>CX N .normal e G))(gR:KP Cx P C Q d E K O V.nt kx (λN v e G=>CX N (.cd v) e G))(hw:aX o ops (E d)=ab)
 (hs:(L5 P cfg self kx Cx d f0 af o V λpv V=>gO P cfg self kx Cx d f0 af ops sk l (V.bY d o.dst pv) kk).sat P C Q K O):
 ∃b,∀N,b<=N->dC P N rd ops (o::l) (E d) df G (CX N):=by
 have Mx:(gH P d o V λpv V=>gO P cfg self kx Cx d f0 af ops sk l (V.bY d o.dst pv) kk).sat P C Q K O->∃b,∀N,b<=N->dC P N rd ops (o::l) (E d) df G (CX N):=by
  intro hs;obtain⟨x,av,R1,eg,pv,V1,I,h1,h2,h3,h4,h5,h6⟩:=abR hJ hn hs;obtain⟨b,hb⟩:=ia ih pX hd bR dz gR h2 h4 (axb K) (by rw[(lD h5).1];exact hK) (lD h5).2 (λ_ _=>rfl) rfl h3 h6;exact⟨max b av.n,λN hN=>.val hw h1 aj (hb N aj)⟩
 unfold L5 at hs;split at hs
 .rename_i c ho;unfold Zs at hs;split at hs
  .exact Mx hs
  .rename_i f hc;split at hs
   rotate_left
   .rename_i j hf;simp only[awA,if_false]at hs;exact ab1 bE ih hJ hn hK bR hd pX dz gR hw ho hc hf hs
   .exact hs.elim
   rename_i g bs hf;simp only at hs;split at hs
   .rename_i t cf wJ pc;obtain⟨rfl,sN,_⟩:=Mq pc;split at hs<;>try exact hs.elim
    rename_i fn cL;split at hs<;>try exact hs.elim
    rename_i cn;simp only[awb]at cn;have sO:=bw hJ d 0 f;rw[hf]at sO;have bJ:=i_ hJ d c.args.toList c.argTypes.toList;obtain⟨ys,kg,va⟩:=m6 (args:=c.args.toList.map (aB (E d))) sO cL cn.1.2 cn.2
    have KG:ys=[]:=by
     cases ys with
     |nil=>rfl
     |cons=>exact va.elim
    subst KG;rw[aww]at kg
    have fv:aA P 0 (aB (E d)) o G=aa (.enter g (c.args.toList.map (aB (E d)))):=by
     simp only[aA,ho,hc];exact kg
    rw[sN]at bJ
    obtain⟨cl,g_,asI⟩:∃cl,c.args.toList.map (aB (E d))=[cl]/\VR (ax P O) R X V.l G cl (.one (.fn cf wJ)):=by
     generalize c.args.toList.map (aB (E d))=l at bJ
     match l,bJ with
     |[cl],bJ=>exact⟨cl,rfl,bJ.1⟩
    obtain⟨b,hb⟩:=Qt (RW:=λN v av=>av.n<=N/\dC P N rd ops l ((E d).put o.dst v) df av (CX N)) hC bE hJ hn hK bR (aw4.1 cL).1 asI hs (by
     intro pv V' I K' R' aU E' au v hF mq hv bp;obtain⟨b,hb⟩:=ia ih pX hd bR dz gR hF.hJ hF.hn hF.hK hF.fW hF.bR hF.hE mq hv bp;exact⟨max b au.n,λN hN=>⟨by omega,by omega,hb N aj⟩⟩)
    rw[g_]at fv;exact⟨b,λN hN=>.call hw fv (hb N hN) λv av hv=>hv⟩
   split at hs
   .rename_i hp;simp only[awb,axT]at hp;have ji:=hp.1;subst ji
    have qW:∃(args:List IV) (v:IV) (av:St) (R1:Rs) (eg:Ph) (pv:PV SE) (V1:SS) (I:List IV),aA P 0 (aB (E d)) o G=aa (.enter g args)/\(∀ro,ly P ro g args G v av)/\(av=G\/∃ob,av=G.add ob)/\J Cx (ax P (O++I)) R1 eg V1.g V1.l E av/\VR (ax P (O++I)) R1 eg V1.l av v pv/\(O++I).length=V1.n/\V1.ln=V.ln/\
     (gO P cfg self kx Cx d f0 af ops sk l (V1.bY d o.dst pv) kk).sat P C Q K (O++I):=by
     exact Qr hC hJ hn ho hc hf hs
    obtain⟨args,v,av,R1,eg,pv,V1,I,fv,wL,_,g1,g2,g3,g4,g5⟩:=qW;obtain⟨b,hb⟩:=ia ih pX hd bR dz gR g1 g3 (axb K) (by rw[(lD g4).1];exact hK) (lD g4).2 (λ_ _=>rfl) rfl g2 g5;exact⟨max b av.n,λN hN=>.call hw fv (eY.ofS (wL 0) aj) λv1 cK hv=>by obtain⟨rfl,rfl⟩:=hv;exact⟨by omega,hb N aj⟩⟩
   split at hs
   .rename_i hp;simp only[awb,axT]at hp;have ji:=hp.1;subst ji;split at hs<;>try exact hs.elim
    rename_i fn cL;split at hs<;>try exact hs.elim
    rename_i cn;simp only[awb]at cn;have sO:=bw hJ d 0 f;rw[hf]at sO;have bJ:=i_ hJ d c.args.toList c.argTypes.toList;obtain⟨ys,kg,va⟩:=m6 (args:=c.args.toList.map (aB (E d))) sO cL cn.1.2 cn.2
    have KG:ys=[]:=by
     cases ys with
     |nil=>rfl
     |cons=>exact va.elim
    subst KG;rw[aww]at kg
    have fv:aA P 0 (aB (E d)) o G=aa (.enter g (c.args.toList.map (aB (E d)))):=by
     simp only[aA,ho,hc];exact kg
    obtain⟨b,hb⟩:=aiw (KW:=λN v av=>av.n<=N/\dC P N rd ops l ((E d).put o.dst v) df av (CX N)) hC hJ hn bJ hs (by
     intro V1 I R1 eg av x pv h2 h4 hlen h5 hx h6;obtain⟨b,hb⟩:=ia ih pX hd bR dz gR h2 hlen (axb K) (by rw[(lD h5).1];exact hK) (lD h5).2 (λ_ _=>rfl) rfl hx h6;exact⟨max b av.n,λN hN=>⟨by omega,hb N aj⟩⟩)
    exact⟨b,λN hN=>.call hw fv (hb N hN) λv av hv=>hv⟩
   split at hs
   .rename_i hp;simp only[awb,axT]at hp;have ji:=hp.1;subst ji;split at hs<;>try exact hs.elim
    rename_i zs V' fn hr cL;split at hs<;>try exact hs.elim
    rename_i cn;simp only[awb]at cn;obtain⟨g',args,z,R1,pv,V1,I,h1,h2,h3,h4,h5,h6,h7⟩:=T3 hC hJ hn ho hc hf hr cL cn.1.2 cn.2 cn.1.1 hs;obtain⟨b,hb⟩:=ia ih pX hd bR dz gR h3 h5 (axb K) (by rw[(lD h6).1];exact hK) (lD h6).2 (λ_ _=>rfl) rfl h4 h7;refine⟨max b G.n,λN hN=>.call hw h1 (eY.ofS (h2 0) aj) λv av hv=>?_⟩;obtain⟨rfl,rfl⟩:=hv;exact⟨by omega,hb N aj⟩
   .split at hs
    .exact hs.elim
    .have sO:=bw hJ d 0 f;rw[hf]at sO;have bJ:=i_ hJ d c.args.toList c.argTypes.toList
     have cL:∃fn,P.funcs[g]?=aa fn/\fn.body.isSome=ab/\(fn.name != "runtime.NumGoroutine")=ab:=by
      unfold oH at hs;split at hs<;>try exact hs.elim
      rename_i fn cL;split at hs<;>try exact hs.elim
      rename_i body hb;split at hs<;>try exact hs.elim
      split at hs<;>try exact hs.elim
      rename_i jy;simp only[awb]at jy;exact⟨fn,cL,by simp[hb],jy.2⟩
     obtain⟨fn,cL,hb,ot⟩:=cL;obtain⟨ys,kg,va⟩:=m6 (args:=c.args.toList.map (aB (E d))) sO cL hb ot
     have fv:aA P 0 (aB (E d)) o G=aa (.enter g (c.args.toList.map (aB (E d))++ys)):=by
      simp only[aA,ho,hc];exact kg
     obtain⟨_,_,_,_,b,Ud⟩:=zJ (RW:=λN v av=>av.n<=N/\dC P N rd ops l ((E d).put o.dst v) df av (CX N)) (PW:=λN v av=>CX N (.cd v) (E d) av) bE hJ hn hK bR (bJ.app va) hs (by
      intro pv V' I K' R' aU E' au v hF mq hv bp;obtain⟨b,hb⟩:=ia ih pX hd bR dz gR hF.hJ hF.hn hF.hK hF.fW hF.bR hF.hE mq hv bp;exact⟨max b au.n,λN hN=>⟨by omega,by omega,hb N aj⟩⟩) (by
      intro t pv V' I K' R' aU E' au v hF mq hv bp;obtain⟨b,hb⟩:=gR t pv V' I K' R' aU E' au v hF hv bp;exact⟨b,λN hN=>⟨(hb N hN).1,by rw[<-mq];exact(hb N hN).2⟩⟩)
     exact⟨b,λN hN=>.Y9 hw fv (Ud N hN) (λv av hv=>hv) λv av hv=>hv⟩
  .exact hs.elim
 .exact Mx hs
def Uh{a:SE}{u x:IV}(h:RD a=aa u)(hx:VR (ax P O) R X V.l G x (.one (.v a))):x=u:=by
 unfold RD at h;split at h<;>try (cases h;done)
 .cases h;obtain⟨y,h1,h2,_⟩:=hx;simp only[ax,SE.den,awf]at h1;subst h1;exact cA h2
 .cases h;obtain⟨y,h1,h2,_⟩:=hx;simp only[ax,SE.den,awf]at h1;subst h1;exact cA h2
def aeZ(hJ:J Cx (ax P O) R X V.g V.l E G){pv:PV SE}(h:Ty P d V o=aa pv):∃x,aA P 0 (aB (E d)) o G=aa (.val x G)/\VR (ax P O) R X V.l G x pv:=by
 unfold Ty at h;split at h
 .rename_i op t x y yt ho;split at h<;>try (cases h;done)
  rename_i a b ha hb;split at h<;>try (cases h;done)
  rename_i u v hu hv;have hx:=bw hJ d t x;have hy:=bw hJ d t y;rw[ha]at hx;rw[hb]at hy;rw[awj]at h;obtain⟨e,h1,rfl⟩:=h;rw[awx]at h1;obtain⟨w,h2,h3⟩:=h1;refine⟨w,?_,?_⟩
  .simp only[aA,ho,Uh hu hx,Uh hv hy,h2,ret]
  .unfold agB at h3;split at h3<;>try (cases h3;done)
   .cases h3;exact⟨_,rfl,.raw _,rfl⟩
   .cases h3;exact⟨_,rfl,.raw _,rfl⟩
 .rename_i t x ix ho;split at h<;>try (cases h;done)
  rename_i n el cs z hu jQ cw;split at h<;>try (cases h;done)
  rename_i s ba bf JH;split at h<;>try (cases h;done)
  rename_i hc;have hx:=bw hJ d t x;have hi:=bw hJ d 0 ix;rw[jQ]at hx;rw[cw]at hi;have eM:=Uh (a:=.i z) rfl hi;obtain⟨cS,DZ,bD⟩:=hx
  obtain⟨v,hv,hr⟩:=u_ (pv:=pv) bf JH bD hc.2.2 (by
   split at h
   .rename_i ha;cases h;rw[if_pos ha]
   .rename_i ha;rw[if_neg ha];split at h
    .rename_i c jy;cases h;exact⟨c,jy,rfl⟩
    .cases h)
  refine⟨v,?_,hr⟩;simp only[aA,ho,hu,DZ,eM,bf,IV.int];rw[if_pos ⟨hc.1,hc.2.1⟩,hv];rfl
 .cases h
def aiA(hJ:J Cx (ax P O) R X V.g V.l E G){es:SE}{s:Nat}{c:Cl SE}(h:Zt P d V o=aa (es,s,c)){z:IV}(hz:(SE.sub s es (.len es) (.i 0)).den P O=aa z):
 ∃x,aA P 0 (aB (E d)) o G=aa (.val x G)/\VR (ax P O) R X V.l G x (.one c):=by
 unfold Zt at h;split at h<;>try (cases h;done)
 rename_i c0 ho;split at h<;>try (cases h;done)
 rename_i hc;have bJ:=i_ hJ d c0.args.toList c0.argTypes.toList;split at h<;>try (cases h;done)
 rename_i base ca hh;rw[hh]at bJ;obtain⟨x0,x1,hx,DT,vP⟩:=Ky bJ;split at h<;>try (cases h;done)
 rename_i t0 t1 Xn Qi;split at h<;>try (cases h;done)
 rename_i et et1 het aev;split at h<;>try (cases h;done)
 rename_i s' z' bytes bf tH Hx;split at h<;>try (cases h;done)
 rename_i cn;simp only[awO,awX,not_or,Bool.not_eq_true,Bool.not_eq_false]at cn;obtain⟨⟨bU,mN⟩,hc3⟩:=cn;have asJ:=awk mN;have av5:bytes<=1000000:=by simpa using hc3
 have cj:s'≠0:=λh=>by subst h;simp at bU
 split at h<;>try (cases h;done)
 rename_i fr aT raw b w aew;cases h;simp only[SE.den,awx]at hz;obtain⟨a1,jR,b1,⟨a2,akX,hlen⟩,h0⟩:=hz;rw[jR]at akX;cases akX
 have:a1=.tree s []:=by
  obtain⟨a,ha,h0⟩:=h0;cases ha;unfold Hq at hlen;split at hlen<;>try (cases hlen;done)
  rename_i q fs;cases hlen;simp only[pU,IV.int,ie]at h0;split at h0
  .rename_i hc;obtain⟨rfl,_,h1,_,_⟩:=hc;have:fs=[]:=awG (by simpa using h1);rw[this]
  .cases h0
 subst this;have bg:fV s []=ab:=rfl;obtain⟨g1,new,g2,g3,_,g5⟩:=Hw hJ aew vP jR aj bg (λ_=>⟨.tree s [],by simp[SE.den,jR]⟩);have ma:new=[]:=by simpa using g3
 subst ma;obtain⟨hw,pV⟩:=DT;refine⟨x0,?_,hw,pV⟩;have aoB:fj 0 s 0 0 [] x0 G=aa (.val x0 G):=by subst pV;cases b<;>simp[fj,ret]
 have iP:qi x0=aa 0:=by subst pV;cases b<;>rfl
 simp only[aA,ho,hc,fk,hx,l6,Xn,Qi,qc het,qc aev,bf,tH,Hx,uT,g1,g2,iP];rw[if_neg (by rintro(h|h);exact cj h;exact h asJ),if_pos ⟨by simp,by simp,by simp;omega,by simp⟩];exact aoB
def ab5{o:Oper}{j kt:Nat}{oZ:TypeId}{es x:SE}(h:L6 P d V o=aa (j,kt,oZ,es,x)):
 ∃it,o.op=.next it af/\bM P d V 0 it=.one (.mp j)/\V.l[j]?=aa (.mp kt x)/\1000000<=kt/\V.l[kt % 1000000]?=aa (.mp oZ es)/\¬mO oZ=ab:=by
 unfold L6 at h;split at h<;>try (cases h;done)
 rename_i it ho;split at h<;>try (cases h;done)
 rename_i j' hm;split at h<;>try (cases h;done)
 rename_i qy x' hj;split at h<;>try (cases h;done)
 rename_i hle;split at h<;>try (cases h;done)
 rename_i av6 aT Tf;split at h<;>try (cases h;done)
 rename_i hk;simp only[awf,awM]at h;obtain⟨rfl,rfl,rfl,rfl,rfl⟩:=h;exact⟨it,ho,hm,hj,by simpa using hle,Tf,hk⟩
def ab6(hJ:J Cx (ax P O) R X V.g V.l E G)(hn:O.length=V.n){j id kt m i:Nat}{x0:SE}{ds Ui:List IV}{seen:List Nat}{y:IV}{ob:Ob}(hj:V.l[j]?=aa (.mp kt x0))(kN:1000000<=kt)(jS:X j=aa id)(hR:R id=ah)
 (Mo:∃qy z',V.l[kt % 1000000]?=aa (.mp qy z'))(hm:X (kt % 1000000)=aa m)(hs:∀s∈seen,s<ds.length)(hl:Left ds (seen++[i]) Ui)(hy:ds[i]?=aa y)(aM:G.at id=aa ob):
 J Cx (ax P (O++[y,.aF [.aF ds,.aF Ui,y]])) R X V.g (V.l.set j (.mp kt (.var (V.n+1)))) E (G.put id (.kG (aa m) ds.length (seen++[i]) ds.length)):=by
 have bH:=hJ.up (jj:=ax P (O++[y,.aF [.aF ds,.aF Ui,y]])) (λe y h=>SE.dw P e h)
 exact(bH.tE (R':=R) (bad:=λ_=>False) (kq:=.mp kt (.var (V.n+1))) (fp:=.kG (aa m) ds.length (seen++[i]) ds.length) jS hj (λ_ _=>rfl)
  (λm hm=>by rw[hR]at hm;cases hm) (λm _ _ _ hm=>by rw[hR]at hm;cases hm) (λm _ _ _ hm=>by rw[hR]at hm;cases hm)
  (λ_ h=>by cases h) (λ_ _ _=>by rename_i h;cases h;exact⟨_,rfl⟩) (λ_ _ _ _ _ h=>by cases h) (λ_ _ pv _=>pv.aZ) (λ_ o _ _=>o.aZ)
  (λfq=>by
   rw[lA,if_pos (Hl kN)];refine .inr ⟨kN,id,m,ds,seen++[i],Ui,[y],by simp[ax,SE.den,<-hn],jS,hR,?_,hm,by rw[St.cW,if_pos rfl],λs bp=>?_,hl,.inr ⟨i,y,rfl,by simp,hy⟩⟩
   .obtain⟨qy,z',hz⟩:=Mo;rw[aAH];split
    .rename_i hh;have ak:=(awa.1 hj).1;rw[if_pos ak];exact⟨_,_,rfl⟩
    .exact⟨_,_,hz⟩
   .simp only[List.mem_append,List.mem_singleton]at bp;rcases bp with bp|rfl
    .exact hs s bp
    .exact(awa.1 hy).1)).2
def ae0(ih:A8 Cx P C Q cfg self kx d f0 ops rd df kk CX sk l)(hJ:J Cx (ax P O) R X V.g V.l E G)(hn:O.length=V.n)(hK:K.length=V.lv)(bR:(E d).n=V.nt)
 (hd:∀t,o.dst=aa t->t<(E d).n)(pX:∀x,kU ((E d).put o.dst x) sk)(dz:KS Cx P C Q d E K O V.nt kk (λN e G=>CX N .normal e G))(gR:KP Cx P C Q d E K O V.nt kx (λN v e G=>CX N (.cd v) e G))(hw:aX o ops (E d)=ab)
 {j kt:Nat}{oZ:TypeId}{es x:SE}(hit:L6 P d V o=aa (j,kt,oZ,es,x))
 (hs:(Zu P j kt oZ es x V λpv V=>gO P cfg self kx Cx d f0 af ops sk l (V.bY d o.dst pv) kk).sat P C Q K O):
 ∃b,∀N,b<=N->dC P N rd ops (o::l) (E d) df G (CX N):=by
 obtain⟨it,ho,hm,hj,kN,Tf,fO⟩:=ab5 hit;have rE:=bw hJ d 0 it;rw[hm]at rE;obtain⟨id,kt3,x3,g1,g2,g3⟩:=rE;rw[hj]at g2;cases g2;rw[if_pos (Hl kN)]at g3;have eK:=hJ.obj j _ hj;rw[lA,if_pos (Hl kN)]at eK;rcases eK with⟨h0,_⟩|⟨_,bt,m,ds,seen,rem,rest,e1,e2,e3,e4,e5,e6,e7,e8,e9⟩
 .exact(agw kN h0).elim
 rw[g1]at e2;cases e2;have cM:x.den P O=aa (.aF (.aF ds::.aF rem::rest)):=e1;have TZ:=hJ.obj _ _ Tf;rw[lA,if_neg fO]at TZ;obtain⟨Te,My,clock,LS,c1,c2,c3,c4,c5,c6⟩:=TZ;rw[e5]at c2;cases c2;have oM:es.den P O=aa (.aF LS):=c1;unfold Zu at hs;split at hs<;>try exact hs.elim
 obtain⟨pN,Ui,d1,⟨r,d2⟩,yQ,aoC⟩:=hs;rw[cM]at d2;simp only[awf,IV.aF.injEq,axC]at d2;obtain⟨rfl,rfl,_⟩:=d2;rw[oM]at d1;simp only[awf,IV.aF.injEq]at d1;subst d1;have hlen:My.length=LS.length:=All2.len c5
 obtain⟨B1,Uj⟩:∃b,∀N,b<=N->(∀i,i<My.length->i∈seen)->dC P N rd ops l ((E d).put o.dst (.aF [.bool af])) df G (CX N):=by
  by_cases bS:∀i,i<My.length->i∈seen
  .obtain⟨b,hb⟩:=ia (V1:=V) (I:=[]) (x:=.aF [.bool af]) (pv:=.tu [(af,[.v (.b af)])]) ih pX hd bR dz gR (by rw[aww];exact hJ) (by rw[aww];exact hn) (axb K) hK rfl (λ_ _=>rfl) rfl
    (by rw[aww];exact⟨_,rfl,⟨_,rfl,.raw (.bool af),rfl,.raw _,rfl⟩,trivial⟩) (by rw[aww];exact yQ (e8.empty λi hi=>bS i (by rw[hlen];exact hi)))
   exact⟨b,λN hN _=>hb N hN⟩
  .exact⟨0,λ_ _ h=>absurd h bS⟩
 obtain⟨B2,hB2⟩:=Th (p:=λi N=>∀en,My[i]?=aa en->i∉seen->dC P N rd ops l ((E d).put o.dst (.aF [.bool ab,lift en.1,en.2.1])) df (G.put id (.kG (aa m) My.length (seen++[i]) My.length)) (CX N)) My.length λi hi=>by
  by_cases qY:i∈seen
  .exact⟨0,λ_ _ _ _ h=>absurd qY h⟩
  obtain⟨q,y,hq,hy,hl⟩:=e8.has (by rw[<-hlen];exact hi) qY;have fg:=ab6 hJ hn hj kN g1 e3 e4 e5 e7 hl hy e6
  obtain⟨b,hb⟩:=ia (V1:={V with n:=V.n+2,l:=V.l.set j (.mp kt (.var (V.n+1)))}) (I:=[y,.aF [.aF LS,.aF (rem.eraseIdx q),y]]) (x:=.aF [.bool ab,lift My[i].1,My[i].2.1]) (pv:=.tu [(af,[.v (.b ab)]),(af,[.un]),(af,[.un])]) ih pX hd bR dz gR fg (by simp[hn]) (axb K) hK rfl (λ_ _=>rfl) rfl
   ⟨_,rfl,⟨_,rfl,.raw (.bool ab),rfl,.raw _,rfl⟩,⟨_,rfl,trivial⟩,⟨_,rfl,trivial⟩,trivial⟩ (aoC q y hq)
  refine⟨b,λN hN en qw _=>?_⟩;rw[av_ hi]at qw;cases qw;rw[hlen];exact hb N hN
 refine⟨max G.n (max B1 B2),λN hN=>.aom hw ho g3 (by rw[hlen];exact e6) c4 c6 aj (Uj N aj) λi en qw qY=>hB2 i (awa.1 qw).1 N aj en qw qY⟩
def ae1(hC:mj P C)(bE:ou Cx P C Q self)(ih:A8 Cx P C Q cfg self kx d f0 ops rd df kk CX sk l)(hJ:J Cx (ax P O) R X V.g V.l E G)(hn:O.length=V.n)(hK:K.length=V.lv)(bR:(E d).n=V.nt)
 (hd:∀t,o.dst=aa t->t<(E d).n)(pX:∀x,kU ((E d).put o.dst x) sk)(dz:KS Cx P C Q d E K O V.nt kk (λN e G=>CX N .normal e G))(gR:KP Cx P C Q d E K O V.nt kx (λN v e G=>CX N (.cd v) e G))(hw:aX o ops (E d)=ab)
 (hs:(E6 P cfg self kx Cx d f0 af o V λpv V=>gO P cfg self kx Cx d f0 af ops sk l (V.bY d o.dst pv) kk).sat P C Q K O):
 ∃b,∀N,b<=N->dC P N rd ops (o::l) (E d) df G (CX N):=by
 unfold E6 at hs;simp only[awA,if_false]at hs;split at hs
 .rename_i hit;exact ae0 ih hJ hn hK bR hd pX dz gR hw hit hs
 split at hs
 .rename_i es s c hq;split at hq
  .obtain⟨⟨z,hz⟩,hk⟩:=hs;obtain⟨x,h1,h2⟩:=aiA hJ hq hz;obtain⟨b,hb⟩:=ia (V1:=V) (I:=[]) (x:=x) (pv:=.one c) ih pX hd bR dz gR (by rw[aww];exact hJ) (by rw[aww];exact hn) (axb K) hK rfl (λ_ _=>rfl) rfl (by rw[aww];exact h2) (by rw[aww];exact hk);exact⟨max b G.n,λN hN=>.val hw h1 aj (hb N aj)⟩
  .cases hq
 .split at hs
  .rename_i pv hq;split at hq
   .obtain⟨x,h1,h2⟩:=aeZ hJ hq;obtain⟨b,hb⟩:=ia (V1:=V) (I:=[]) (x:=x) (pv:=pv) ih pX hd bR dz gR (by rw[aww];exact hJ) (by rw[aww];exact hn) (axb K) hK rfl (λ_ _=>rfl) rfl (by rw[aww];exact h2) (by rw[aww];exact hs);exact⟨max b G.n,λN hN=>.val hw h1 aj (hb N aj)⟩
   .cases hq
  .exact ab4 hC bE ih hJ hn hK bR hd pX dz gR hw hs
def ae2{o:Oper}{rest:List Oper}{t:TypeId}{pv:PV SE}(h:Zv P d V o rest=aa (t,pv)):
 ∃x p b,o.op=.makeInterface t x/\o.dst=aa b/\o.guard=ah/\rest=[p]/\p.op=.panic (.tmp b)/\p.guard=ah/\(∀u,(P.underlying t=aa (.interface u)->False)/\(P.underlying t=ah->False))/\pv=bM P d V t x:=by
 unfold Zv at h;split at h<;>try (cases h;done)
 rename_i t1 x1 p1 ho;split at h<;>try (cases h;done)
 rename_i a b hp ek hg1 hg2;split at h<;>try (cases h;done)
 rename_i hc;simp only[awb]at hc;obtain⟨b_,mN⟩:=hc;have:=awk b_;subst this;cases h;refine⟨x1,p1,a,ho,ek,hg1,rfl,hp,hg2,λu=>⟨λhu=>?_,λhu=>?_⟩,rfl⟩
 .unfold Kt at mN;rw[hu]at mN;cases mN
 .unfold Kt at mN;rw[hu]at mN;cases mN
theorem Ov(hC:mj P C)(bE:ou Cx P C Q self):∀(l:List Oper) (sk:List Nat),A8 Cx P C Q cfg self kx d f0 ops rd df kk CX sk l
 |[],sk=>by
  intro V O K R X E G _ hs hJ hn hK bR dz _;obtain⟨b,hb⟩:=dz.now hJ hn hK hs;exact⟨b,λN hN=>.nil (hb N hN).2⟩
 |o::l,sk=>by
  intro V O K R X E G HH hs hJ hn hK bR dz gR;have ih:∀sk,A8 Cx P C Q cfg self kx d f0 ops rd df kk CX sk l:=λsk=>Ov hC bE l sk;simp only[gO]at hs
  have XB:∀t,o.dst=aa t->t<V.nt:=by
   intro t ht;rw[ht]at hs;by_cases ak:t<V.nt
   .exact ak
   .have:aw6 t V.nt=af:=by
     cases h:aw6 t V.nt
     .rfl
     .exact absurd (by simpa using h) ak
    simp only[this,ayl,if_true]at hs;exact hs.elim
  rw[if_neg]at hs
  rotate_left
  .cases hh:o.dst with
   |none=>simp
   |some t=>simp[XB t hh]
  .have hd:∀t,o.dst=aa t->t<(E d).n:=by rw[bR];exact XB
   simp only[awA,if_false]at hs;split at hs
   .rename_i t pv ae3;obtain⟨x,p,b0,ho,ek,hg1,rfl,hp,hg2,hty,rfl⟩:=ae2 ae3;have hx:=bw hJ d t x;have bH:=Fj (d:=d) (dst:=o.dst) (x:=.dK t (aB (E d) x)) hJ;have Nv:(V.kM d o.dst).ln=V.ln:=Fk ..
    obtain⟨fW,lC⟩:=lD Nv
    obtain⟨b,hb⟩:=gR t _ (V.kM d o.dst) [] K R X _ G (aB (E d) x) ⟨axb K,by rw[fW];exact hK,lC,by rw[aww];exact bH,by rw[aww,HE];exact hn,λj hj=>eS _ _ _ aj,by rw[bI,eO]⟩
     (by rw[aww];cases o.dst<;>exact hx) (by rw[aww];exact hs)
    rw[bI]at hb;refine⟨max b G.n,λN hN=>?_⟩;have hw1:aX o ops (E d)=ab:=by unfold aX;rw[hg1]
    have fv:aA P 0 (aB (E d)) o G=aa (.val (.dK t (aB (E d) x)) G):=by
     simp only[aA,ho];split
     .rename_i u hu;exact((hty u).1 hu).elim
     .rfl
     .rename_i hu;exact((hty #[]).2 hu).elim
    refine .val hw1 fv aj ?_;have ak:b0<(E d).n:=hd b0 ek;refine .panic (by unfold aX;rw[hg2]) (v:=.dK t (aB (E d) x)) ?_ (hb N aj).2;simp only[aA,hp,aB];rw[ek,cC ak]
   rename_i ae3;clear ae3
   have gN:∀(V1:SS),J Cx (ax P O) R X V1.g V1.l E G->V1.n=V.n->V1.ln=V.ln->aX o ops (E d)=ab->
    (match AT P cfg d af o V1 with
     |some (g,args)=>IL P cfg self kx d f0 o.dst g args V1 λV=>gO P cfg self kx Cx d f0 af ops (vI sk o.dst) l V kk
     |none=>E6 P cfg self kx Cx d f0 af o V1 λpv V=>gO P cfg self kx Cx d f0 af ops (vI sk o.dst) l (V.bY d o.dst pv) kk).sat P C Q K O->∃b,∀N,b<=N->dC P N rd ops (o::l) (E d) df G (CX N):=by
    intro V1 bH dW GP hw fq;obtain⟨fW,lC⟩:=lD GP;split at fq
    .rename_i g da hj;obtain⟨c,f,bs,ho,hc,hf,rfl⟩:=abZ hj;have sO:=bw bH d 0 f;rw[hf]at sO;have bJ:=i_ bH d c.args.toList c.argTypes.toList
     have cL:∃fn,P.funcs[g]?=aa fn/\fn.body.isSome=ab/\(fn.name != "runtime.NumGoroutine")=ab:=by
      by_cases hh:∃fn,P.funcs[g]?=aa fn/\fn.body.isSome=ab/\(fn.name != "runtime.NumGoroutine")=ab
      .exact hh
      .exfalso;unfold IL at fq;simp only at fq;split at fq
       .exact fq
       .rename_i hfb
        obtain⟨n,hn⟩:=aeR (P:=P) (cfg:=cfg) (self:=self) (kx:=λ_ _ _=>.fail 0) (d:=d) (f0:=f0) (dst:=o.dst) (V:={V1 with lv:=V1.lv+1}) (k:=λpv W=>.bad 999999 (W.bY d o.dst pv).n (W.bY d o.dst pv).lv 0 0 (W.bY d o.dst pv).g (W.bY d o.dst pv).l (W.bY d o.dst pv).g (W.bY d o.dst pv).l) (g:=g)
         (da:=jX P d V1 c.args.toList c.argTypes.toList++bs.map λ(p:Nat×Nat)=>.one (.pt p.1 0 p.2)) (λfn h1 h2 h3=>hh ⟨fn,h1,h2,h3⟩)
        rw[hn]at hfb;cases hfb
     obtain⟨fn,cL,hb,ot⟩:=cL;obtain⟨ys,kg,va⟩:=m6 (args:=c.args.toList.map (aB (E d))) sO cL hb ot
     have fv:aA P 0 (aB (E d)) o G=aa (.enter g (c.args.toList.map (aB (E d))++ys)):=by
      simp only[aA,ho,hc];exact kg
     obtain⟨_,_,_,_,b,Ud⟩:=aeT (RW:=λN v av=>av.n<=N/\dC P N rd ops l ((E d).put o.dst v) df av (CX N)) (PW:=λN v av=>CX N (.cd v) (E d) av) hC bE bH (by rw[dW];exact hn) (by rw[fW];exact hK) (by rw[lC];exact bR) (bJ.app va) hd fq (by
      intro H vs R' aU E' au v JJ oX asK ae4 hE' vS bp
      obtain⟨b,hb⟩:=ih (vI sk o.dst) H (O++vs) K R' aU E' au (by rw[vS];exact HH.put o.dst _) bp JJ oX (by rw[asK,fW];exact hK) (by rw[vS,eO,ae4,lC];exact bR) (by
       rw[ae4,lC];exact dz.fwd (axb K) hE' (by rw[vS,eO])) (by
       rw[ae4,lC];exact gR.fwd (axb K) hE' (by rw[vS,eO]))
      refine⟨max b au.n,λN hN=>⟨by omega,by omega,?_⟩⟩;have:=hb N aj;rw[vS]at this;exact this) (by
      intro t pv V' I K' R' aU E' au v hF mq hv bp;obtain⟨b,hb⟩:=gR t pv V' I K' R' aU E' au v (lC▸hF) hv bp;exact⟨b,λN hN=>⟨(hb N hN).1,by rw[<-mq];exact(hb N hN).2⟩⟩)
     exact⟨b,λN hN=>.Y9 hw fv (Ud N hN) (λv av hv=>hv) λv av hv=>hv⟩
    .exact ae1 hC bE (ih (vI sk o.dst)) bH (by rw[dW];exact hn) (by rw[fW];exact hK) (by rw[lC];exact bR) hd (λx=>HH.put o.dst x) (by rw[lC];exact dz) (by rw[lC];exact gR) hw fq
   have Fp:∀(V1:SS),J Cx (ax P O) R X V1.g V1.l E G->V1.n=V.n->V1.ln=V.ln->aX o ops (E d)=af->
    (gO P cfg self kx Cx d f0 af ops (IP sk o.dst) l (V1.kM d o.dst) kk).sat P C Q K O->∃b,∀N,b<=N->dC P N rd ops (o::l) (E d) df G (CX N):=by
    intro V1 bH dW GP hw fq;have Nv:(V1.kM d o.dst).ln=V.ln:=by rw[Fk,GP]
    obtain⟨fW,lC⟩:=lD Nv
    obtain⟨b,hb⟩:=ih (IP sk o.dst) (V1.kM d o.dst) O K R X _ G (by rw[bI];exact HH.add hd) fq (Fj (x:=.undef) bH) (by rw[HE,dW];exact hn) (by rw[fW];exact hK) (by rw[bI,eO,lC];exact bR) (by
     rw[lC];have:=dz.fwd (Cb:=[]) (E1:=kS E d ((E d).put o.dst .undef)) (axb K) (λj hj=>eS _ _ _ aj) (by rw[bI,eO]);rw[aww]at this;exact this) (by
     rw[lC];have:=gR.fwd (Cb:=[]) (E1:=kS E d ((E d).put o.dst .undef)) (axb K) (λj hj=>eS _ _ _ aj) (by rw[bI,eO]);rw[aww]at this;exact this)
    refine⟨b,λN hN=>.skip hw ?_⟩;have:=hb N hN;rw[bI]at this;exact this
   obtain⟨w1,w2,w3⟩:=T4 (o:=o) hJ bR (ops:=ops)
   have w2':(if oI sk ops o=ab then Want.skip else vH ops d V o)=.skip->aX o ops (E d)=af:=λh=>by
    by_cases hq:oI sk ops o=ab
    .exact HH.agI hq
    .rw[if_neg hq]at h;exact w2 h
   have w0:∀w,w≠.skip->(if oI sk ops o=ab then Want.skip else vH ops d V o)=w->vH ops d V o=w:=λw hw h=>by
    by_cases hq:oI sk ops o=ab
    .rw[if_pos hq]at h;exact absurd h.symm hw
    .rw[if_neg hq]at h;exact h
   split at hs
   .rename_i hh;exact gN V hJ rfl rfl (w1 (w0 _ ay hh)) hs
   .rename_i hh;exact Fp V hJ rfl rfl (w2' hh) hs
   .rename_i t e want hh;replace hh:=w0 _ ay hh;obtain⟨hg,hb⟩:=w3 _ _ _ hh;rcases hs with⟨h1,hs⟩|⟨h1,hs⟩
    .obtain⟨aM,bH⟩:=J.refine hJ hg h1;have hw:=hb _ aM;cases want
     .exact Fp _ bH rfl rfl (by rw[hw];rfl) hs
     .exact gN _ bH rfl rfl (by rw[hw];rfl) hs
    .obtain⟨aM,bH⟩:=J.refine hJ hg h1;have hw:=hb _ aM;cases want
     .exact gN _ bH rfl rfl (by rw[hw];rfl) hs
     .exact Fp _ bH rfl rfl (by rw[hw];rfl) hs
   .exact hs.elim
end
section
variable{Cx:Cs}
variable{P:Program}{N:Nat}{G au:St}{R R':Rs}{X aU:Ph}{E:Nat->Env}{O:List IV}{ro:Nat}{Z:Io}{w:World}{cfg:fe}{self:nJ}
variable{C:Cr}{Q:IV->Prop}{K:List (List IV->Prop)}{V:SS}{d f0:Nat}{o:Oper}{k:PV SE->SS->aq}{L:List (LO SE)}{Γ:Gm SE}{rd:Option Nat}{df:List Df}
variable{fr:Bool}{kx:Kx}{sk:List Nat}{ops:Array Oper}{pl:eh}{l:List (Oper×Nat)}{kk:SS->aq}{CX:Nat->kT}
def RI(Cx:Cs)(fr:Bool)(P:Program)(C:Cr)(Q:IV->Prop)(cfg:fe)(self:nJ)(kx:Kx)(d f0:Nat)(ops:Array Oper)(pl:eh)(kk:SS->aq)(CX:Nat->kT)(sk:List Nat)(l:List (Oper×Nat)):Prop:=
 ∀(V:SS) O K R X E G,kU (E d) sk->(gO P cfg self kx Cx d f0 ab ops sk (l.map axs) V kk).sat P C Q K O->J Cx (ax P O) R X V.g V.l E G->O.length=V.n->K.length=V.lv->(E d).n=V.nt->KS Cx P C Q d E K O V.nt kk (λN e G=>CX N .normal e G)->
  ∃e' au,gm P 0 ops pl fr l (E d) G e' au/\∃b,∀N,b<=N->au.n<=N/\CX N .normal e' au
def Fq(ih:RI Cx fr P C Q cfg self kx d f0 ops pl kk CX sk l){dst:Option Nat}(pX:∀x,kU ((E d).put dst x) sk)(hd:∀t,dst=aa t->t<(E d).n){nt:Nat}(bR:(E d).n=nt)(dz:KS Cx P C Q d E K O nt kk (λN e G=>CX N .normal e G))
 {V1:SS}{I:List IV}{R1:Rs}{eg:Ph}{av:St}{x:IV}{pv:PV SE}
 (hJ:J Cx (ax P (O++I)) R1 eg V1.g V1.l E av)(hn:(O++I).length=V1.n)(fW:K.length=V1.lv)(lC:V1.nt=nt)
 (hx:VR (ax P (O++I)) R1 eg V1.l av x pv)(hs:(gO P cfg self kx Cx d f0 ab ops sk (l.map axs) (V1.bY d dst pv) kk).sat P C Q K (O++I)):
 ∃e' au,gm P 0 ops pl fr l ((E d).put dst x) av e' au/\∃b,∀N,b<=N->au.n<=N/\CX N .normal e' au:=by
 have bH:=Fi (d:=d) (dst:=dst) hJ hx hd;have Oo:(V1.bY d dst pv).nt=nt:=by cases dst<;>exact lC
 have aeQ:(V1.bY d dst pv).lv=V1.lv:=by cases dst<;>rfl
 have:=ih (V1.bY d dst pv) (O++I) K R1 eg _ av (by rw[bI];exact pX x) hs bH (by rw[HD];exact hn) (by rw[aeQ];exact fW) (by rw[bI,eO,bR,Oo]) (by
  rw[Oo];exact dz.fwd (axb K) (λj hj=>by rw[eS _ _ _ aj]) (by rw[bI,eO]))
 rw[bI]at this;exact this
def Mz(cfg:fe)(g:FuncId):w_ (xc cfg) g=af:=by
 cases h:w_ (xc cfg) g with
 |false=>rfl
 |true=>
  unfold w_ xc at h;simp only[awb]at h;obtain⟨ak,h⟩:=h;obtain⟨n,hn,hg⟩:=ayp.1 h;have:=awk hg;have h2:=(aw7.1 hn).2;simp at h2 ak;omega
def ae5{j:Nat}(hC:mj P C)(hq:∀g,w_ cfg g=ab->fr=ab)(ih:RI Cx fr P C Q cfg self kx d f0 ops pl kk CX sk l)(hJ:J Cx (ax P O) R X V.g V.l E G)(hn:O.length=V.n)(hK:K.length=V.lv)(bR:(E d).n=V.nt)
 (hd:∀t,o.dst=aa t->t<(E d).n)(pX:∀x,kU ((E d).put o.dst x) sk)(dz:KS Cx P C Q d E K O V.nt kk (λN e G=>CX N .normal e G))(hw:aX o ops (E d)=ab)
 (hs:(E6 P cfg self kx Cx d f0 ab o V λpv V=>gO P cfg self kx Cx d f0 ab ops sk (l.map axs) (V.bY d o.dst pv) kk).sat P C Q K O):
 ∃e' au,gm P 0 ops pl fr ((o,j)::l) (E d) G e' au/\∃b,∀N,b<=N->au.n<=N/\CX N .normal e' au:=by
 have Mx:(gH P d o V λpv V=>gO P cfg self kx Cx d f0 ab ops sk (l.map axs) (V.bY d o.dst pv) kk).sat P C Q K O->∃e' au,gm P 0 ops pl fr ((o,j)::l) (E d) G e' au/\∃b,∀N,b<=N->au.n<=N/\CX N .normal e' au:=by
  intro hs;obtain⟨x,av,R1,eg,pv,V1,I,h1,h2,h3,h4,h5,h6⟩:=abR hJ hn hs;obtain⟨e',au,g1,g2⟩:=Fq ih pX hd bR dz h2 h4 (by rw[(lD h5).1];exact hK) (lD h5).2 h3 h6;exact⟨e',au,.val hw h1 g1,g2⟩
 unfold E6 at hs;simp only[if_true,axu,ax8,awA,if_false]at hs;unfold L5 at hs;split at hs
 .rename_i c ho;unfold Zs at hs;split at hs
  .exact Mx hs
  .rename_i f hc;split at hs
   rotate_left
   .simp only[if_true]at hs;exact hs.elim
   .exact hs.elim
   rename_i g bs hf;simp only at hs;split at hs
   .split at hs
    .simp only[axu,ax8,awA,if_false]at hs;exact hs.elim
    .exact hs.elim
   split at hs
   .rename_i hp;simp only[awb,axT]at hp;obtain⟨ji,qW⟩:=hp;subst ji
    have asL:∃(args:List IV) (v:IV) (av:St) (R1:Rs) (eg:Ph) (pv:PV SE) (V1:SS) (I:List IV),aA P 0 (aB (E d)) o G=aa (.enter g args)/\(∀ro,ly P ro g args G v av)/\(av=G\/∃ob,av=G.add ob)/\J Cx (ax P (O++I)) R1 eg V1.g V1.l E av/\VR (ax P (O++I)) R1 eg V1.l av v pv/\(O++I).length=V1.n/\V1.ln=V.ln/\
     (gO P cfg self kx Cx d f0 ab ops sk (l.map axs) (V1.bY d o.dst pv) kk).sat P C Q K (O++I):=by
     exact Qr hC hJ hn ho hc hf hs
    obtain⟨args,v,av,R1,eg,pv,V1,I,fv,wL,vo,g1,g2,g3,g4,g5⟩:=asL;obtain⟨e',au,r1,r2⟩:=Fq ih pX hd bR dz g1 g3 (by rw[(lD g4).1];exact hK) (lD g4).2 g2 g5;rcases vo with rfl|⟨ob,rfl⟩
    .exact⟨e',au,.Rr hw fv wL r1,r2⟩
    .exact⟨e',au,.Y5 (hq g qW) hw fv wL r1,r2⟩
   split at hs
   .split at hs<;>exact hs.elim
   split at hs
   .rename_i hp;simp only[awb,axT]at hp;have ji:=hp.1;subst ji;split at hs<;>try exact hs.elim
    rename_i zs V' fn hr cL;split at hs<;>try exact hs.elim
    rename_i cn;simp only[awb]at cn;obtain⟨g',args,z,R1,pv,V1,I,h1,h2,h3,h4,h5,h6,h7⟩:=T3 hC hJ hn ho hc hf hr cL cn.1.2 cn.2 cn.1.1 hs;obtain⟨e',au,g1,g2⟩:=Fq ih pX hd bR dz h3 h5 (by rw[(lD h6).1];exact hK) (lD h6).2 h4 h7;exact⟨e',au,.Rr hw h1 h2 g1,g2⟩
   .exact hs.elim
  .exact hs.elim
 .exact Mx hs
theorem yE(hC:mj P C)(hq:∀g,w_ cfg g=ab->fr=ab):∀(l:List (Oper×Nat)) (sk:List Nat),RI Cx fr P C Q cfg self kx d f0 ops pl kk CX sk l
 |[],sk=>by
  intro V O K R X E G _ hs hJ hn hK bR dz;exact⟨E d,G,.nil _ _,dz.now hJ hn hK hs⟩
 |(o,j)::l,sk=>by
  intro V O K R X E G HH hs hJ hn hK bR dz;have ih:∀sk,RI Cx fr P C Q cfg self kx d f0 ops pl kk CX sk l:=λsk=>yE hC hq l sk;simp only[awZ,gO,if_true]at hs
  have XB:∀t,o.dst=aa t->t<V.nt:=by
   intro t ht;rw[ht]at hs;by_cases ak:t<V.nt
   .exact ak
   .have:aw6 t V.nt=af:=by
     cases h:aw6 t V.nt
     .rfl
     .exact absurd (by simpa using h) ak
    simp only[this,ayl,if_true]at hs;exact hs.elim
  rw[if_neg]at hs
  rotate_left
  .cases hh:o.dst with
   |none=>simp
   |some t=>simp[XB t hh]
  .have hd:∀t,o.dst=aa t->t<(E d).n:=by rw[bR];exact XB
   have gN:∀(V1:SS),J Cx (ax P O) R X V1.g V1.l E G->V1.n=V.n->V1.ln=V.ln->aX o ops (E d)=ab->
    (match AT P cfg d ab o V1 with
     |some (g,args)=>IL P cfg self kx d f0 o.dst g args V1 λV=>gO P cfg self kx Cx d f0 ab ops (vI sk o.dst) (l.map axs) V kk
     |none=>E6 P cfg self kx Cx d f0 ab o V1 λpv V=>gO P cfg self kx Cx d f0 ab ops (vI sk o.dst) (l.map axs) (V.bY d o.dst pv) kk).sat P C Q K O->
    ∃e' au,gm P 0 ops pl fr ((o,j)::l) (E d) G e' au/\∃b,∀N,b<=N->au.n<=N/\CX N .normal e' au:=by
    intro V1 bH dW GP hw fq;obtain⟨fW,lC⟩:=lD GP;have:AT P cfg d ab o V1=ah:=by simp[AT]
    rw[this]at fq;exact ae5 hC hq (ih (vI sk o.dst)) bH (by rw[dW];exact hn) (by rw[fW];exact hK) (by rw[lC];exact bR) hd (λx=>HH.put o.dst x) (by rw[lC];exact dz) hw fq
   have Fp:∀(V1:SS),J Cx (ax P O) R X V1.g V1.l E G->V1.n=V.n->V1.ln=V.ln->aX o ops (E d)=af->
    (gO P cfg self kx Cx d f0 ab ops (IP sk o.dst) (l.map axs) (V1.kM d o.dst) kk).sat P C Q K O->∃e' au,gm P 0 ops pl fr ((o,j)::l) (E d) G e' au/\∃b,∀N,b<=N->au.n<=N/\CX N .normal e' au:=by
    intro V1 bH dW GP hw fq;have Nv:(V1.kM d o.dst).ln=V.ln:=by rw[Fk,GP]
    obtain⟨fW,lC⟩:=lD Nv
    obtain⟨e',au,g1,g2⟩:=ih (IP sk o.dst) (V1.kM d o.dst) O K R X _ G (by rw[bI];exact HH.add hd) fq (Fj (x:=.undef) bH) (by rw[HE,dW];exact hn) (by rw[fW];exact hK) (by rw[bI,eO,lC];exact bR) (by
     rw[lC];have:=dz.fwd (Cb:=[]) (E1:=kS E d ((E d).put o.dst .undef)) (axb K) (λj hj=>eS _ _ _ aj) (by rw[bI,eO]);rw[aww]at this;exact this)
    rw[bI]at g1;exact⟨e',au,.skip hw g1,g2⟩
   obtain⟨w1,w2,w3⟩:=T4 (o:=o) hJ bR (ops:=ops)
   have w2':(if oI sk ops o=ab then Want.skip else vH ops d V o)=.skip->aX o ops (E d)=af:=λh=>by
    by_cases hq:oI sk ops o=ab
    .exact HH.agI hq
    .rw[if_neg hq]at h;exact w2 h
   have w0:∀w,w≠.skip->(if oI sk ops o=ab then Want.skip else vH ops d V o)=w->vH ops d V o=w:=λw hw h=>by
    by_cases hq:oI sk ops o=ab
    .rw[if_pos hq]at h;exact absurd h.symm hw
    .rw[if_neg hq]at h;exact h
   split at hs
   .rename_i hh;exact gN V hJ rfl rfl (w1 (w0 _ ay hh)) hs
   .rename_i hh;exact Fp V hJ rfl rfl (w2' hh) hs
   .rename_i t e want hh;replace hh:=w0 _ ay hh;obtain⟨hg,hb⟩:=w3 _ _ _ hh;rcases hs with⟨h1,hs⟩|⟨h1,hs⟩
    .obtain⟨aM,bH⟩:=J.refine hJ hg h1;have hw:=hb _ aM;cases want
     .exact Fp _ bH rfl rfl (by rw[hw];rfl) hs
     .exact gN _ bH rfl rfl (by rw[hw];rfl) hs
    .obtain⟨aM,bH⟩:=J.refine hJ hg h1;have hw:=hb _ aM;cases want
     .exact gN _ bH rfl rfl (by rw[hw];rfl) hs
     .exact Fp _ bH rfl rfl (by rw[hw];rfl) hs
   .exact hs.elim
def XD(hJ:J Cx (ax P O) R X V.g V.l E G)(bR:(E d).n=V.nt):lB G.n (E d) (uB d V):=by
 refine⟨bR,λt ht=>?_,λt ht=>by cases ht⟩;unfold i5 uB at ht;rw[ayp]at ht;obtain⟨t',Xw,hb⟩:=ht;have:=awk hb;subst this;have h2:=(aw7.1 Xw).2;split at h2
 .rename_i k off ext hg;obtain⟨id,cs,h3,_,h5⟩:=hJ.slot d t _ hg;exact .inl ⟨id,off,0,ext,h5,(hJ.lt k id h3).2⟩
 .rename_i cs hg;obtain⟨ds,h3,_⟩:=hJ.slot d t _ hg;exact .inr (.inl ⟨ds,h3⟩)
 .cases h2
def Uk(hJ:J Cx (ax P O) R X V.g V.l E G){ops:Array Oper}:rf P ops X (E d) G (uB d V):=by
 refine⟨λt h ht=>?_,(λi a d h hm=>by cases hm),λt h ht=>?_⟩
 rotate_left
 .obtain⟨⟨d',t',pv⟩,_,h2⟩:=azs.1 (show(t,h)∈V.g.filterMap _ from ht);simp only at h2;split at h2<;>try (cases h2;done)
  split at h2<;>try (cases h2;done)
  split at h2<;>try (cases h2;done)
  split at h2<;>try (cases h2;done)
  rename_i k hg _ kt es hl hit;cases h2;obtain⟨id,qy,aT,h3,h4,h5⟩:=hJ.slot d _ _ hg;rw[hl]at h4;cases h4;rw[if_neg (by simpa using hit)]at h5;exact⟨id,h3,h5⟩
 obtain⟨⟨d',t',pv⟩,_,h2⟩:=azs.1 (show(t,h)∈V.g.filterMap _ from ht);simp only at h2;split at h2<;>try (cases h2;done)
 split at h2<;>try (cases h2;done)
 rename_i k off ext hg;cases h2;obtain⟨id,cs,h3,_,h5⟩:=hJ.slot d _ _ hg;exact⟨id,off,0,ext,h3,h5⟩
def Ul{fr:Bool}{R:Rs}{x y:IV}{n0:Nat}(hR:∀id m,R id=aa m->id<n0)(h:bx fr R G x y):Zb n0 x:=by
 cases h with
 |raw v=>constructor<;>intros<;>contradiction
 |nil s hs=>constructor<;>intros<;>contradiction
 |emp s hs=>constructor<;>intros<;>contradiction
 |dK t x y h=>constructor<;>intros<;>contradiction
 |agg cs ds hl h=>constructor<;>intros<;>contradiction
 |aF cs ds hl h=>constructor<;>intros<;>contradiction
 |pure x hf hp=>exact⟨(λ_ _ _ _ _ _ h=>by subst h;cases hp),(λ_ _ _ _ h=>by subst h;cases hp)⟩
 |sl id off len cap ep s m cs aD mn es h1=>exact⟨λ_ _ _ _ _ _ h=>by cases h;exact hR _ _ h1,(λ_ _ _ _ h=>by cases h)⟩
def Um(hJ:J Cx (ax P O) R X V.g V.l E G){ops:Array Oper}:pd P ops G.n (E d) G (uB d V):=by
 refine⟨awe _,λt ht=>?_,(λt ht=>by cases ht),(λt ht=>by cases ht),(λi a d hm=>by cases hm)⟩;unfold i5 uB at ht;rw[ayp]at ht;obtain⟨t',Xw,hb⟩:=ht;have:=awk hb;subst this;have h2:=(aw7.1 Xw).2;split at h2
 .rename_i z hg;obtain⟨y,_,h3,_⟩:=hJ.slot d t _ hg;exact Ul (λ_ _ h=>by cases h) h3
 .rename_i fr z hg;obtain⟨y,_,h3,_⟩:=hJ.slot d t _ hg;exact Ul hJ.qz h3
 .cases h2
def ae6(fF:P.follows .mixedOrders=ab)(hC:mj P C){fn:FuncId}{id:Nat}(dZ:((bP ops).ok&&(zC ops (bP ops)||i6 P (bP ops) ops.toList.zipIdx (uB d V)))=ab)(hs:(gO P (if i6 P (bP ops) ops.toList.zipIdx (uB d V)then cfg else xc cfg) self kx Cx d f0 ab ops [] ops.toList V kk).sat P C Q K O)
 (hJ:J Cx (ax P O) R X V.g V.l E G)(hn:O.length=V.n)(hK:K.length=V.lv)(bR:(E d).n=V.nt)(dz:KS Cx P C Q d E K O V.nt kk (λN e G=>CX N .normal e G)):
 ∃b,∀N,b<=N->cT P N rd (.region id ops ab) (E d) df G (CX N):=by
 simp only[awb,awO]at dZ;have bf:ops.toList.zipIdx.map (·.1)=ops.toList:=by simp
 by_cases hq:i6 P (bP ops) ops.toList.zipIdx (uB d V)=ab
 .rw[if_pos hq]at hs;obtain⟨e',au,h1,b,hb⟩:=yE (fr:=ab) (pl:=bP ops) (CX:=CX) hC (λ_ _=>rfl) ops.toList.zipIdx [] V O K R X E G (kU.nil _) (by rw[bf];exact hs) hJ hn hK bR dz;exact⟨b,λN hN=>cT.ofS (fn:=fn) (λ_=>gx.Zf fF dZ.1 hq (XD hJ bR) hJ.inj ⟨Uk hJ,Um hJ⟩ hJ.wf h1) (hb N hN).1 (hb N hN).2⟩
 .rw[if_neg hq]at hs;obtain⟨e',au,h1,b,hb⟩:=yE (fr:=af) (pl:=bP ops) (CX:=CX) hC (λg hg=>by rw[Mz]at hg;cases hg) ops.toList.zipIdx [] V O K R X E G (kU.nil _) (by rw[bf];exact hs) hJ hn hK bR dz;rcases dZ.2 with rj|rj
  .exact⟨b,λN hN=>cT.ofS (fn:=fn) (λ_=>gx.draw fF dZ.1 rj hJ.wf h1) (hb N hN).1 (hb N hN).2⟩
  .exact absurd rj hq
def Uo(fF:P.follows .mixedOrders=ab)(hC:mj P C)(bE:ou Cx P C Q self){id j:Nat}(dZ:(Rw ops j&&(bP (ops.extract 0 j)).ok&&(zC (ops.extract 0 j) (bP (ops.extract 0 j))||i6 P (bP (ops.extract 0 j)) (ops.extract 0 j).toList.zipIdx (uB d V)))=ab)
 (hs:(gO P (if i6 P (bP (ops.extract 0 j)) (ops.extract 0 j).toList.zipIdx (uB d V)then cfg else xc cfg) self kx Cx d f0 ab (ops.extract 0 j) [] (ops.extract 0 j).toList V λV=>gO P cfg self kx Cx d f0 af ops [] (ops.toList.drop j) V kk).sat P C Q K O)
 (hJ:J Cx (ax P O) R X V.g V.l E G)(hn:O.length=V.n)(hK:K.length=V.lv)(bR:(E d).n=V.nt)(dz:KS Cx P C Q d E K O V.nt kk (λN e G=>CX N .normal e G))(gR:KP Cx P C Q d E K O V.nt kx (λN v e G=>CX N (.cd v) e G)):
 ∃b,∀N,b<=N->cT P N rd (.region id ops ab) (E d) df G (CX N):=by
 simp only[awb,awO]at dZ;obtain⟨⟨ht,oC⟩,hq0⟩:=dZ;have bf:(ops.extract 0 j).toList.zipIdx.map (·.1)=(ops.extract 0 j).toList:=by simp
 have akY:KS Cx P C Q d E K O V.nt (λV=>gO P cfg self kx Cx d f0 af ops [] (ops.toList.drop j) V kk) (λN e G=>(λN (_:Ex) e G=>dC P N rd ops (ops.toList.drop j) e df G (CX N)) N .normal e G):=by
  intro V' I K' R' aU E' au hf bp;obtain⟨b,hb⟩:=Ov (CX:=CX) (rd:=rd) (df:=df) hC bE (ops.toList.drop j) [] V' (O++I) K' R' aU E' au (kU.nil _) bp hf.hJ hf.hn hf.fW (by rw[hf.GF,bR,hf.bR]) (by rw[hf.bR];exact dz.fwd hf.hK hf.hE hf.GF) (by rw[hf.bR];exact gR.fwd hf.hK hf.hE hf.GF);exact⟨max b au.n,λN hN=>⟨by omega,hb N aj⟩⟩
 by_cases hq:i6 P (bP (ops.extract 0 j)) (ops.extract 0 j).toList.zipIdx (uB d V)=ab
 .rw[if_pos hq]at hs;obtain⟨e',au,h1,b,hb⟩:=yE (fr:=ab) (pl:=bP (ops.extract 0 j)) (CX:=λN _ e G=>dC P N rd ops (ops.toList.drop j) e df G (CX N)) hC (λ_ _=>rfl) (ops.extract 0 j).toList.zipIdx [] V O K R X E G (kU.nil _) (by rw[bf];exact hs) hJ hn hK bR akY;exact⟨b,λN hN=>cT.Tg fF ht oC (λ_=>Kl.Zf oC hq (XD hJ bR) hJ.inj ⟨Uk hJ,Um hJ⟩ hJ.wf h1) (hb N hN).1 (hb N hN).2⟩
 .rw[if_neg hq]at hs;obtain⟨e',au,h1,b,hb⟩:=yE (fr:=af) (pl:=bP (ops.extract 0 j)) (CX:=λN _ e G=>dC P N rd ops (ops.toList.drop j) e df G (CX N)) hC (λg hg=>by rw[Mz]at hg;cases hg) (ops.extract 0 j).toList.zipIdx [] V O K R X E G (kU.nil _) (by rw[bf];exact hs) hJ hn hK bR akY;rcases hq0 with rj|rj
  .exact⟨b,λN hN=>cT.Tg fF ht oC (λ_=>Kl.draw oC rj hJ.wf h1) (hb N hN).1 (hb N hN).2⟩
  .exact absurd rj hq
theorem XR.goto{ex:yw}{x:Ex}(h:XR P O R X L G ex x)(l:Nat):x≠.goto l:=by
 cases ex with
 |cd t pv=>obtain⟨v,rfl,_⟩:=h;simp
 |_=>rw[show x=_ from h];simp
def XR.norm{ex:yw}{x:Ex}(h:XR P O R X L G ex x)(bg:ex≠.normal):x≠.normal:=by
 cases ex with
 |normal=>exact absurd rfl bg
 |cd t pv=>obtain⟨v,rfl,_⟩:=h;simp
 |_=>rw[show x=_ from h];simp
def XE{t:Nat}{c:Cl SE}(hc:c≠.un)(h:bM P d V 0 (.tmp t)=.one c):ct d t V.g=aa (.one c):=by
 simp only[bM]at h;cases hg:ct d t V.g with
 |none=>rw[hg]at h;cases h;exact absurd rfl hc
 |some pv=>rw[hg]at h;simpa using h
def KW.ks{kk:yw->SS->aq}{nt:Nat}{CW:Nat->kT}(h:KW Cx P C Q d E K O nt kk CW):KS Cx P C Q d E K O nt (kk .normal) (λN e G=>CW N .normal e G):=
 λV' I K' R' aU E' au hf hs=>h .normal V' I K' R' aU E' au _ hf rfl hs
theorem Qv{a:Code}{k:yw->SS->aq}{CW:Nat->kT}{H:SS}{n mm f:Nat}{ws:List (Nat×Nat×Nat)}{bad:SS->aq}{lv:Nat}(hKl:K.length=lv){jk:Bool}(eQ:jk=af->rd=ah)(bE:ou Cx P C Q self)(akZ:∀W K O,¬(bad W).sat P C Q K O)
 (hK:K.length+1=H.lv)(hHn:H.n=n+mm)(hn:O.length=n)(jl:KW Cx P C Q d E K O H.nt k CW):∀(m:Nat) {vs:List IV} {R:Rs} {X:Ph} {E1:Nat->Env} {G:St},J Cx (ax P (O++vs)) R X H.g H.l E1 G->vs.length=mm->(∀j,j<d->E1 j=E j)->(E1 d).n=(E d).n->(E d).n=H.nt->
  (Nat.rec (motive:=λ_=>List IV->Prop) (λ_=>False) (λ_ ih vs=>(self jk d f a H λex W=>match ex with
   |.normal=>match inst n mm H (IH ws H W)with
    |some (args,_)=>.next lv (eR args)
    |none=>bad W
   |ex=>k ex W).sat P C Q (K++[ih]) (O++vs)) m) vs->∃b,∀N,b<=N->qa P N rd m a (E1 d) df G (CW N)
 |0,_,_,_,_,_,_,_,_,_,_,h=>h.elim
 |m+1,vs,R,X,E1,G,hJ,dP,hE,Ub,hE2,h=>by
  obtain⟨b,hb⟩:=bE jk d f a H _ (O++vs) _ R X E1 G (λN=>yq N (λe1 av=>qa P N rd m a e1 df av (CW N)) (CW N)) rd df eQ h hJ (by rw[awi,hn,dP,hHn]) (by simp[hK]) (by rw[Ub,hE2]) (by
   intro ex V' I K' R' aU E' au x hf hx hs
   have other:∀yF,yF≠.normal->XR P (O++vs++I) R' aU V'.l au yF x->(k yF V').sat P C Q K' (O++vs++I)->∃b,∀N,b<=N->au.n<=N/\yq N (λe1 av=>qa P N rd m a e1 df av (CW N)) (CW N) x (E' d) au:=by
    intro yF bg hx hs;have asM:∀x,KW Cx P C Q d E1 (K++[x]) (O++vs) H.nt k CW:=λx=>jl.fwd (aAx K [x]) hE Ub;obtain⟨b,hb⟩:=asM _ yF V' I K' R' aU E' au x hf hx hs;exact⟨b,λN hN=>⟨(hb N hN).1,(hb N hN).1,λh=>absurd h (hx.norm bg),λ_=>(hb N hN).2⟩⟩
   cases ex with
   |normal=>
    obtain rfl:=hx;simp only at hs;split at hs
    .rename_i es ef hi;obtain⟨R2,fg,zi,_⟩:=aeO ws H hf.hJ;obtain⟨us,p,h1,h2,h3⟩:=hs;obtain⟨hlen,vM⟩:=On (sP:=O) fg hn ⟨vs++I,by rw[awv]⟩ hi (KH h1);obtain⟨t,ht⟩:=hf.hK;rw[<-ht,awv,awD aj,hKl,aBC]at h2;simp only[azc,axB,awf]at h2;subst h2;obtain⟨b,hb⟩:=Qv hKl eQ bE akZ hK hHn hn jl m vM hlen (λj hj=>by rw[hf.hE j hj,hE j hj]) (by rw[hf.GF,Ub]) hE2 h3;exact⟨max b au.n,λN hN=>⟨by omega,by omega,λ_=>hb N aj,λh=>absurd rfl h⟩⟩
    .exact(akZ _ _ _ hs).elim
   |exit i=>exact other (.exit i) ay hx hs
   |ret=>exact other .ret ay hx hs
   |cd t pv=>exact other (.cd t pv) ay hx hs)
  exact⟨b,λN hN=>.succ (hb N hN)⟩
theorem Qw{a:Code}{k:yw->SS->aq}{CW:Nat->kT}{f:Nat}{jk:Bool}(eQ:jk=af->rd=ah)(bE:ou Cx P C Q self):∀(n:Nat) (V:SS) O K R X E G,(N3 self jk d f a k n V).sat P C Q K O->J Cx (ax P O) R X V.g V.l E G->O.length=V.n->K.length=V.lv->(E d).n=V.nt->KW Cx P C Q d E K O V.nt k CW->
 ∃b,∀N,b<=N->qa P N rd n a (E d) df G (CW N)
 |0,_,_,_,_,_,_,_,hs,_,_,_,_,_=>hs.elim
 |n+1,V,O,K,R,X,E,G,hs,hJ,hn,hK,bR,jl=>by
  obtain⟨b,hb⟩:=bE jk d f a V _ O K R X E G (λN=>yq N (λe1 av=>qa P N rd n a e1 df av (CW N)) (CW N)) rd df eQ hs hJ hn hK bR (by
   intro ex V' I K' R' aU E' au x0 hf hx bp
   have other:∀yF,yF≠.normal->XR P (O++I) R' aU V'.l au yF x0->(k yF V').sat P C Q K' (O++I)->∃b,∀N,b<=N->au.n<=N/\yq N (λe1 av=>qa P N rd n a e1 df av (CW N)) (CW N) x0 (E' d) au:=by
    intro yF bg hx hs;obtain⟨b,hb⟩:=jl yF V' I K' R' aU E' au x0 hf hx hs;exact⟨b,λN hN=>⟨(hb N hN).1,(hb N hN).1,λh=>absurd h (hx.norm bg),λ_=>(hb N hN).2⟩⟩
   cases ex with
   |normal=>
    obtain rfl:=hx
    obtain⟨b,hb⟩:=Qw eQ bE n V' (O++I) K' R' aU E' au bp hf.hJ hf.hn hf.fW (by rw[hf.GF,bR,hf.bR]) (by
     rw[hf.bR];exact jl.fwd hf.hK hf.hE hf.GF)
    exact⟨max b au.n,λN hN=>⟨by omega,by omega,λ_=>hb N aj,λh=>absurd rfl h⟩⟩
   |exit i=>exact other (.exit i) ay hx bp
   |ret=>exact other .ret ay hx bp
   |cd t pv=>exact other (.cd t pv) ay hx bp)
  exact⟨b,λN hN=>.succ (hb N hN)⟩
def Ww(fF:P.follows .mixedOrders=ab)(hC:mj P C){i9:Cs->nJ}(Mw:∀Cx Q,ou Cx P C Q (i9 Cx)):ou Cx P C Q (nK P cfg Cx i9):=by
 have bE:=Mw Cx Q;intro jk d f c V k O K R X E G CW rd df eQ hs hJ hn hK bR jl;cases c with
 |skip=>
  obtain⟨b,hb⟩:=jl.now hJ hn hK (ex:=.normal) rfl hs;exact⟨b,λN hN=>.skip (hb N hN).2⟩
 |label l=>
  obtain⟨b,hb⟩:=jl.now hJ hn hK (ex:=.normal) rfl hs;exact⟨b,λN hN=>.label (hb N hN).2⟩
 |exit id=>
  obtain⟨b,hb⟩:=jl.now hJ hn hK (ex:=.exit id) rfl hs;exact⟨b,λN hN=>.exit (hb N hN).2⟩
 |ret=>
  obtain⟨b,hb⟩:=jl.now hJ hn hK (ex:=.ret) rfl hs;exact⟨b,λN hN=>.ret (hb N hN).2⟩
 |region id ops draw=>
  cases draw with
  |true=>
   simp only[nK,if_true]at hs;split at hs
   .split at hs
    .rename_i dZ;exact Uo fF hC bE dZ hs hJ hn hK bR jl.ks jl.kp
    .exact hs.elim
   split at hs
   .rename_i dZ;exact ae6 (fn:=0) fF hC dZ hs hJ hn hK bR jl.ks
   .exact hs.elim
  |false=>
   simp only[nK,awA,if_false]at hs;obtain⟨b,hb⟩:=Ov (CX:=CW) (rd:=rd) (df:=df) hC bE ops.toList [] V O K R X E G (kU.nil _) hs hJ hn hK bR jl.ks jl.kp;exact⟨b,λN hN=>.region (hb N hN)⟩
 |seq x y=>
  simp only[nK]at hs
  obtain⟨b,hb⟩:=bE jk d f x V _ O K R X E G (λN=>yq N (λe1 av=>cT P N rd y e1 df av (CW N)) (CW N)) rd df eQ hs hJ hn hK bR (by
   intro ex V' I K' R' aU E' au x0 hf hx bp
   have other:∀yF,yF≠.normal->XR P (O++I) R' aU V'.l au yF x0->(k yF V').sat P C Q K' (O++I)->∃b,∀N,b<=N->au.n<=N/\yq N (λe1 av=>cT P N rd y e1 df av (CW N)) (CW N) x0 (E' d) au:=by
    intro yF bg hx hs;obtain⟨b,hb⟩:=jl yF V' I K' R' aU E' au x0 hf hx hs;exact⟨b,λN hN=>⟨(hb N hN).1,(hb N hN).1,λh=>absurd h (hx.norm bg),λ_=>(hb N hN).2⟩⟩
   cases ex with
   |normal=>
    obtain rfl:=hx
    obtain⟨b,hb⟩:=bE jk d f y V' k (O++I) K' R' aU E' au CW rd df eQ bp hf.hJ hf.hn hf.fW (by rw[hf.GF,bR,hf.bR]) (by
     rw[hf.bR];exact jl.fwd hf.hK hf.hE hf.GF)
    exact⟨max b au.n,λN hN=>⟨by omega,by omega,λ_=>hb N aj,λh=>absurd rfl h⟩⟩
   |exit i=>exact other (.exit i) ay hx bp
   |ret=>exact other .ret ay hx bp
   |cd t pv=>exact other (.cd t pv) ay hx bp)
  exact⟨b,λN hN=>.seq (hb N hN)⟩
 |cond c x y=>
  simp only[nK]at hs;have hc:=bw hJ d 0 c;split at hs
  .rename_i hh;rw[hh]at hc;obtain⟨u,h1,h2,_⟩:=hc;simp only[ax,SE.den,awf]at h1;subst h1;obtain⟨b,hb⟩:=bE jk d f x V k O K R X E G CW rd df eQ hs hJ hn hK bR jl;exact⟨b,λN hN=>.cond (cA h2) (by rw[if_pos rfl];exact hb N hN)⟩
  .rename_i hh;rw[hh]at hc;obtain⟨u,h1,h2,_⟩:=hc;simp only[ax,SE.den,awf]at h1;subst h1;obtain⟨b,hb⟩:=bE jk d f y V k O K R X E G CW rd df eQ hs hJ hn hK bR jl;exact⟨b,λN hN=>.cond (cA h2) (by rw[if_neg ay];exact hb N hN)⟩
  .rename_i e _ _ hh;split at hs
   .rename_i t;split at hs
    .exact hs.elim
    .have hg:=XE ay hh;rcases hs with⟨h1,hs⟩|⟨h1,hs⟩
     .obtain⟨aM,bH⟩:=J.refine hJ (.inl hg) h1;obtain⟨b,hb⟩:=bE jk d f x _ k O K R X E G CW rd df eQ hs bH hn hK bR jl;exact⟨b,λN hN=>.cond (t:=ab) aM (by rw[if_pos rfl];exact hb N hN)⟩
     .obtain⟨aM,bH⟩:=J.refine hJ (.inl hg) h1;obtain⟨b,hb⟩:=bE jk d f y _ k O K R X E G CW rd df eQ hs bH hn hK bR jl;exact⟨b,λN hN=>.cond (t:=af) aM (by rw[if_neg ay];exact hb N hN)⟩
   .exact hs.elim
  .rename_i e hh;split at hs
   .rename_i t;split at hs
    .exact hs.elim
    .have hg:=XE ay hh;rcases hs with⟨h1,hs⟩|⟨h1,hs⟩
     .obtain⟨aM,bH⟩:=J.refine hJ (.inr ⟨_,hg⟩) h1;obtain⟨b,hb⟩:=bE jk d f x _ k O K R X E G CW rd df eQ hs bH hn hK bR jl;exact⟨b,λN hN=>.cond (t:=ab) aM (by rw[if_pos rfl];exact hb N hN)⟩
     .obtain⟨aM,bH⟩:=J.refine hJ (.inr ⟨_,hg⟩) h1;obtain⟨b,hb⟩:=bE jk d f y _ k O K R X E G CW rd df eQ hs bH hn hK bR jl;exact⟨b,λN hN=>.cond (t:=af) aM (by rw[if_neg ay];exact hb N hN)⟩
   .exact hs.elim
  .exact hs.elim
 |block id x=>
  simp only[nK]at hs
  obtain⟨b,hb⟩:=bE jk d f x V _ O K R X E G (λN ex e1 av=>CW N (match ex with|.exit i=>if i=id then .normal else .exit i|ex=>ex) e1 av) rd df eQ hs hJ hn hK bR (by
   intro ex V' I K' R' aU E' au x0 hf hx bp;cases ex with
   |normal=>obtain rfl:=hx;exact jl .normal V' I K' R' aU E' au _ hf rfl bp
   |ret=>obtain rfl:=hx;exact jl .ret V' I K' R' aU E' au _ hf rfl bp
   |cd t pv=>obtain⟨v,rfl,hv⟩:=hx;exact jl (.cd t pv) V' I K' R' aU E' au _ hf ⟨v,rfl,hv⟩ bp
   |exit i=>
    obtain rfl:=hx;simp only at bp;split at bp
    .rename_i hh;have:=awk hh;subst this;simpa using jl .normal V' I K' R' aU E' au _ hf rfl bp
    .rename_i hh;have bg:i≠id:=by rintro rfl;simp at hh
     simpa[bg]using jl (.exit i) V' I K' R' aU E' au _ hf rfl bp)
  exact⟨b,λN hN=>.block (hb N hN)⟩
 |scope x=>
  simp only[nK]at hs
  obtain⟨b,hb⟩:=bE jk d f x V k O K R X E G (λN ex e1 av=>(∀l,ex≠.goto l)/\CW N ex e1 av) rd df eQ hs hJ hn hK bR (by
   intro ex V' I K' R' aU E' au x0 hf hx bp;obtain⟨b,hb⟩:=jl ex V' I K' R' aU E' au x0 hf hx bp;exact⟨b,λN hN=>⟨(hb N hN).1,hx.goto,(hb N hN).2⟩⟩)
  exact⟨b,λN hN=>.scope (hb N hN)⟩
 |loop x=>
  simp only[nK]at hs;split at hs
  .rename_i nn _;obtain⟨b,hb⟩:=Qw (rd:=rd) (df:=df) eQ bE nn V O K R X E G hs hJ hn hK bR jl;exact⟨b,λN hN=>.loop (hb N hN)⟩
  split at hs
  .rename_i es ef hi
   obtain⟨_,hs⟩:True/\(aq.loop (eR es) _).sat P C Q K O:=by
    split at hs
    .exact⟨trivial,hs⟩
    .exact⟨trivial,hs⟩
   obtain⟨vs,h1,m,h2⟩:=hs;obtain⟨R2,fg,zi,_⟩:=T_ _ hJ;obtain⟨hlen,vM⟩:=On (sP:=O) fg (by rw[zi];exact hn) ⟨[],by simp⟩ hi (KH h1);obtain⟨b,hb⟩:=Qv (rd:=rd) (df:=df) (CW:=CW) (E:=E) (bad:=λW=>.bad _ _ _ _ _ _ _ W.g W.l) hK eQ bE (λ_ _ _ h=>h) (by exact congrArg Nat.succ hK) (by rfl) (hn.trans zi.symm) (by exact jl) m vM hlen (λ_ _=>rfl) rfl (by exact bR) h2;exact⟨b,λN hN=>.loop (hb N hN)⟩
  .exact hs.elim
 |rangeFunc g params assign body=>
  simp only[nK]at hs;split at hs
  .exact hs.elim
  .rename_i hr;obtain rfl:=eQ (by simpa using hr);split at hs<;>try exact hs.elim
   rename_i F bs hg;exact ab3 (λCx=>Mw Cx Q) hJ hn hK bR jl hg hs
 |_=>exact hs.elim
theorem Up(fF:P.follows .mixedOrders=ab)(hC:mj P C):∀n Cx Q,ou Cx P C Q (exec P cfg n Cx)
 |0,_,_=>λ_ _ _ _ _ _ _ _ _ _ _ _ _ _ _ _ hs _ _ _ _ _=>hs.elim
 |n+1,_,_=>Ww fF hC (Up fF hC n)
def IT(fF:P.follows .mixedOrders=ab)(hC:mj P C)(n:Nat)(Cx:Cs):ou Cx P C Q (exec P cfg n Cx):=Up fF hC n Cx Q
end
section
variable{Cx:Cs}
variable{P:Program}{N:Nat}{G au:St}{R R':Rs}{X aU:Ph}{E:Nat->Env}{O:List IV}{ro:Nat}{Z:Io}{w:World}{cfg:fe}{self:nJ}
variable{C:Cr}{Q:IV->Prop}{K:List (List IV->Prop)}{V:SS}{d f0:Nat}{L:List (LO SE)}{Γ:Gm SE}{rd:Option Nat}{df:List Df}
def jq.vr1{V V1:SS}{R1:Rs}(h:jq P O R X V G R1 V1){x:IV}{p:Bool×List (Cl SE)}(hx:vA (ax P O) R X V.l G x p):vA (ax P O) R1 X V1.l G x p:=by
 unfold vA at hx⊢;split
 .rename_i hp;rw[if_pos hp]at hx;obtain⟨xs,h1,h2⟩:=hx;exact⟨xs,h1,h2.mono λ_ _ b_=>h.TB b_⟩
 .rename_i hp;rw[if_neg hp]at hx;obtain⟨c,h1,h2⟩:=hx;exact⟨c,h1,h.TB h2⟩
theorem XF:∀{vs:List (Bool×List (Cl SE))} {V V':SS} {R:Rs} {fr:Bool} {zs:List SE},J Cx (ax P O) R X V.g V.l E G->vG.Ti V vs=aa (fr,zs,V')->
 ∃R',jq P O R X V G R' V'/\J Cx (ax P O) R' X V'.g V'.l E G/\∀xs,All2 (vA (ax P O) R X V.l G) xs vs->∃ys,All2 (λ(z:SE) y=>z.den P O=aa y) zs ys/\All2 (bx fr R' G) xs ys
 |[],V,V',R,fr,zs,h,hr=>by
  simp only[vG.Ti,awf,awM]at hr;obtain⟨rfl,rfl,rfl⟩:=hr;refine⟨R,.refl h,h,λxs hx=>?_⟩;cases xs with
  |nil=>exact⟨[],trivial,trivial⟩
  |cons=>exact hx.elim
 |(a,cs)::vs,V,V',R,fr,zs,h,hr=>by
  simp only[vG.Ti]at hr;split at hr
  .rename_i f1 z1 V1 h1;split at hr
   .rename_i f2 ys2 V2 h2;obtain⟨R1,a1,a2,_,a3⟩:=Ap h h1;obtain⟨R2,b1,b2,b3⟩:=XF a2 h2
    have key:∀z,(a=ab->z=eR z1)->(a=af->z1=[z])->(f1||f2,z::ys2,V2)=(fr,zs,V')->∃R',jq P O R X V G R' V'/\J Cx (ax P O) R' X V'.g V'.l E G/\∀xs,All2 (vA (ax P O) R X V.l G) xs ((a,cs)::vs)->∃ys,All2 (λ(z:SE) y=>z.den P O=aa y) zs ys/\All2 (bx fr R' G) xs ys:=by
     intro z oL Hv he;simp only[awM]at he;obtain⟨rfl,rfl,rfl⟩:=he;refine⟨R2,a1.trans b1,b2,λxs hx=>?_⟩;cases xs with
     |nil=>exact hx.elim
     |cons x xs=>
      obtain⟨ys,d1,d2⟩:=b3 xs (hx.2.mono λ_ _ b_=>a1.vr1 b_);have wB:=hx.1;unfold vA at wB;cases a with
      |true=>
       simp only[if_true]at wB;obtain⟨us,rfl,h5⟩:=wB;obtain⟨ws,e1,e2,_⟩:=a3 us h5;refine⟨.agg ws::ys,⟨by rw[oL rfl];exact gy e1,d1⟩,⟨?_,d2.mono λ_ _ b_=>b_.wide (λh=>by simp[h])⟩⟩;exact .agg us ws e2.len λi c e g1 g2=>((e2.get g1 g2).mono b1.2.2.2.grow).wide (λh=>by simp[h])
      |false=>
       simp only[awA,if_false]at wB;obtain⟨c,hc,h5⟩:=wB;obtain⟨ws,e1,e2,_⟩:=a3 [x] (by rw[hc];exact⟨h5,trivial⟩);rw[Hv rfl]at e1;cases ws with
       |nil=>exact e1.elim
       |cons y ws=>
        exact⟨y::ys,⟨e1.1,d1⟩,⟨(e2.1.mono b1.2.2.2.grow).wide (λh=>by simp[h]),d2.mono λ_ _ b_=>b_.wide (λh=>by simp[h])⟩⟩
    cases a with
    |true=>
     simp only[awf]at hr;exact key _ (λ_=>rfl) (λh=>by cases h) hr
    |false=>
     split at hr<;>try (cases hr;done)
     .exact absurd ‹af=ab› ay
     .simp only[awf]at hr;exact key _ (λh=>by cases h) (λ_=>rfl) hr
   .cases hr
  .cases hr
def Uq{V':SS}{pv:PV SE}{fr:Bool}{z:SE}(h:J Cx (ax P O) R X V.g V.l E G)(hr:vG V pv=aa (fr,z,V')){x:IV}(hx:VR (ax P O) R X V.l G x pv):
 ∃R' y,z.den P O=aa y/\bx fr R' G x y:=by
 cases pv with
 |one c=>
  obtain⟨R',_,_,h3⟩:=Oh h hr (λ_ h=>by cases h);obtain⟨y,h4,h5⟩:=h3 x hx;exact⟨R',y,h4,h5⟩
 |ag cs=>
  obtain⟨R',_,_,h3⟩:=Oh h hr (λ_ h=>by cases h);obtain⟨y,h4,h5⟩:=h3 x hx;exact⟨R',y,h4,h5⟩
 |tu vs=>
  simp only[vG]at hr;split at hr
  .rename_i f zs V1 vP;simp only[awf,awM]at hr;obtain⟨rfl,rfl,rfl⟩:=hr;obtain⟨R',_,_,h3⟩:=XF h vP;obtain⟨xs,rfl,sG⟩:=hx;obtain⟨ys,a,b⟩:=h3 xs sG;exact⟨R',.aF ys,by simp[SE.den,gy a],.aF xs ys b.len λi c e h1 h2=>b.get h1 h2⟩
  .cases hr
theorem HI{args:List IV}{f:aq}(hp:∀v∈args,Pure v):∀{ts:List TypeId} {j:Nat},(yy P j ts f).sat P C Q K args->j+ts.length=args.length->f.sat P C Q K args/\All2 (VR (ax P args) R X L G) (args.drop j) (gY P j ts)
 |[],j,hs,hl=>by
  simp at hl;rw[awY aj];exact⟨hs,trivial⟩
 |t::ts,j,hs,hl=>by
  simp at hl;have hj:j<args.length:=aj;have hd:(SE.var j).den P args=aa args[j]:=by simp[SE.den,hj]
  obtain⟨h1,h2,_⟩:=HC (R:=R) (X:=X) (L:=L) (G:=G) hd (hp _ (awd hj)) hs;obtain⟨h4,h5⟩:=HI hp h1 aj;refine⟨h4,?_⟩;rw[awH hj];exact⟨h2,h5⟩
def MA{x z:IV}{fr:Bool}(h:aN z=ab)(hc:bx fr R G x z):bx af R G x z:=by
 cases z<;>simp only[aN]at h<;>try (cases h;done)
 rw[cA hc];exact .raw _
def eC.xI(fF:P.follows .mixedOrders=ab)(hC:mj P C){n:Nat}{new:Bool}{f:FuncId}{di:aq}{args:List IV}{z:IV}(he:aQ P cfg n new f=di)(hl:(P.funcs[f]?).map (·.params.size)=aa args.length)(hp:∀x∈args,Pure x)
 (hs:di.sat P C (·=z) [] args):eC P af new f args z:=by
 subst he;unfold aQ at hs;split at hs<;>try exact hs.elim
 rename_i fn cL;split at hs<;>try exact hs.elim
 rename_i c hb;split at hs<;>try exact hs.elim
 rename_i hle;have adQ:fn.params.size<=fn.ntmps:=by simpa using hle
 rw[cL]at hl;simp only[awQ,awf]at hl;obtain⟨hs,bS⟩:=HI (R:=λ_=>ah) (X:=λ_=>ah) (L:=[]) (G:=⟨0,.lf⟩) hp hs (by simpa using hl);have hlen:args.length<=fn.ntmps:=aj
 have hJ:J [] (ax P args) (λ_=>ah) (λ_=>ah) (setArgs 0 0 (gY P 0 fn.params.toList)) [] (λ_=>dX args fn.ntmps) ⟨0,.lf⟩:=by
  refine⟨λd t pv hg=>?_,λk ob h=>(by simp at h),λk k' id h=>(by cases h),λk id h=>(by cases h),λid m h=>(by cases h),λid m cs aD mn h=>(by cases h),T.WF.lf,λid _=>rfl⟩;obtain⟨rfl,_,h3⟩:=ml (α:=IV) hg;rw[azd]at bS;have ht:t<args.length:=by rw[bS.len];have:=(awa.1 h3).1;simpa using this
  show VR _ _ _ _ _ ((dX args fn.ntmps).at t) pv;rw[(fi hlen).2 ht,av_ ht];exact bS.get (av_ ht) (by simpa using h3)
 obtain⟨b,zL⟩:=IT fF hC n [] af 0 f c ⟨setArgs 0 0 (gY P 0 fn.params.toList),[],fn.params.size,0,fn.ntmps⟩ _ args [] _ _ _ _
  (λN ex e1 av=>(ex=.normal\/ex=.ret)/\av.n<=N/\∃v,cV P fn e1 av=aa v/\Can (!new) av v z) ah [] (λ_=>rfl) hs hJ hl.symm rfl (fi (t:=0) hlen).1 (by
   intro ex V' I K' R' aU E' au x0 hf pV bp
   have main:∀kC,s9 P 0 V' fn.results.toList=aa kC->(match vG V' (Hn kC)with|some (fr,z,_)=>aq.ret (if new&&fr then .rw z else z)|none=>.fail 142).sat P C (·=z) K' (args++I)->∃b,∀N,b<=N->au.n<=N/\au.n<=N/\∃v,cV P fn (E' 0) au=aa v/\Can (!new) au v z:=by
    intro kC hr gJ;obtain⟨vs,h1,h2⟩:=vb hf.hJ hr;have hv:=Oj h2;split at gJ<;>try exact gJ.elim
    rename_i fr e _ eQ;obtain⟨R2,y,h3,h4⟩:=Uq hf.hJ eQ hv;obtain⟨z',h5,rfl⟩:=gJ;refine⟨au.n,λN hN=>⟨hN,hN,HF vs,vc h1,?_⟩⟩;cases new with
    |false=>
     simp only[ax8,awA,if_false]at h5;rw[h3]at h5;cases h5;exact h4.cG.can
    |true=>
     cases fr with
     |false=>
      simp only[Bool.and_false,awA,if_false]at h5;rw[h3]at h5;cases h5;exact h4.can
     |true=>
      simp only[Bool.and_self,if_true,SE.den,h3,awc]at h5;split at h5
      .rename_i jM;cases h5;exact(MA jM h4).can
      .cases h5
   cases ex with
   |exit i=>exact bp.elim
   |cd t pv=>exact bp.elim
   |normal=>
    obtain rfl:=pV;simp only at bp;split at bp
    .rename_i kC hr;obtain⟨b,hb⟩:=main kC hr bp;exact⟨b,λN hN=>⟨(hb N hN).1,.inl rfl,(hb N hN).2⟩⟩
    .exact bp.elim
   |ret=>
    obtain rfl:=pV;simp only at bp;split at bp
    .rename_i kC hr;obtain⟨b,hb⟩:=main kC hr bp;exact⟨b,λN hN=>⟨(hb N hN).1,.inr rfl,(hb N hN).2⟩⟩
    .exact bp.elim)
 exact eC.S3 (eY.body (RW:=λv av=>Can (!new) av v z) cL hb hlen (zL b (awe _))) λv au h=>h
end
section
variable{Cx:Cs}
section run
variable(P:Program)(cfg:fe)
def Au(n s:Nat)(f:FuncId):aq:=
 match P.funcs[f]? with
 |some fn=>match fn.body,fn.params.toList with
  |some c,_::ts=>
   if axj fn.params.size fn.ntmps then
    yy P 1 ts<|exec P cfg n [] af 0 f c ⟨setArgs 0 0 (.one (.sr 0)::gY P 1 ts),[.row s af af ab (.var 0)],fn.params.size,0,fn.ntmps⟩ λex V=>match ex with
     |.exit _=>.fail 141
     |.cd _ _=>.fail 146
     |_=>match s9 P 0 V fn.results.toList with
      |some [.one (.sr k)]=>match V.l[k]? with
       |some (.row s' af af fr z)=>if awl s s' then .ret (if fr then .rws z else z)else .fail 146
       |_=>.fail 147
      |_=>.fail 148
   else .fail 143
  |_,_=>.fail 144
 |none=>.fail 145
end run
variable{P:Program}{N:Nat}{G au:St}{R R':Rs}{X aU:Ph}{E:Nat->Env}{O:List IV}{cfg:fe}{self:nJ}
variable{C:Cr}{Q:IV->Prop}{K:List (List IV->Prop)}{V:SS}{d f0:Nat}{L:List (LO SE)}{Γ:Gm SE}
theorem MB{xs args:List IV}{x z:IV}{f:aq}(hp:All2 jJ args xs):∀{ts:List TypeId} {j:Nat},(yy P (j+1) ts f).sat P C Q K (z::xs)->j+ts.length=xs.length->f.sat P C Q K (z::xs)/\All2 (VR (ax P (z::xs)) R X L G) (args.drop j) (gY P (j+1) ts)
 |[],j,hs,hl=>by
  simp at hl;rw[awY (by have:=hp.len;omega)];exact⟨hs,trivial⟩
 |t::ts,j,hs,hl=>by
  simp at hl;have hj:j<xs.length:=aj;have nW:j<args.length:=by have:=hp.len;omega
  have hd:(SE.var (j+1)).den P (z::xs)=aa xs[j]:=by simp[SE.den,hj]
  obtain⟨h1,h2⟩:=Fm (R:=R) (X:=X) (L:=L) (G:=G) hd (hp.get (av_ nW) (av_ hj)) hs;obtain⟨h4,h5⟩:=MB (x:=x) hp h1 aj;refine⟨h4,?_⟩;rw[awH nW];exact⟨h2,h5⟩
def Fg.xI(fF:P.follows .mixedOrders=ab)(hC:mj P C){n s:Nat}{f:FuncId}{di:aq}{es aT xs:List IV}(he:Au P cfg n s f=di)(hl:(P.funcs[f]?).map (·.params.size)=aa (xs.length+1))
 (hs:di.sat P C (·=.tree s aT) [] (.tree s es::xs)):Fg P s f es xs aT:=by
 subst he;unfold Au at hs;split at hs<;>try exact hs.elim
 rename_i fn cL;split at hs<;>try exact hs.elim
 rename_i c t0 ts hb wO;split at hs<;>try exact hs.elim
 rename_i hle;have adQ:fn.params.size<=fn.ntmps:=by simpa using hle
 rw[cL]at hl;simp only[awQ,awf]at hl
 have bf:ts.length=xs.length:=by
  have:fn.params.toList.length=fn.params.size:=by simp
  rw[wO]at this;simp at this;omega
 intro R X E G x args mh hX0 bJ KW T0;have ey:args.length=xs.length:=bJ.len;obtain⟨cj,lW,k1,k2,k3⟩:=mh.obj 0 _ rfl;have Ca:aa (IV.tree s es)=aa (.tree s lW):=k1;cases Ca;obtain⟨fq,bS⟩:=MB (x:=x) (j:=0) (R:=R) (X:=X) (L:=[.row s af af ab (.var 0)]) (G:=G) bJ hs aj;rw[azd]at bS;have oK:(SE.var 0).den P (.tree s es::xs)=aa (.tree s es):=by simp[SE.den]
 have hX:cR (ax P (.tree s es::xs)) R X [.row s af af ab (.var 0)] G x (.sr 0):=by
  obtain⟨s1,m5,xh,wK,z1,gu,b1,b2,b3⟩:=hX0;have zr:aa (LO.row s af af af ())=aa (.row s1 m5 xh wK z1):=b1;cases zr;have wM:aa (IV.tree s es)=aa (.tree s gu):=b2;cases wM;exact⟨s,af,af,ab,.var 0,es,rfl,oK,b3⟩
 have MC:All2 (VR (ax P (.tree s es::xs)) R X [.row s af af ab (.var 0)] G) (x::args) (.one (.sr 0)::gY P 1 ts):=⟨hX,bS⟩;have hlen:(x::args).length<=fn.ntmps:=by simp;omega
 have hJ:J [] (ax P (.tree s es::xs)) R X (setArgs 0 0 (.one (.sr 0)::gY P 1 ts)) [.row s af af ab (.var 0)] (λ_=>dX (x::args) fn.ntmps) G:=by
  refine⟨λd t pv hg=>?_,λj ob hj=>?_,mh.inj,λj id hj=>?_,mh.qz,mh.fits,mh.wf,mh.top⟩
  .obtain⟨rfl,_,h3⟩:=ml (α:=IV) hg;have ht:t<(x::args).length:=by rw[MC.len];have:=(awa.1 h3).1;simpa using this
   show VR _ _ _ _ _ ((dX (x::args) fn.ntmps).at t) pv;rw[(fi hlen).2 ht,av_ ht];exact MC.get (av_ ht) (by simpa using h3)
  .cases j with
   |succ j=>simp at hj
   |zero=>
    simp at hj;subst hj;refine⟨cj,es,oK,k2,?_⟩;rcases k3 with⟨a,b⟩|⟨id,cs,aD,mn,a1,a2,a3,a4,a5,a6,a7⟩
    .exact .inl ⟨a,b⟩
    .exact .inr ⟨id,cs,aD,mn,a1,a2,a3,a4,a5,a6,λq u v hu hv=>(a7 q u v hu hv).wide (λh=>by cases h)⟩
  .have:=mh.lt j id hj;simpa using this
 obtain⟨b,zL⟩:=IT fF hC n [] af 0 f c ⟨setArgs 0 0 (.one (.sr 0)::gY P 1 ts),[.row s af af ab (.var 0)],fn.params.size,0,fn.ntmps⟩ _ (.tree s es::xs) [] _ _ _ _
  (λN ex e1 av=>(ex=.normal\/ex=.ret)/\av.n<=N/\∃v,cV P fn e1 av=aa v/\KW N v av) ah [] (λ_=>rfl) fq hJ (by simp;omega) rfl (fi (t:=0) hlen).1 (by
   intro ex V' I K' R' aU E' au x0 hf pV bp
   have main:(match s9 P 0 V' fn.results.toList with
    |some [.one (.sr k)]=>match V'.l[k]? with
     |some (.row s' af af fr z)=>if awl s s' then aq.ret (if fr then .rws z else z)else .fail 146
     |_=>.fail 147
    |_=>.fail 148).sat P C (·=IV.tree s aT) K' (IV.tree s es::xs++I)->∃b,∀N,b<=N->au.n<=N/\au.n<=N/\∃v,cV P fn (E' 0) au=aa v/\KW N v au:=by
    intro gJ;split at gJ<;>try exact gJ.elim
    rename_i k hr;obtain⟨vs,h1,h2⟩:=vb hf.hJ hr;split at gJ<;>try exact gJ.elim
    rename_i s' fr z hk;split at gJ<;>try exact gJ.elim
    rename_i lQ;have Dh:=awk lQ;subst Dh;obtain⟨z',h5,rfl⟩:=gJ;obtain⟨v,rfl,hv⟩:=xi h2;have hZ:cV P fn (E' 0) au=aa v:=vc h1;obtain⟨m0,Qx,m1,m2,m3⟩:=hf.hJ.obj k _ hk;have XG:z.den P (IV.tree s es::xs++I)=aa (.tree s Qx):=m1
    have qW:Qx=aT/\(fr=ab->∀e∈Qx,∀c∈cellsOf e,aN c=ab):=by
     cases fr with
     |false=>
      simp only[awA,if_false]at h5;rw[XG]at h5;cases h5;exact⟨rfl,λh=>by cases h⟩
     |true=>
      simp only[if_true]at h5;obtain⟨s1,gu,c1,c2,c3⟩:=Oq h5;rw[XG]at c1;cases c1;cases c2;exact⟨rfl,λ_=>c3⟩
    obtain⟨rfl,jM⟩:=qW
    have asN:∀{u w:IV} {q:Nat},(flat Qx)[q]?=aa w->bx fr R' au u w->bx af R' au u w:=by
     intro u w q hw hc;cases fr with
     |false=>exact hc
     |true=>
      obtain⟨e,he,tz⟩:=List.mem_flatMap.1 (awq hw);exact MA (jM rfl e he w tz) hc
    obtain⟨b,hb⟩:=T0 R' (λj=>if j=0 then aU k else ah) au v (by
     refine⟨λd t pv hg=>(by cases hg),λj ob hj=>?_,λj j' id h1 h2=>?_,λj id hj=>?_,hf.hJ.qz,hf.hJ.fits,hf.hJ.wf,hf.hJ.top⟩
     .cases j with
      |succ j=>simp at hj
      |zero=>
       simp at hj;subst hj;refine⟨m0,Qx,rfl,m2,?_⟩;rcases m3 with⟨a,b⟩|⟨id,cs,aD,mn,a1,a2,a3,a4,a5,a6,a7⟩
       .exact .inl ⟨by simp[a],b⟩
       .exact .inr ⟨id,cs,aD,mn,by simp[a1],a2,a3,a4,a5,a6,λq u w hu hw=>asN hw (a7 q u w hu hw)⟩
     .split at h1<;>try (cases h1;done)
      split at h2<;>try (cases h2;done)
      omega
     .split at hj<;>try (cases hj;done)
      rename_i hj0;subst hj0;exact⟨by simp,(hf.hJ.lt k id hj).2⟩) (by
     obtain⟨s1,m5,xh,wK,z1,gu,b1,b2,b3⟩:=hv;rw[hk]at b1;cases b1;have wM:z.den P (IV.tree s es::xs++I)=aa (.tree s gu):=b2;rw[XG]at wM;cases wM;refine⟨s,af,af,af,(),Qx,rfl,rfl,?_⟩;rcases b3 with⟨c1,c2,c3⟩|⟨id,cs,aD,mn,cap,c1,c2,c3,c4,c5,c6⟩
     .exact .inl ⟨by simp[c1],c2,c3⟩
     .exact .inr ⟨id,cs,aD,mn,cap,by simp[c1],c2,c3,c4,c5,c6⟩)
    exact⟨max b au.n,λN hN=>⟨by omega,by omega,v,hZ,hb N aj⟩⟩
   cases ex with
   |exit i=>exact bp.elim
   |cd t pv=>exact bp.elim
   |normal=>
    obtain rfl:=pV;obtain⟨b,hb⟩:=main bp;exact⟨b,λN hN=>⟨(hb N hN).1,.inl rfl,(hb N hN).2⟩⟩
   |ret=>
    obtain rfl:=pV;obtain⟨b,hb⟩:=main bp;exact⟨b,λN hN=>⟨(hb N hN).1,.inr rfl,(hb N hN).2⟩⟩)
 exact⟨b,λN hN=>eY.body (RW:=KW N) cL hb hlen (zL N hN)⟩
end
section
def Ow:List Nat->Nat
 |[]=>0
 |n::ns=>n+Ow ns
def m8:Nat->List Nat->List (LO SE)
 |_,[]=>[]
 |j,n::ns=>.var ((axt n).map λq=>.v (.var (j+q)))::m8 (j+n) ns
def lh:Nat->List Nat->List (PV SE)
 |_,[]=>[]
 |k,n::ns=>.one (.pt k 0 n)::lh (k+1) ns
def Eb(V:SS):Nat->List Nat->Option (List SE)
 |_,[]=>aa []
 |k,n::ns=>match V.l[k]?,ct 0 k V.g with
  |some (.var ds),aa (.one (.pt k' 0 n'))=>if awl k' k&&awl n' n&&awl ds.length n then(match IG ds,Eb V (k+1) ns with
    |some es,aa r=>aa (eR es::r)
    |_,_=>ah)else ah
  |_,_=>ah
section run
variable(P:Program)(cfg:fe)
def xk(n:Nat)(ns:List Nat)(f:FuncId):aq:=
 match P.funcs[f]? with
 |some fn=>match fn.body with
  |some c=>
   if axj fn.params.size fn.ntmps&&axj ns.length fn.params.size then
    yy P (Ow ns) (fn.params.toList.drop ns.length)<|exec P cfg n [] af 1 f c
     ⟨setArgs 1 0 (lh 0 ns++gY P (Ow ns) (fn.params.toList.drop ns.length))++setArgs 0 0 (lh 0 ns),m8 0 ns,Ow ns+(fn.params.size- ns.length),0,fn.ntmps⟩ λex V=>match ex with
     |.exit _=>.fail 151
     |.cd _ _=>.fail 146
     |_=>match s9 P 1 V fn.results.toList with
      |some da=>match vG V (Hn da),Eb V 0 ns with
       |some (_,z,_),aa os=>.ret (.tp (.ac (.rw z) (eR os)))
       |_,_=>.fail 152
      |none=>.fail 153
   else .fail 154
  |none=>.fail 155
 |none=>.fail 156
end run
variable{P:Program}{N:Nat}{G au:St}{R R':Rs}{X aU:Ph}{E:Nat->Env}{O:List IV}{cfg:fe}
variable{C:Cr}{Q:IV->Prop}{K:List (List IV->Prop)}{V:SS}{L:List (LO SE)}
theorem Qy:∀{ns:List Nat} {k:Nat} {os:List SE},Eb V k ns=aa os->os.length=ns.length/\∀(i n:Nat),ns[i]?=aa n->
 ∃es:List SE,V.l[k+i]?=aa (.var (es.map .v))/\ct 0 (k+i) V.g=aa (.one (.pt (k+i) 0 n))/\es.length=n/\os[i]?=aa (eR es)
 |[],k,os,h=>by
  simp only[Eb,awf]at h;subst h;exact⟨rfl,λi n hi=>by simp at hi⟩
 |m::ns,k,os,h=>by
  simp only[Eb]at h;split at h<;>try (cases h;done)
  rename_i ds k' n' hk hg;split at h<;>try (cases h;done)
  rename_i hc;simp only[awb]at hc;have e1:=awk hc.1.1;have e2:=awk hc.1.2;have e3:=awk hc.2;subst e1 e2;split at h<;>try (cases h;done)
  rename_i es r jR hr;simp only[awf]at h;subst h;have zn:=KC jR;subst zn;obtain⟨h1,h2⟩:=Qy hr;refine⟨by simp[h1],λi n hi=>?_⟩;cases i with
  |zero=>
   simp at hi;subst hi;exact⟨es,hk,hg,by simpa using e3,rfl⟩
  |succ i=>
   obtain⟨aT,a1,a2,a3,a4⟩:=h2 i n (by simpa using hi);have:k'+1+i=k'+(i+1):=aj;rw[this]at a1 a2;exact⟨aT,a1,a2,a3,by simpa using a4⟩
theorem MD:∀{ns:List Nat} {k i:Nat} {pv:PV SE},(lh k ns)[i]?=aa pv->∃n,ns[i]?=aa n/\pv=.one (.pt (k+i) 0 n)
 |[],k,i,pv,h=>by simp[lh]at h
 |n::ns,k,0,pv,h=>by
  simp[lh]at h;exact⟨n,rfl,by simp[h]⟩
 |n::ns,k,i+1,pv,h=>by
  simp only[lh,axI]at h;obtain⟨m,h1,h2⟩:=MD h;exact⟨m,by simpa using h1,by rw[h2];congr 2;omega⟩
theorem Fs:∀{ns:List Nat} {k:Nat},(lh k ns).length=ns.length
 |[],_=>rfl
 |_::ns,k=>by simp[lh,Fs (ns:=ns)]
theorem Ur:∀ins:List (List IV),Ow (ins.map awN)=ins.flatten.length
 |[]=>rfl
 |c::ins=>by simp[Ow,Ur ins]
theorem ME:∀{ins:List (List IV)} {pre post:List IV} {i:Nat} {o:LO SE},(m8 pre.length (ins.map awN))[i]?=aa o->
 ∃(cs:List IV) (ds:List (Cl SE)),ins[i]?=aa cs/\o=.var ds/\As (ax P (pre++ins.flatten++post)) ds cs
 |[],pre,post,i,o,h=>by simp[m8]at h
 |c::ins,pre,post,0,o,h=>by
  simp only[awZ,m8,axB,awf]at h;refine⟨c,_,rfl,h.symm,.mk ay λq d u hd hu=>?_⟩;have hq:=(awa.1 hu).1;rw[awu,ax9 hq]at hd;simp only[awQ,awf]at hd;subst hd;refine⟨_,rfl,?_⟩;show(SE.var _).den P _=_;simp only[SE.den];rw[awv,awD aj,List.flatten_cons,awv,awp aj];rw[show pre.length+q- pre.length=q by omega];exact hu
 |c::ins,pre,post,i+1,o,h=>by
  simp only[awZ,m8,axI]at h;have hl:pre.length+c.length=(pre++c).length:=by simp
  rw[hl]at h;obtain⟨cs,ds,h1,h2,h3⟩:=ME (pre:=pre++c) (post:=post) h;refine⟨cs,ds,by simpa using h1,h2,?_⟩;have:pre++c++ins.flatten++post=pre++(c::ins).flatten++post:=by simp
  rw[<-this];exact h3
theorem Us{α:Type}{d t:Nat}{pv:PV α}:∀{a b:List (Nat×Nat×PV α)},ct d t (a++b)=aa pv->ct d t a=aa pv\/ct d t b=aa pv
 |[],b,h=>.inr h
 |(d',t',p)::a,b,h=>by
  simp only[axk,ct]at h⊢;split at h
  .rename_i hc;rw[if_pos hc];exact .inl h
  .rename_i hc;rw[if_neg hc];exact Us h
theorem MF{xs args pre:List IV}{f:aq}(hp:All2 jJ args xs):∀{ts:List TypeId} {j:Nat},(yy P (pre.length+j) ts f).sat P C Q K (pre++xs)->j+ts.length=xs.length->f.sat P C Q K (pre++xs)/\All2 (VR (ax P (pre++xs)) R X L G) (args.drop j) (gY P (pre.length+j) ts)
 |[],j,hs,hl=>by
  simp at hl;rw[awY (by have:=hp.len;omega)];exact⟨hs,trivial⟩
 |t::ts,j,hs,hl=>by
  simp at hl;have hj:j<xs.length:=aj;have nW:j<args.length:=by have:=hp.len;omega
  have hd:(SE.var (pre.length+j)).den P (pre++xs)=aa xs[j]:=by simp[SE.den,hj]
  obtain⟨h1,h2⟩:=Fm (R:=R) (X:=X) (L:=L) (G:=G) hd (hp.get (av_ nW) (av_ hj)) hs;obtain⟨h4,h5⟩:=MF (j:=j+1) hp h1 aj;refine⟨h4,?_⟩;rw[awH nW];exact⟨h2,h5⟩
variable{Cx:Cs}
theorem zM:∀{ns:List Nat} {j:Nat},(m8 j ns).length=ns.length
 |[],_=>rfl
 |_::ns,j=>by simp[m8,zM (ns:=ns)]
def Wx{x z:IV}{fr:Bool}(h:aN z=ab)(hc:bx fr R G x z):jJ x z:=by
 cases z<;>simp only[aN]at h<;>try (cases h;done)
 rw[cA hc];exact .raw _
def Ut{ins:List (List IV)}{ps:List IV}{ev:SE->Option IV}(hP:HB X ins ps)(hL:∀(i:Nat) (cs:List IV),ins[i]?=aa cs->∃ds:List (Cl SE),L[i]?=aa (LO.var ds)):
 All2 (VR ev R X L G) ps (lh 0 (ins.map awN)):=by
 refine .mk (by rw[Fs,aw0,hP.1]) λi p pv hp sN=>?_;obtain⟨n,h1,rfl⟩:=MD sN;rw[awu]at h1;obtain⟨cs,bD,rfl⟩:=awj.1 h1;obtain⟨id,h2,rfl⟩:=hP.2 i cs p bD hp;obtain⟨ds,zn⟩:=hL i cs bD;rw[axo];exact⟨id,ds,h2,zn,rfl⟩
def Fh.xI(fF:P.follows .mixedOrders=ab)(hC:mj P C){n:Nat}{f:FuncId}{di:aq}{ins outs:List (List IV)}{xs:List IV}{z:IV}(he:xk P cfg n (ins.map awN) f=di)
 (hl:(P.funcs[f]?).map (·.params.size)=aa (ins.length+xs.length))(hs:di.sat P C (·=.aF (z::outs.map .agg)) [] (ins.flatten++xs)):Fh P f ins xs outs z:=by
 subst he;unfold xk at hs;split at hs<;>try exact hs.elim
 rename_i fn cL;split at hs<;>try exact hs.elim
 rename_i c hb;split at hs<;>try exact hs.elim
 rename_i hle;simp only[awb]at hle;have NT:fn.params.size<=fn.ntmps:=by simpa using hle.1
 rw[cL]at hl;simp only[awQ,awf]at hl;have Jp:(ins.map awN).length=ins.length:=by simp
 have ZZ:=Ur ins;intro R X E G ps args mh hP bJ KW T0;have ey:args.length=xs.length:=bJ.len;have HJ:(fn.params.toList.drop (ins.map awN).length).length=xs.length:=by simp;omega
 have dZ:ps.length=ins.length:=hP.1;rw[ZZ]at hs
 have hLV:∀(i:Nat) (cs:List IV),ins[i]?=aa cs->∃ds:List (Cl SE),(m8 0 (ins.map awN))[i]?=aa (LO.var ds)/\As (ax P (ins.flatten++xs)) ds cs:=λi cs hi=>by
  have ak:=(awa.1 hi).1;have gj:i<(m8 0 (ins.map awN)).length:=by rw[zM];simpa using ak
  have hg:=av_ gj;obtain⟨bG,ds,h1,h2,h3⟩:=ME (P:=P) (pre:=[]) (post:=xs) hg;rw[hi]at h1;cases h1;exact⟨ds,by rw[hg,h2],by simpa using h3⟩
 obtain⟨fq,bS⟩:=MF (j:=0) (pre:=ins.flatten) (R:=R) (X:=X) (L:=m8 0 (ins.map awN)) (G:=G) bJ (by rw[aze];exact hs) (by rw[axo];exact HJ);rw[azd,aze]at bS
 have MC:All2 (VR (ax P (ins.flatten++xs)) R X (m8 0 (ins.map awN)) G) (ps++args) (lh 0 (ins.map awN)++gY P ins.flatten.length (fn.params.toList.drop (ins.map awN).length)):=
  All2.app (Ut hP λi cs hi=>by obtain⟨ds,h1,_⟩:=hLV i cs hi;exact⟨ds,h1⟩) bS
 have hlen:(ps++args).length<=fn.ntmps:=by simp;omega
 let E1:Nat->Env:=λj=>if j=0 then dX ps ps.length else dX (ps++args) fn.ntmps
 have hJ:J [] (ax P (ins.flatten++xs)) R X (setArgs 1 0 (lh 0 (ins.map awN)++gY P ins.flatten.length (fn.params.toList.drop (ins.map awN).length))++setArgs 0 0 (lh 0 (ins.map awN))) (m8 0 (ins.map awN)) E1 G:=by
  refine⟨λd t pv hg=>?_,λj ob hj=>?_,mh.inj,λj id hj=>?_,mh.qz,mh.fits,mh.wf,mh.top⟩
  .rcases Us hg with hg|hg
   .obtain⟨rfl,_,h3⟩:=ml (α:=IV) hg;have ht:t<(ps++args).length:=by rw[MC.len];have:=(awa.1 h3).1;simpa using this
    show VR _ _ _ _ _ ((dX (ps++args) fn.ntmps).at t) pv;rw[(fi hlen).2 ht,av_ ht];exact MC.get (av_ ht) (by simpa using h3)
   .obtain⟨rfl,_,h3⟩:=ml (α:=IV) hg;have JF:(lh 0 (ins.map awN))[t]?=aa pv:=by simpa using h3
    have ht:t<ps.length:=by have:=(awa.1 JF).1;rw[Fs]at this;simp at this;omega
    show VR _ _ _ _ _ ((dX ps ps.length).at t) pv;rw[(fi (awe _)).2 ht,av_ ht];exact(Ut hP λi cs hi=>by obtain⟨ds,h1,_⟩:=hLV i cs hi;exact⟨ds,h1⟩).get (av_ ht) JF
  .have ak:j<ins.length:=by have:=(awa.1 hj).1;rw[zM]at this;simpa using this
   have bD:=av_ ak;obtain⟨ds,h1,h2⟩:=hLV j _ bD;rw[hj]at h1;cases h1;have eK:(ZS ins)[j]?=aa (.var (ins[j].map .v)):=by rw[awu,bD];rfl
   obtain⟨id,cS,o1,o2,o3,o4⟩:=mh.obj j _ eK;refine⟨id,cS,o1,o2,o3,.mk (by rw[o4.len,aw0,h2.len]) λq x d hx hd=>?_⟩;have hq:q<ins[j].length:=by rw[<-h2.len];exact(awa.1 hd).1
   obtain⟨e,rfl,he⟩:=h2.get hd (av_ hq);have hcq:(ins[j].map Cl.v)[q]?=aa (.v ins[j][q]):=by rw[awu,av_ hq];rfl
   obtain⟨y,y1,y2,y3⟩:=o4.get hx hcq;cases y1;exact⟨_,he,y2,y3⟩
  .have:=mh.lt j id hj;exact⟨by rw[zM];simpa using this.1,this.2⟩
 obtain⟨b,zL⟩:=IT fF hC n [] af 1 f c ⟨setArgs 1 0 (lh 0 (ins.map awN)++gY P ins.flatten.length (fn.params.toList.drop (ins.map awN).length))++setArgs 0 0 (lh 0 (ins.map awN)),m8 0 (ins.map awN),ins.flatten.length+(fn.params.size-(ins.map awN).length),0,fn.ntmps⟩ _ (ins.flatten++xs) [] R X E1 G
  (λN ex e1 av=>(ex=.normal\/ex=.ret)/\av.n<=N/\∃v,cV P fn e1 av=aa v/\KW N v av) ah [] (λ_=>rfl) fq hJ (by simp;omega) rfl (fi (t:=0) hlen).1 (by
   intro ex V' I K' R' aU E' au x0 hf pV bp
   have main:∀kC,s9 P 1 V' fn.results.toList=aa kC->(match vG V' (Hn kC),Eb V' 0 (ins.map awN)with
    |some (_,z,_),aa os=>aq.ret (.tp (.ac (.rw z) (eR os)))
    |_,_=>.fail 152).sat P C (·=IV.aF (z::outs.map IV.agg)) K' (ins.flatten++xs++I)->∃b,∀N,b<=N->au.n<=N/\au.n<=N/\∃v,cV P fn (E' 1) au=aa v/\KW N v au:=by
    intro kC hr gJ;obtain⟨vs,h1,h2⟩:=vb hf.hJ hr;have hv:=Oj h2;split at gJ<;>try exact gJ.elim
    rename_i fr e _ os eQ yb;obtain⟨R2,y,h3,h4⟩:=Uq hf.hJ eQ hv;obtain⟨w,h5,rfl⟩:=gJ;simp only[SE.den,h3,awc]at h5;obtain⟨cs,h6,h7⟩:=awx.1 h5;obtain⟨y',h8,h6⟩:=awx.1 h6;obtain⟨os',h9,h6⟩:=awx.1 h6;obtain⟨ys,rfl,va⟩:=Ot h9;split at h8<;>try (cases h8;done)
    rename_i jM;cases h8;cases h6;simp only[awf,IV.aF.injEq,axC]at h7;obtain⟨rfl,rfl⟩:=h7;obtain⟨Qh,ho2⟩:=Qy yb;have yf:outs.length=ins.length:=by have:=va.len;rw[Qh]at this;simp at this;omega
    have agJ:∀(i:Nat) (cs:List IV),outs[i]?=aa cs->∃es:List SE,V'.l[i]?=aa (.var (es.map .v))/\All2 (λ(z:SE) y=>z.den P (ins.flatten++xs++I)=aa y) es cs/\∃id,aU i=aa id/\ps[i]?=aa (.ptr id 0 0 cs.length):=λi cs hi=>by
     have ak:=(awa.1 hi).1;have gj:i<ins.length:=aj;obtain⟨es,a1,a2,a3,a4⟩:=ho2 i _ (by rw[awu,av_ gj];rfl);rw[axo]at a1 a2;have hiy:(outs.map IV.agg)[i]?=aa (.agg cs):=by rw[awu,hi];rfl
     have hd:=va.get a4 hiy;obtain⟨us,yg,ak0⟩:=Ot hd;cases yg;have wC:=hf.hJ.slot 0 i _ a2;obtain⟨id,ds,s1,s2,s3⟩:=wC;rw[hf.hE 0 aj]at s3;have Gy:i<ps.length:=aj
     have:(E1 0).at i=ps[i]:=by
      show(dX ps ps.length).at i=_;rw[(fi (awe _)).2 Gy,av_ Gy];rfl
     rw[this]at s3;refine⟨es,a1,ak0,id,s1,?_⟩;rw[av_ Gy,s3,<-ak0.len,a3]
    obtain⟨b,hb⟩:=T0 (λ_=>ah) (λj=>if j<outs.length then aU j else ah) au (HF vs) (by
     refine⟨λd t pv hg=>(by cases hg),λj ob hj=>?_,λj j' id h1 h2=>?_,λj id hj=>?_,λid m hm=>(by cases hm),λid m cs aD mn hm=>(by cases hm),hf.hJ.wf,hf.hJ.top⟩
     .rw[awu]at hj;obtain⟨cs,bD,rfl⟩:=awj.1 hj;have ak:=(awa.1 bD).1;obtain⟨es,a1,a2,id,a3,_⟩:=agJ j cs bD;obtain⟨bt,cS,o1,o2,o3,o4⟩:=hf.hJ.obj j _ a1;refine⟨bt,cS,by simp[ak,o1],rfl,o3,.mk (by rw[o4.len,aw0,aw0,a2.len]) λq x c hx hc=>?_⟩;rw[awu]at hc;obtain⟨u,hu,rfl⟩:=awj.1 hc;have hq:q<es.length:=by rw[a2.len];exact(awa.1 hu).1
      have hcq:(es.map Cl.v)[q]?=aa (.v es[q]):=by rw[awu,av_ hq];rfl
      obtain⟨y,y1,y2,y3⟩:=o4.get hx hcq;have Qj:es[q].den P (ins.flatten++xs++I)=aa y:=y1;rw[a2.get (av_ hq) hu]at Qj;cases Qj;exact⟨u,rfl,y2,y3⟩
     .split at h1<;>try (cases h1;done)
      split at h2<;>try (cases h2;done)
      exact hf.hJ.inj j j' id h1 h2
     .split at hj<;>try (cases hj;done)
      rename_i ak
      exact⟨by simpa using ak,(hf.hJ.lt j id hj).2⟩) ⟨by omega,λi cs p hi hp=>by
       have ak:=(awa.1 hi).1;obtain⟨_,_,_,id,a3,a4⟩:=agJ i cs hi;rw[hp]at a4;cases a4;exact⟨id,by simp[ak,a3],rfl⟩⟩ (Wx jM h4)
    exact⟨max b au.n,λN hN=>⟨by omega,by omega,HF vs,vc h1,hb N aj⟩⟩
   cases ex with
   |exit i=>exact bp.elim
   |cd t pv=>exact bp.elim
   |normal=>
    obtain rfl:=pV;simp only at bp;split at bp
    .rename_i kC hr;obtain⟨b,hb⟩:=main kC hr bp;exact⟨b,λN hN=>⟨(hb N hN).1,.inl rfl,(hb N hN).2⟩⟩
    .exact bp.elim
   |ret=>
    obtain rfl:=pV;simp only at bp;split at bp
    .rename_i kC hr;obtain⟨b,hb⟩:=main kC hr bp;exact⟨b,λN hN=>⟨(hb N hN).1,.inr rfl,(hb N hN).2⟩⟩
    .exact bp.elim)
 exact⟨b,λN hN=>(eY.body (RW:=KW N) cL hb hlen (zL N hN))⟩
end
abbrev aq.nt(e:SE)(a b:aq):aq:=.aE e (.test e a b)
abbrev aq.nr(e:SE):aq:=.aE e (.ret e)
abbrev aq.nx(n:Nat)(e r:SE):aq:=.aE e (.next n (.ac e r))
abbrev vT(a b:Nat):SE:=.aO (.var a) b
abbrev o0(a b c:SE):SE:=.ac a (.ac b c)
abbrev pY(a:BinOp)(b:TypeId)(c d:SE):SE:=.ok (.bin a b c d)
abbrev jA(a:Nat):SE:=.ok (.var a)
abbrev Qz(a:BinOp)(b:TypeId)(c:SE)(d:Int):SE:=pY a b c (.i d)
abbrev mP(a b:Nat):SE:=.len (vT a b)
abbrev MG(a b:SE)(c d:aq):aq:=.aE a (.nt b c d)
abbrev e_:SE:=.b af
abbrev fX(a:SE):SE:=.ac a .an
abbrev yG(a:SE)(b c:Nat)(d:SE):SE:=o0 a (vT b c) d
abbrev gn(a b:SE)(c:aq):aq:=.aE a (.aE b c)
abbrev Z0(a:BinOp)(b:TypeId)(c:Nat)(d:Int):SE:=Qz a b (.var c) d
abbrev bF:aq:=.ret e_
abbrev Ft(a b c d:Nat)(e:SE):SE:=yG (vT a b) c d e
abbrev uF(a b:Nat):SE:=.lV a (.var b)
abbrev Uu(a:Nat)(b:BinOp)(c:TypeId)(d:Nat)(e:Int)(f:SE):aq:=.nx a (Z0 b c d e) f
abbrev qo(a:Nat):SE:=.len (jA a)
abbrev lE(a:Nat)(b c:SE)(d:aq):aq:=.bind (.idx a b c) d
abbrev uG(a:FuncId)(b:SE)(c:aq):aq:=.call a af b c
abbrev asO(a:Nat)(b:TypeId)(c:Nat)(d:Int)(e:SE):aq:=Uu a .add b c d e
abbrev ak1(a:BinOp)(b:TypeId)(c d:Nat)(e:Int):SE:=Qz a b (vT c d) e
abbrev HK(a b:Nat):SE:=.proj (.var a) b
abbrev KI(a:BinOp)(b:TypeId)(c d:SE)(e f:aq):aq:=.nt (pY a b c d) e f
abbrev ij(a b:SE):SE:=o0 a b .an
abbrev y6(a b c d e f g h:Nat)(i:SE):SE:=Ft a b c d (Ft e f g h i)
abbrev ph(a:Nat)(b:SE)(c:Nat)(d:aq):aq:=lE a b (.var c) d
abbrev bu:SE:=.i 0
abbrev fR(a b:Nat)(c:aq):aq:=.aE (uF a b) c
abbrev asP(a:UnOp)(b:SE):SE:=.ok (.un a b)
abbrev Dm(a:SE):SE:=asP .not a
abbrev mv(a:FuncId)(b:SE)(c:aq):aq:=uG a (fX b) c
abbrev bA:SE:=jA 0
abbrev nN(a:Nat):SE:=fX (.var a)
abbrev asQ(a:BinOp)(b:TypeId)(c d:Nat)(e:Int)(f g:aq):aq:=.nt (ak1 a b c d e) f g
abbrev asR(a b:Nat)(c:Int)(d:SE):aq:=asO a 3 b c d
abbrev uH(a b:Nat)(c:SE):aq:=asR a b 1 c
abbrev ik(a b:SE)(c d:aq):aq:=MG a (Dm b) c d
abbrev A9(a:SE)(b:BinOp)(c:TypeId)(d e:SE)(f g:aq):aq:=MG a (pY b c d e) f g
abbrev asS(a:BinOp)(b:TypeId)(c d:Nat)(e:Int):SE:=Qz a b (mP c d) e
abbrev asT(a:SE)(b:BinOp)(c:TypeId)(d e:SE)(f g:aq):aq:=.loop a (KI b c d e f g)
abbrev uI(a:SE)(b:Nat):SE:=ij a (.var b)
abbrev Dn(a:Nat):SE:=.tr a .an
abbrev Ox(a:SE)(b:BinOp)(c:TypeId)(d:Nat)(e:SE)(f g:aq):aq:=asT a b c (.var d) e f g
abbrev dV(a:Nat)(b:aq):aq:=.aE (jA a) b
abbrev xl(a b:Nat)(c:aq):aq:=.aE (mP a b) c
abbrev iH(a b c:SE):SE:=o0 a b (fX c)
abbrev asU(a:SE)(b:BinOp)(c:TypeId)(d:Nat)(e:SE)(f:Nat)(g:SE)(h:Nat)(i j:aq):aq:=Ox a b c d e (ph f g h i) j
abbrev Z1(a:SE):aq:=.ret (.tp a)
abbrev vU(a b c:Nat):aq:=uH a b (nN c)
abbrev KJ(a b:Nat)(c d:SE)(e:aq):aq:=.bind (.cat a b c d) e
abbrev Oy(a b c d:Nat):SE:=Ft a b c d .an
abbrev A_(a b:SE):aq:=Z1 (ij a b)
abbrev cb:SE:=jA 1
abbrev gP:SE:=.b ab
abbrev il(a b:Nat)(c:FuncId)(d:SE)(e:aq):aq:=fR a b (mv c d e)
abbrev Uv(a:Nat)(b c:SE):SE:=o0 (.var a) b c
abbrev mU(a b:Nat):aq:=uH a b .an
abbrev fc(a:Nat):SE:=vT a 1
abbrev s_:SE:=fX bu
abbrev asV(a:SE)(b:TypeId)(c:Nat)(d:SE)(e:Nat)(f:SE)(g:Nat)(h i:aq):aq:=asU a .lss b c d e f g h i
abbrev Ba(a b c:Nat)(d:SE)(e:aq):aq:=KJ a b (.var c) d e
abbrev ta(a b:Nat):SE:=uI (.var a) b
abbrev KK(a:BinOp)(b c:Nat)(d:Int):SE:=asS a 3 b c d
abbrev bZ:SE:=jA 2
abbrev asW(a:BinOp)(b:TypeId)(c d:SE)(e f:aq):aq:=.test (.bin a b c d) e f
abbrev nO(a b:Nat)(c:SE):SE:=Uv a (.var b) c
abbrev oN(a:BinOp)(b c:Nat)(d:Int)(e f:aq):aq:=asQ a 3 b c d e f
abbrev KL(a:SE)(b:BinOp)(c:TypeId)(d:Nat)(e:SE)(f g:aq):aq:=A9 a b c (.var d) e f g
abbrev asX(a:SE)(b:BinOp)(c d:Nat)(e:Int)(f g:aq):aq:=MG a (KK b c d e) f g
abbrev Uw(a b:Nat):SE:=.ok (HK a b)
abbrev oO(a b:Nat)(c:BinOp)(d e:Nat)(f:Int)(g h:aq):aq:=asX (mP a b) c d e f g h
abbrev uJ(a b:SE)(c:aq):aq:=ik a b bF c
abbrev jo(a b:Nat)(c:SE)(d:aq):aq:=gn (uF a b) c d
abbrev xm(a b c:Nat):SE:=.aO (HK a b) c
abbrev Oz(a b:SE)(c:BinOp)(d:TypeId)(e:Nat)(f:SE)(g h:aq):aq:=.loop a (KL b c d e f g h)
abbrev kV:aq:=.ret gP
abbrev KM(a:TypeId)(b c:SE)(d e:aq):aq:=KI .eql a b c d e
abbrev dE:SE:=qo 0
abbrev rF:SE:=.s []
abbrev HL(a b c d e f g h i j k l:Nat):SE:=y6 a b c d e f g h (Oy i j k l)
abbrev Fu(a b:SE)(c:Nat):SE:=iH a b (Dn c)
abbrev jN(a:FuncId)(b:SE)(c:aq):aq:=.call a ab b c
abbrev fS:SE:=fc 0
abbrev vV(a:SE)(b:Nat):SE:=ij a (Dn b)
abbrev rG(a b:Nat)(c:Int)(d e:aq):aq:=oN .eql a b c d e
abbrev Dp(a b c d:Nat)(e:SE)(f:aq):aq:=Ba a b c (.tr d e) f
abbrev fw:SE:=fc 11
abbrev ae7(a:Nat):SE:=Dm (.var a)
abbrev Z2(a:BinOp)(b c:Nat)(d:Int):SE:=ak1 a 3 b c d
abbrev tb(a:Nat):SE:=.len (.var a)
abbrev dG:SE:=jA 3
abbrev Dq(a:TypeId)(b c:SE)(d e:aq):aq:=asW .lss a b c d e
abbrev y7(a:SE)(b:BinOp)(c:TypeId)(d:SE)(e:Int)(f g:aq):aq:=MG a (Qz b c d e) f g
abbrev tc(a:SE):aq:=.ret (.rw a)
abbrev dR:SE:=jA 6
abbrev pj:SE:=.var 3
abbrev lF(a:Nat):SE:=mP a 1
abbrev tf(a:TypeId)(b c:SE)(d:aq)(e:TypeId)(f g:SE)(h i:aq):aq:=Dq a b c d (Dq e f g h i)
abbrev qp(a:Int):aq:=.ret (.i a)
abbrev asY(a b:SE)(c:BinOp)(d:TypeId)(e:Nat)(f:SE)(g:Nat)(h:SE)(i:Nat)(j k:aq):aq:=Oz a b c d e f (ph g h i j) k
abbrev c8:SE:=jA 4
abbrev c9:SE:=jA 5
abbrev MH(a b:Nat)(c:Int):SE:=KK .eql a b c
abbrev jY(a:Nat):SE:=vT a 2
abbrev mG(a:SE)(b:Nat)(c:SE)(d:Nat)(e:SE)(f:Nat)(g h:aq):aq:=asV a 3 b c d e f g h
abbrev Ce(a:Nat):aq:=mU 0 a
abbrev jr(a:Int):SE:=.k .u8 a
abbrev tQ(a:Nat)(b c:aq):aq:=.nt (ae7 a) b c
abbrev sa(a:BinOp)(b:Nat)(c:Int):SE:=Z2 a 0 b c
abbrev jZ(a:Nat)(b:aq):aq:=xl 0 a b
abbrev m9(a b c d:Nat)(e:SE)(f:aq):aq:=Dp a b c d (fX e) f
abbrev zN(a:BinOp)(b:Nat)(c:Int):SE:=Z0 a 3 b c
abbrev fa:SE:=.var 5
abbrev mH:SE:=.var 2
abbrev aoD(a:BinOp)(b:Nat)(c:Int)(d:SE)(e:aq):aq:=uJ (sa a b c) d e
abbrev vW(a:BinOp)(b:Nat)(c:Int)(d:BinOp)(e:Nat)(f:Int)(g:aq):aq:=aoD a b c (sa d e f) g
abbrev ja(a:SE)(b:Nat)(c:aq):aq:=gn a (qo b) c
abbrev Fv(a:Int):aq:=.ret (jr a)
abbrev Fw(a b:SE):aq:=A_ (.rw a) b
abbrev tR(a b c d:Nat)(e:SE):SE:=Ft a b c d (fX e)
abbrev fP:SE:=lF 0
abbrev m_:SE:=qo 6
abbrev qC(a b:Nat)(c:Int)(d:aq)(e f:Nat)(g:Int)(h i:aq):aq:=rG a b c d (rG e f g h i)
abbrev aoE(a b:SE)(c:TypeId)(d:Nat)(e:SE)(f:Nat)(g:SE)(h:Nat)(i j:aq):aq:=asY a b .lss c d e f g h i j
abbrev js(a:SE)(b c d:Nat)(e:SE)(f:Nat)(g h:aq):aq:=mG a b (qo c) d e f g h
abbrev qD:SE:=jY 0
abbrev agK(a:SE)(b:Nat):SE:=Fu rF a b
abbrev mI(a:Nat):SE:=vT a 0
abbrev pn(a:SE)(b:aq):aq:=.aE (.rw a) b
abbrev agL(a b:Nat)(c:BinOp)(d e:Nat)(f:Int)(g:aq):aq:=oO a b c d e f bF g
abbrev j2(a:FuncId)(b c:SE)(d:aq):aq:=uG a (ij b c) d
abbrev Cf(a b c d:Nat):aq:=uH a b (ta c d)
abbrev Cg(a:Nat)(b:Int):SE:=zN .sub a b
abbrev agM(a b c:Nat):SE:=Oy a b c 1
abbrev mJ(a b:Nat):SE:=agM a 0 b
abbrev tS(a:SE)(b:aq):aq:=gn bA a b
abbrev kO(a:FuncId)(b:SE)(c:Nat)(d:aq):aq:=mv a b (dV c d)
abbrev jt(a b c d e:SE):SE:=o0 a b (o0 c d e)
abbrev aoF(a:BinOp)(b c:Nat)(d:Int)(e:aq):aq:=oN a b c d e bF
abbrev RJ(a b:SE):aq:=Fw a (fX b)
abbrev MI(a:TypeId)(b c d:SE)(e:aq):aq:=.bind (.ins a b c d) e
abbrev IU(a:Int):SE:=fX (.i a)
abbrev Fx(a b:Nat):SE:=MH a b 0
abbrev Z3(a:SE)(b:Nat)(c:Int):aq:=RJ a (Cg b c)
abbrev zO(a:Nat)(b c:aq):aq:=.test (.var a) b c
abbrev qE:SE:=.i (-1)
abbrev aoG(a b c d e:Nat):SE:=tR a b c d (jY e)
abbrev aoH(a b c d e f g h:Nat):SE:=y6 a b c d e f g h .an
abbrev sb(a:SE)(b:TypeId)(c d:SE)(e f:aq):aq:=A9 a .eql b c d e f
abbrev ow:aq:=.fail 85
abbrev RL(a:SE):SE:=.ok (.rw a)
abbrev j8:SE:=qo 1
abbrev xJ:SE:=.tp .an
abbrev Ch(a:Nat):SE:=vV bu a
abbrev aoI(a:Nat):SE:=mJ 0 a
abbrev gS:SE:=aoI 0
abbrev Fy(a b:Nat)(c:SE)(d e:aq):aq:=MG (uF a b) c d e
abbrev na(a:Nat)(b:aq):aq:=tQ a bF b
abbrev aoJ(a:SE)(b:Nat)(c:SE):aq:=A_ (agK a b) c
abbrev zP(a b c d:Nat)(e:Int)(f:aq):aq:=agL a b .gtr c d e f
abbrev aoK(a:Nat)(b:Int):SE:=zN .geq a b
abbrev oz:SE:=mI 0
abbrev MJ(a:SE):SE:=ij bu a
abbrev qF(a b:SE)(c:Nat)(d:SE)(e:Nat)(f:SE)(g:Nat)(h i:aq):aq:=aoE a b 3 c d e f g h i
abbrev Z4(a:aq):aq:=jZ 6 a
abbrev kP(a:SE)(b:Nat)(c:SE)(d:Nat)(e:SE)(f:Nat)(g h:aq):aq:=qF s_ a b c d e f g h
abbrev aoL(a b c d e f g:Nat):SE:=aoH a 0 b c d e f g
abbrev aoM(a b c d e f:Nat):SE:=aoL a b 1 c d e f
abbrev aoN(a b c d e:Nat):SE:=aoM a b c 2 d e
abbrev nb(a b c d:Nat):SE:=aoN a b c d 3
abbrev qG(a:TypeId)(b:Nat)(c d:SE)(e:aq):aq:=MI a (.var b) c d e
abbrev vX:SE:=.uy bA
abbrev sc(a:BinOp)(b:Nat)(c:Int)(d:aq):aq:=aoF a 0 b c d
abbrev vY(a:Int):aq:=tc (.i a)
abbrev Z5(a:SE)(b:aq):aq:=.bind (RL a) b
abbrev IW(a b:Nat):SE:=agK (Dn a) b
abbrev MK(a:SE):SE:=.LW bA a
abbrev aoO(a:Nat):SE:=MK (.var a)
abbrev nc:SE:=jA 11
abbrev ML(a b:Nat)(c:SE)(d:aq):aq:=gn (mP a b) c d
abbrev kQ:SE:=jA 7
abbrev IX(a b:SE)(c:aq):aq:=gn (.rw a) b c
abbrev aoP(a:TypeId)(b c:SE):SE:=pY .add a b c
abbrev fZ(a b:Nat):aq:=vU 0 a b
abbrev IY(a:TypeId)(b:Nat)(c d:SE):SE:=.get a (.var b) c d
abbrev Z6(a:TypeId)(b:SE)(c d:aq):aq:=KM a b rF c d
abbrev FA(a:TypeId)(b:SE)(c:aq):aq:=Z6 a b c bF
abbrev aoQ(a b c:Nat):SE:=.proj (HK a b) c
abbrev qH:aq:=Ce 4
abbrev xK:SE:=fc 2
abbrev oA:SE:=Dn 3
abbrev FB(a b:Nat):SE:=xm a 0 b
abbrev aoR(a:Nat)(b:SE):aq:=aoJ bu a b
abbrev IZ(a:BinOp)(b c:SE)(d e:aq):aq:=KI a 3 b c d e
abbrev sf(a:aq):aq:=tS cb a
abbrev zQ:SE:=MJ xJ
abbrev MM(a b:SE)(c d:aq):aq:=IZ .neq a b c d
abbrev aoS(a b:SE)(c d:aq):aq:=MM a b (Z4 c) d
abbrev MN(a:Nat):SE:=vT 0 a
abbrev mK:SE:=jA 8
abbrev po:SE:=.var 7
abbrev sg:SE:=nN 10
abbrev Z7(a:Nat)(b:Int)(c:aq):aq:=sc .geq a b c
abbrev nf(a:Nat)(b:SE)(c:Nat)(d:SE)(e:Nat)(f g:aq):aq:=mG s_ a b c d e f g
abbrev sh:aq:=Ce 1
abbrev si:aq:=Ce 3
abbrev aoT(a:Nat):aq:=aoR a e_
abbrev qI:aq:=aoT 1
abbrev RM(a:Nat):SE:=Fx 0 a
abbrev agN:SE:=RM 5
abbrev qJ(a b:Nat)(c:FuncId)(d e f g:Nat)(h:aq):aq:=il a b c (nb d e f g) h
abbrev I0(a b:SE):SE:=aoP 3 a b
abbrev j9:SE:=.i 1
abbrev ng(a:Nat):SE:=Uw a 0
abbrev MO(a:TypeId)(b:SE)(c d:aq):aq:=KM a bA b c d
abbrev qK:SE:=.var 9
abbrev pq(a:SE)(b:BinOp)(c:SE)(d:Int)(e f:aq):aq:=y7 a b 3 c d e f
abbrev qL:SE:=Dn 2
abbrev I1:SE:=mI 2
abbrev tT:SE:=MN 6
abbrev tU:SE:=aoO 1
abbrev Z8(a:TypeId)(b:SE)(c:Nat)(d:aq):aq:=FA a b (jZ c d)
abbrev zR(a:Nat)(b:SE):aq:=uH 0 a b
abbrev FC(a:Nat):SE:=mP 0 a
abbrev sj(a:BinOp)(b:SE)(c:Int):SE:=Qz a 3 b c
abbrev tV(a b:Nat)(c:SE)(d:Nat)(e:SE)(f:Nat)(g h:aq):aq:=mG (Ch a) b c d e f g h
abbrev so:SE:=.var 8
abbrev sq:SE:=jA 10
abbrev ss(a b:Nat)(c:BinOp)(d e:Nat)(f:Int)(g h:aq):aq:=Fy a b (Z2 c d e f) g h
abbrev aoU:SE:=IU 200
abbrev zS:SE:=fX aoU
abbrev zT:aq:=.ret bu
abbrev su:SE:=qo 2
abbrev vZ:SE:=FC 3
abbrev aoV(a:SE)(b c:aq):aq:=aoS a qD b c
abbrev Ci:aq:=.ret mH
abbrev aoW(a:Nat)(b:Int):aq:=Z3 e_ a b
abbrev RN(a:Nat)(b:SE)(c d:Nat)(e:SE):SE:=Uv a b (nO c d e)
abbrev tW(a:Nat):SE:=uI bu a
abbrev zU(a b:Nat):aq:=.next a (nN b)
abbrev aoX(a b:Nat)(c:BinOp)(d e:Nat)(f:Int)(g:aq):aq:=ML a b (KK c d e f) g
abbrev tX(a b:Nat)(c:TypeId)(d e:SE)(f g:aq):aq:=sb (uF a b) c d e f g
abbrev aoY(a:TypeId)(b:SE)(c:aq):aq:=MO a b kV c
abbrev RO(a:TypeId)(b:List UInt8)(c:aq):aq:=aoY a (.s b) c
abbrev tY(a:Nat)(b:Int)(c:BinOp)(d:Nat)(e:Int)(f:BinOp)(g:Nat)(h:Int)(i:aq):aq:=Z7 a b (vW c d e f g h i)
abbrev oB(a:Nat):SE:=aoK a 0
abbrev gz(a:SE)(b:BinOp)(c d:SE)(e f:aq):aq:=A9 a b 3 c d e f
abbrev tZ:SE:=.var 6
abbrev v7(a b c d:Nat):SE:=nO a b (ta c d)
abbrev aoZ(a b:aq):aq:=aoV fS a b
abbrev ao0(a:aq):aq:=aoZ a bF
abbrev t_:aq:=qp 2
abbrev Cj:SE:=.var 4
abbrev ua:SE:=lF 5
abbrev ub:SE:=qo 4
abbrev Z9(a:TypeId)(b c:SE)(d:aq):aq:=.bind (.has a b c) d
abbrev ao1(a b:Nat)(c:aq):aq:=jo a b cb c
abbrev ao2(a:BinOp)(b c:Nat)(d:Int)(e f:aq):aq:=oN a b c d (Z4 e) f
abbrev ao3(a:BinOp)(b c:Nat)(d:Int)(e f:aq):aq:=ao2 a b c d e (ao0 f)
abbrev agO(a b:SE):SE:=o0 a bu b
abbrev qM(a:Nat):SE:=Uw a 1
abbrev xL:SE:=.var 12
abbrev Z_:SE:=MN 4
abbrev xM:aq:=Ce 2
abbrev RP(a b:SE)(c:aq):aq:=IX a (.rw b) c
abbrev agP(a b:SE)(c d:aq):aq:=IZ .lss a b c d
abbrev FD(a:SE):aq:=zR 1 a
abbrev ao4(a b c d e f g h i j k:Nat):SE:=HL a 0 b c d e f g h i j k
abbrev ao5(a b c d e f g h i j:Nat):SE:=ao4 a b 1 c d e f g h i j
abbrev ao6(a b c d e f g h i:Nat):SE:=ao5 a b c 2 d e f g h i
abbrev ao7(a b c d e f g h:Nat):SE:=ao6 a b c d 3 e f g h
abbrev ao8(a b c d e f g:Nat):SE:=ao7 a b c d e 4 f g
abbrev jb(a b c d e f:Nat):SE:=ao8 a b c d e f 5
abbrev MP:SE:=Dn 1
abbrev sw:SE:=jA 9
abbrev ao9(a:SE)(b c:aq):aq:=agP a pj b c
abbrev ao_(a:SE)(b:aq):aq:=ao9 a bF b
abbrev apa(a:SE)(b:TypeId)(c d:SE)(e f:aq):aq:=ao_ a (KM b c d e f)
abbrev v8(a:BinOp)(b:SE)(c:Int)(d e:aq):aq:=.nt (sj a b c) d e
abbrev zV(a:Nat)(b:SE)(c d:Nat)(e:SE):aq:=FD (RN a b c d e)
abbrev zW(a:TypeId)(b:Nat)(c d:SE)(e:aq):aq:=Z5 (IY a b c d) e
abbrev lG(a b:Nat):aq:=vU 1 a b
abbrev I2(a:SE)(b:Int):aq:=A_ a (.i b)
abbrev apb(a:SE)(b:Int):SE:=sj .sub a b
abbrev aaa(a:Nat)(b:SE):SE:=I0 (lF a) b
abbrev MQ(a:TypeId)(b:List UInt8)(c:TypeId)(d:List UInt8)(e:aq):aq:=RO a b (RO c d e)
abbrev zX:SE:=mI 1
abbrev ni(a:Nat):SE:=mP a 2
abbrev Ck(a:SE):SE:=I0 mH a
abbrev FE:SE:=fX xK
abbrev v_(a:FuncId)(b c d:SE)(e f:aq):aq:=mv a b (ik c d e f)
abbrev xN:SE:=fc 1
abbrev xO:SE:=lF 3
abbrev uc(a:FuncId)(b:SE)(c d:Nat)(e:SE)(f:aq):aq:=jN a (yG b c d e) f
abbrev apc(a:Int):aq:=aoW 0 a
abbrev sx:aq:=apc 1
abbrev I3(a:TypeId)(b c:SE)(d e:aq):aq:=KI .leq a b c d e
abbrev xP(a:FuncId)(b c d:SE)(e:aq):aq:=uG a (iH b c d) e
abbrev ud(a b c d:Nat)(e:Int)(f:aq):aq:=aoX a b .sub c d e f
abbrev zY(a:Nat)(b:Int):SE:=zN .add a b
abbrev Cm:SE:=MN 3
abbrev apd:aq:=Fv 0
abbrev FF(a:Nat)(b:aq):aq:=.aE (tb a) b
abbrev zZ:SE:=jA 12
abbrev wa(a:SE)(b:TypeId)(c:SE)(d e:aq):aq:=apa a b c pj d e
abbrev FG:SE:=jY 11
abbrev ape(a b:Nat)(c:Int)(d e:aq):aq:=ao3 .neq a b c d e
abbrev wb(a b c d:Nat)(e:Int)(f g:Nat)(h:Int)(i j:aq):aq:=zP a b c d e (ape f g h i j)
abbrev z7:SE:=qo 3
abbrev apf(a:SE)(b c:Nat):SE:=agO a (IW b c)
abbrev agQ(a:Nat):SE:=HK 3 a
abbrev Cn:SE:=agQ 0
abbrev Co(a:aq):aq:=.aE bA a
abbrev z8(a:BinOp)(b:TypeId)(c:SE)(d:Int):SE:=pY a b c (jr d)
abbrev FH(a:Nat):aq:=.nr (ng a)
abbrev FI:SE:=IU 20
abbrev sy(a:Nat)(b:aq):aq:=ao1 a 0 b
abbrev xQ(a:Nat)(b c:SE)(d e:Nat)(f:aq):aq:=lE a b c (fR d e f)
abbrev qN(a b c:Nat):aq:=Cf 1 a b c
abbrev I4:aq:=qp (-1)
abbrev agR(a b c:SE):aq:=Z1 (iH a b c)
abbrev apg(a b c d:Nat):SE:=aoG a 0 b c d
abbrev pw(a b c:Nat):SE:=apg a b 1 c
abbrev ue:SE:=.i 4
abbrev Cp(a:SE)(b:BinOp)(c:SE)(d e:aq):aq:=pq a b c 0 d e
abbrev aph(a:TypeId)(b:Nat)(c:aq):aq:=Z8 a Z_ b c
abbrev I5(a b:Nat):SE:=aaa a (ni b)
abbrev api(a:Nat)(b:Int):aq:=.next a (IU b)
abbrev FJ:SE:=jY 2
abbrev Cq:SE:=tb 5
abbrev apj(a:SE)(b:aq):aq:=uJ agN a b
abbrev apk(a:aq):aq:=apj agN a
abbrev Ct(a:TypeId)(b:Nat)(c:aq):aq:=aph a b (apk c)
abbrev we(a b c d:Nat)(e:Int)(f:aq):aq:=agL a b .lss c d e f
abbrev FK:SE:=FC 0
abbrev apl(a b:Nat)(c d:aq):aq:=.test (Fx a b) c d
abbrev wg(a:Nat):SE:=FB a 0
abbrev wh(a:Nat):SE:=FB a 1
abbrev aab:SE:=jY 5
abbrev z_(a:FuncId)(b c d:SE)(e:aq):aq:=mv a b (uJ c d e)
abbrev FL:SE:=agQ 1
abbrev FM(a b:Nat):SE:=aoQ a 2 b
abbrev I6(a b:Nat):SE:=RL (FM a b)
abbrev Cu(a:TypeId)(b c:SE)(d:Nat)(e f:aq):aq:=Z9 a b c (zO d e f)
abbrev wi(a b:Nat)(c:FuncId)(d e f g h i:Nat)(j:aq):aq:=il a b c (jb d e f g h i) j
abbrev wj:SE:=.i 3
abbrev wk:SE:=.i 2
abbrev MR:SE:=MJ bu
abbrev MS:aq:=.ret Cj
abbrev FN(a:SE):SE:=agO bu a
abbrev apm(a:SE)(b:aq):aq:=RP I1 a b
abbrev apn(a:aq):aq:=apm m_ a
abbrev FO(a b:Nat)(c d:aq):aq:=apl a b (apn c) d
abbrev sA(a b c:Nat)(d:SE)(e:aq):aq:=m9 a 96 b c d e
abbrev FP(a b:Nat):SE:=apf m_ a b
abbrev MT:SE:=Dm aab
abbrev I7:SE:=jr 95
abbrev FQ(a b:SE):aq:=agR a MP b
abbrev Aa(a b:SE)(c d:aq):aq:=Cp a .lss b c d
abbrev FR(a:Nat):SE:=vT a 3
abbrev xR:SE:=FR 1
abbrev xS(a:SE):SE:=apb a 1
abbrev I8(a:SE)(b:Nat)(c:Int):aq:=pn a (api b c)
abbrev I9(a:Int):aq:=I2 qE a
abbrev Cv(a:TypeId)(b c:SE)(d:aq):aq:=I3 a b c d apd
abbrev FT:SE:=jA 13
abbrev FU(a b c:SE)(d:aq):aq:=gn a b (.aE c d)
abbrev I_:SE:=FC 2
abbrev Ja:aq:=vY 5
abbrev Jb:SE:=qM 3
abbrev Jc:SE:=mI 4
abbrev Jd:aq:=Fv 2
section
def kr{α:Type}{a b:α}(h:a=b:=by kernel_rfl):a=b:=h
variable{P:Program}{C:Cr}{Q:IV->Prop}{K K':List (List IV->Prop)}{O:List IV}
def aq.KN(f:aq){K K':List (List IV->Prop)}{O:List IV}(hk:Hs K K')(h:f.sat P C Q K O):f.sat P C Q K' O:=aq.iA P f (λ_ h=>h) hk h
def HM{A:Type}{init:SE}{body:aq}(e:A->List IV)(μ:A->Prop)(I:A->Nat)(a0:A)(FV:jL P O init=aa (e a0))(h0:μ a0)
 (h:∀a,μ a->body.sat P C Q (K++[λvs=>∃a',vs=e a'/\μ a'/\I a'<I a]) (O++e a)):(aq.loop init body).sat P C Q K O:=by
 refine⟨e a0,FV,I a0+1,?_⟩
 have key:∀m a,μ a->I a<m->(Nat.rec (motive:=λ_=>List IV->Prop) (λ_=>False) (λ_ ih vs=>body.sat P C Q (K++[ih]) (O++vs)) m) (e a):=by
  intro m;induction m with
  |zero=>intro a _ h;omega
  |succ m ih=>
   intro a ha hm;refine body.KN ((Hs.refl K).snoc ?_) (h a ha);rintro vs ⟨a',rfl,h1,h2⟩;exact ih a' h1 aj
 exact key (I a0+1) a0 h0 (Nat.lt_succ_self _)
def ir{A:Type}{init:SE}{body:aq}(n:Nat)(e:Nat->A->List IV)(μ:Nat->A->Prop)(a0:A)(FV:jL P O init=aa (e 0 a0))(h0:μ 0 a0)
 (h:∀i a,i<=n->μ i a->body.sat P C Q (K++[λvs=>∃a',vs=e (i+1) a'/\i+1<=n/\μ (i+1) a']) (O++e i a)):(aq.loop init body).sat P C Q K O:=by
 refine HM (A:=Nat×A) (λp=>e p.1 p.2) (λp=>p.1<=n/\μ p.1 p.2) (λp=>n- p.1) (0,a0) FV ⟨aw5 _,h0⟩ λ⟨i,a⟩ ⟨hi,hI⟩=>?_;refine body.KN ((Hs.refl K).snoc ?_) (h i a hi hI);rintro vs ⟨a',rfl,h1,h2⟩;exact⟨(i+1,a'),rfl,⟨h1,h2⟩,by simp;omega⟩
def aiB{a b:aq}{m:Nat}(p:List IV->Prop)(h:a.sat P C Q (K++[p]) O)(hb:∀vs,p vs->vs.length=m/\b.sat P C Q K (O++vs)):(aq.tG a m b).sat P C Q K O:=
 a.KN ((Hs.refl K).snoc hb) h
@[simp] theorem asZ{w:Nat}:(aq.fail w).sat P C Q K O↔False:=azf
@[simp] theorem XH{e:SE}:(aq.ret e).sat P C Q K O↔∃z,e.den P O=aa z/\Q z:=azf
@[simp] theorem uK{e:SE}{k:aq}:(aq.aE e k).sat P C Q K O↔(∃z,e.den P O=aa z)/\k.sat P C Q K O:=azf
@[simp] theorem Ux{e:SE}{k:aq}:(aq.bind e k).sat P C Q K O↔∃z,e.den P O=aa z/\k.sat P C Q K (O++[z]):=azf
@[simp] theorem Uy{f:FuncId}{new:Bool}{e:SE}{k:aq}:(aq.call f new e k).sat P C Q K O↔∃xs z,jL P O e=aa xs/\C f new xs z/\k.sat P C Q K (O++[z]):=azf
@[simp] theorem Uz{e:SE}{a b:aq}:(aq.test e a b).sat P C Q K O↔(e.den P O=aa (.raw (.bool ab))/\a.sat P C Q K O)\/(e.den P O=aa (.raw (.bool af))/\b.sat P C Q K O):=azf
@[simp] theorem UA{lv:Nat}{e:SE}:(aq.next lv e).sat P C Q K O↔∃vs p,jL P O e=aa vs/\K[lv]?=aa p/\p vs:=azf
@[simp] theorem as0{es x:SE}{k:aq}:(aq.same es x k).sat P C Q K O↔∃ds r,es.den P O=aa (.aF ds)/\x.den P O=aa (.aF (.aF ds::r))/\k.sat P C Q K O:=azf
@[simp] theorem avf:jL P O .an=aa []:=rfl
@[simp] theorem as4{a r:SE}:jL P O (.ac a r)=(a.den P O).bind λx=>(jL P O r).map λxs=>x::xs:=by
  unfold jL;simp only[SE.den];cases a.den P O with
  |none=>rfl
  |some x=>
   cases r.den P O with
   |none=>rfl
   |some y=>cases y<;>rfl
abbrev iB(b:Bool):IV:=.raw (.bool b)
abbrev iI(n:Int):IV:=.raw (.int .i64 n)
abbrev iS(l:List UInt8):IV:=.raw (.string ⟨l.toArray⟩)
abbrev iL(l:List Int):IV:=.tree 1 (l.map iI)
@[simp] theorem an8(q:IntKind)(n:Int):vJ (.raw (.int q n))=aa (.raw (.int q n)):=rfl
@[simp] theorem ak2(n:Bool):vJ (.raw (.bool n))=aa (.raw (.bool n)):=rfl
@[simp] theorem an9(n:ByteArray):vJ (.raw (.string n))=aa (.raw (.string n)):=rfl
@[simp] theorem Bb(s:Nat)(es:List IV):vJ (.tree s es)=aa (.tree s es):=rfl
@[simp] theorem an_(s:Nat)(es:List IV):Hq (.tree s es)=aa (.raw (.int .i64 es.length)):=rfl
def cP{s:Nat}{es:List IV}{i:Nat}{q:IntKind}{x:IV}(h:es[i]?=aa x)(hx:(cellsOf x).length=s):cq s (.tree s es) (.raw (.int q (i:Nat)))=aa x:=by
 simp[cq,ie,h,hx]
@[simp] theorem avx(P:Program)(t:TypeId)(a b:Int):dc P .lss t (iI a) (iI b)=aa (iB (decide (a<b))):=rfl
@[simp] theorem avy(P:Program)(t:TypeId)(a b:Int):dc P .gtr t (iI a) (iI b)=aa (iB (decide (a>b))):=rfl
@[simp] theorem avz(P:Program)(t:TypeId)(a b:Int):dc P .leq t (iI a) (iI b)=aa (iB (decide (a<=b))):=rfl
@[simp] theorem avA(P:Program)(t:TypeId)(a b:Int):dc P .geq t (iI a) (iI b)=aa (iB (decide (a≥b))):=rfl
@[simp] theorem avB(P:Program)(t:TypeId)(a b:Int):dc P .eql t (iI a) (iI b)=aa (iB (a==b)):=rfl
@[simp] theorem avC(P:Program)(t:TypeId)(a b:Int):dc P .neq t (iI a) (iI b)=aa (iB (a !=b)):=rfl
@[simp] theorem avD(P:Program)(t:TypeId)(a b:Int):dc P .add t (iI a) (iI b)=aa (iI (awK.wrap (a+b))):=rfl
@[simp] theorem avE(P:Program)(t:TypeId)(a b:Int):dc P .sub t (iI a) (iI b)=aa (iI (awK.wrap (a- b))):=rfl
@[simp] theorem avF(P:Program)(t:TypeId)(a b:Int):dc P .mul t (iI a) (iI b)=aa (iI (awK.wrap (a*b))):=rfl
@[simp] theorem avG(P:Program)(t:TypeId)(a b:List UInt8):dc P .neq t (iS a) (iS b)=aa (iB (!(a==b))):=by
  show aa (IV.bool (!(a.toArray.toList==b.toArray.toList)))=_;simp
def apo(P:Program)(t:TypeId)(hu:P.underlying t=aa .bool)(a b:Bool):dc P .eql t (iB a) (iB b)=aa (iB (a==b)):=by
 show(aH P (do eqGuard .eql t _ _ _ _;Go.binOp .eql t _ _)).map lift=_;rw[aP];show(aH P (do pure (.bool (<-axa (9999+1) t (.bool a) (.bool b))))).map lift=_;unfold axa;rw[aP,aP,Go.Ev.run_underlying hu,awc];rfl
def apq(P:Program)(t:TypeId)(hu:P.underlying t=aa .bool)(a b:Bool):dc P .neq t (iB a) (iB b)=aa (iB (!(a==b))):=by
 show(aH P (do eqGuard .neq t _ _ _ _;Go.binOp .neq t _ _)).map lift=_;rw[aP];show(aH P (do pure (.bool (!(<-axa (9999+1) t (.bool a) (.bool b)))))).map lift=_;unfold axa;rw[aP,aP,Go.Ev.run_underlying hu,awc];rfl
@[simp] theorem avH(P:Program)(a:Bool):RE P .not (iB a)=aa (iB (!a)):=rfl
def eT{a:Int}(h1: -9223372036854775808<=a)(h2:a<=9223372036854775807):awK.wrap a=a:=by
 simp only[IntKind.wrap,IntKind.bits,IntKind.signed];simp;omega
end
end Go.Ev
namespace Go.Proofs.YtabefplkfkfdfaaGreat
open Go Go.Ev
def apr:List Nat:=[95,93,162,266,136,184,69,24,25,7]
def Zj:List Nat:=[269,259,217]
def stops:List Nat:=[201]
def MU(l:List Hint):fe:=⟨apr,Zj,stops,l++[],[]⟩
def ab7:aq:=
 (sf (.aE dE (nf 2 dE 1 bA 2 (sb dG 3 cb dG Ci xM) I4)))
def aps:aQ Tryz.prog (MU [⟨0,162,2,[(0,(8,0))],[],[],[]⟩]) 400 af 162=ab7:=by kernel_rfl
def ab8:aq:=
 (Fy 4 0 (sa .eql 0 2) (.ret Cm) (.ret (Dn 4)))
def apt:aQ Tryz.prog (MU []) 400 af 184=ab8:=by kernel_rfl
def ab9:aq:=
 (qJ 4 0 184 0 0 0 0 (dV 1 (qF (MJ j9) j8 2 j8 4 cb 2 (qJ 4 4 136 4 4 4 4 (gn c9 (I0 pj c9) (zR 2 (fX (I0 pj c9))))) (.ret pj))))
def apu:aQ Tryz.prog (MU [⟨0,136,4,[(0,(3,0)),(0,(5,0))],[],[],[]⟩]) 400 af 136=ab9:=by kernel_rfl
def ab_:aq:=
 (Co (pq dE .gtr dE 8 bF (qF MR dE 1 dE 4 bA 1 (qJ 4 3 136 3 3 3 3 (dV 4 (pq (Ck c8) .gtr (Ck c8) 60 bF (FD (fX (Ck c8)))))) kV)))
def apv:aQ Tryz.prog (MU [⟨0,69,5,[(0,(3,0)),(0,(4,0))],[],[],[]⟩]) 400 af 69=ab_:=by kernel_rfl
def agS:aq:=
 (Co (kP dE 1 dE 2 bA 1 (il 2 2 69 xK (uJ dG dG sh)) kV))
def as5:aQ Tryz.prog (MU [⟨0,24,2,[(0,(3,0))],[],[],[]⟩]) 400 af 24=agS:=by kernel_rfl
end Go.Proofs.YtabefplkfkfdfaaGreat
namespace Go.Ev
variable{Cx:Cs}
section run
variable(P:Program)(cfg:fe)
def ve(n:Nat)(nm:Bool)(f:FuncId):aq:=
 match P.funcs[f]? with
 |some fn=>match fn.body with
  |some c=>
   if axj fn.params.size fn.ntmps&&aw6 0 (eo P f)then
    yy P 0 fn.params.toList<|exec P cfg n [] af 0 f c ⟨setArgs 0 0 (gY P 0 fn.params.toList),[],fn.params.size,0,fn.ntmps⟩ λex V=>match ex with
     |.exit _=>.fail 141
     |.cd _ _=>.fail 146
     |_=>match s9 P 0 V fn.results.toList with
      |some [.one (.sr k)]=>match V.l[k]? with
       |some (.row s' af af _ z)=>if !nm&&awl (eo P f) s' then .ret (.rws z)else .fail 146
       |_=>.fail 147
      |some [.one (.nl ab s')]=>if awl (eo P f) s' then .ret (.tr s' .an)else .fail 146
      |_=>.fail 148
   else .fail 143
  |none=>.fail 144
 |none=>.fail 145
end run
variable{P:Program}{N:Nat}{G au:St}{R R':Rs}{X aU:Ph}{E:Nat->Env}{O:List IV}{cfg:fe}{self:nJ}
variable{C:Cr}{Q:IV->Prop}{K:List (List IV->Prop)}{V:SS}{d f0:Nat}{L:List (LO SE)}{Γ:Gm SE}
def qB.xI(fF:P.follows .mixedOrders=ab)(hC:mj P C){n:Nat}{nm:Bool}{f:FuncId}{di:aq}{args es:List IV}(he:ve P cfg n nm f=di)(hl:(P.funcs[f]?).map (·.params.size)=aa args.length)(hp:∀x∈args,Pure x)
 (bD:∀e∈es,(cellsOf e).length=eo P f)(a_:∀c∈flat es,(∃v,c=.raw v)/\ao c=ab)(bg:nm=af->es≠[])
 (hs:di.sat P C (·=.tree (eo P f) es) [] args):qB P (eo P f) f args es:=by
 subst he;unfold ve at hs;split at hs<;>try exact hs.elim
 rename_i fn cL;split at hs<;>try exact hs.elim
 rename_i c hb;split at hs<;>try exact hs.elim
 rename_i hle;simp only[awb]at hle;have adQ:fn.params.size<=fn.ntmps:=by simpa using hle.1
 have cj:0<eo P f:=by simpa using hle.2
 rw[cL]at hl;simp only[awQ,awf]at hl;obtain⟨hs,bS⟩:=HI (R:=λ_=>ah) (X:=λ_=>ah) (L:=[]) (G:=⟨0,.lf⟩) hp hs (by simpa using hl);have hlen:args.length<=fn.ntmps:=aj
 have hJ:J [] (ax P args) (λ_=>ah) (λ_=>ah) (setArgs 0 0 (gY P 0 fn.params.toList)) [] (λ_=>dX args fn.ntmps) ⟨0,.lf⟩:=by
  refine⟨λd t pv hg=>?_,λk ob h=>(by simp at h),λk k' id h=>(by cases h),λk id h=>(by cases h),λid m h=>(by cases h),λid m cs aD mn h=>(by cases h),T.WF.lf,λid _=>rfl⟩;obtain⟨rfl,_,h3⟩:=ml (α:=IV) hg;rw[azd]at bS;have ht:t<args.length:=by rw[bS.len];have:=(awa.1 h3).1;simpa using this
  show VR _ _ _ _ _ ((dX args fn.ntmps).at t) pv;rw[(fi hlen).2 ht,av_ ht];exact bS.get (av_ ht) (by simpa using h3)
 obtain⟨b,zL⟩:=IT fF hC n [] af 0 f c ⟨setArgs 0 0 (gY P 0 fn.params.toList),[],fn.params.size,0,fn.ntmps⟩ _ args [] _ _ _ _
  (λN ex e1 av=>(ex=.normal\/ex=.ret)/\av.n<=N/\∃v,cV P fn e1 av=aa v/\ZU (eo P f) es v av) ah [] (λ_=>rfl) hs hJ hl.symm rfl (fi (t:=0) hlen).1 (by
   intro ex V' I K' R' aU E' au x0 hf pV bp
   have main:(match s9 P 0 V' fn.results.toList with
    |some [.one (.sr k)]=>match V'.l[k]? with
     |some (.row s' af af _ z)=>if !nm&&awl (eo P f) s' then aq.ret (.rws z)else .fail 146
     |_=>.fail 147
    |some [.one (.nl ab s')]=>if awl (eo P f) s' then .ret (.tr s' .an)else .fail 146
    |_=>.fail 148).sat P C (·=IV.tree (eo P f) es) K' (args++I)->∃b,∀N,b<=N->au.n<=N/\au.n<=N/\∃v,cV P fn (E' 0) au=aa v/\ZU (eo P f) es v au:=by
    intro gJ;split at gJ<;>try exact gJ.elim
    .rename_i k hr;obtain⟨vs,h1,h2⟩:=vb hf.hJ hr;split at gJ<;>try exact gJ.elim
     rename_i s' fr z hk;split at gJ<;>try exact gJ.elim
     rename_i lQ;simp only[awb,awX]at lQ;obtain⟨eN,lQ⟩:=lQ;have Dh:=awk lQ;subst Dh;obtain⟨z',h5,rfl⟩:=gJ;obtain⟨v,rfl,hv⟩:=xi h2;have hZ:cV P fn (E' 0) au=aa v:=vc h1;obtain⟨s1,gu,c1,c2,c3⟩:=Oq h5;cases c2;obtain⟨m0,Qx,m1,m2,m3⟩:=hf.hJ.obj k _ hk;have XG:z.den P (args++I)=aa (.tree (eo P f) Qx):=m1;rw[c1]at XG;cases XG;refine⟨au.n,λN hN=>⟨hN,hN,v,hZ,.inr ⟨bg eN,?_⟩⟩⟩;obtain⟨s2,m5,xh,wK,z1,lg,b1,b2,b3⟩:=hv;rw[hk]at b1;cases b1;have wM:z.den P (args++I)=aa (.tree (eo P f) lg):=b2;rw[c1]at wM;cases wM;rcases b3 with⟨_,b4,_⟩|⟨id,cs,aD,mn,cap,d1,d2,d3,d4,d5,d6⟩
     .exact absurd (awG b4) (bg eN)
     .rcases m3 with⟨e1,_⟩|⟨bt,bG,ko,tD,e1,e2,e3,e4,e5,e6,e7⟩
      .rw[d1]at e1;cases e1
      .rw[d1]at e1;cases e1;rw[d2]at e2;cases e2;refine⟨id,cs,aD,mn,cap,d2,e3,by simpa using d3,e4,λq x hx=>?_⟩
       have hq:q<cs.length:=by
        have:=(awa.1 hx).1;rw[yB bD]at this;omega
       obtain⟨u,rfl⟩:=(a_ x (awq hx)).1;have:=e7 q _ _ (av_ hq) hx;exact⟨u,rfl,by rw[av_ hq,cA this]⟩
    .rename_i s' hr;obtain⟨vs,h1,h2⟩:=vb hf.hJ hr;split at gJ<;>try exact gJ.elim
     rename_i lQ;have Dh:=awk lQ;obtain⟨z',h5,rfl⟩:=gJ;obtain⟨v,rfl,hv⟩:=xi h2;have hZ:cV P fn (E' 0) au=aa v:=vc h1;obtain⟨_,rfl⟩:=hv;simp only[SE.den,awc]at h5;split at h5<;>cases h5;exact⟨au.n,λN hN=>⟨hN,hN,_,hZ,.inl ⟨rfl,rfl⟩⟩⟩
   cases ex with
   |exit i=>exact bp.elim
   |cd t pv=>exact bp.elim
   |normal=>
    obtain rfl:=pV;obtain⟨b,hb⟩:=main bp;exact⟨b,λN hN=>⟨(hb N hN).1,.inl rfl,(hb N hN).2⟩⟩
   |ret=>
    obtain rfl:=pV;obtain⟨b,hb⟩:=main bp;exact⟨b,λN hN=>⟨(hb N hN).1,.inr rfl,(hb N hN).2⟩⟩)
 exact qB.S3 cj bD a_ (eY.body (RW:=λv av=>ZU (eo P f) es v av) cL hb hlen (zL b (awe _))) λv au h=>h
end Go.Ev
namespace Go.Proofs.YtabefplkfkfdfaaGreat
open Go Go.Ev
section
inductive Tm where
 |mk (k n:Int) (s:List UInt8) (ts:List Tm)
mutual
def er:Tm->IV
 |.mk k n s ts=>.agg [iI k,iI n,iS s,.tree 4 (RQ ts)]
def RQ:List Tm->List IV
 |[]=>[]
 |t::ts=>er t::RQ ts
end
theorem QA:∀l:List Tm,RQ l=l.map er
 |[]=>rfl
 |t::l=>by simp[RQ,QA l]
structure At where
 s:List UInt8
 ts:List Tm
abbrev iT(l:List Tm):IV:=.tree 4 (l.map er)
def dH(a:At):IV:=.agg [iS a.s,iT a.ts]
abbrev c_(l:List At):IV:=.tree 2 (l.map dH)
def xn(k n:Int)(s:List UInt8)(ts:List Tm):er (.mk k n s ts)=.agg [iI k,iI n,iS s,iT ts]:=by simp[er,QA]
@[simp] theorem as6(v:Value):Pure (.raw v):=.raw v
@[simp] theorem Ec(l:List Int):Pure (iL l):=by
  refine .tree 1 _ λe he c hc=>?_;obtain⟨x,_,rfl⟩:=awB.1 he;simp[cellsOf]at hc;subst hc;exact .raw _
theorem rH:∀t:Tm,Pure (er t)
 |.mk k n s ts=>by
  rw[xn];refine .agg _ λc hc=>?_;simp at hc;rcases hc with rfl|rfl|rfl|rfl
  .exact .raw _
  .exact .raw _
  .exact .raw _
  .refine .tree 4 _ λe he c hc=>?_;obtain⟨x,hx,rfl⟩:=awB.1 he;have:=rH x;obtain⟨k',n',s',ts'⟩:=x;rw[xn]at this hc;cases this with
   |agg _ h=>exact h c hc
 decreasing_by simp_wf;have:=List.sizeOf_lt_of_mem hx;omega
def jm{α:Type}(s:Nat)(enc:α->IV)(h:∀a,∃cs,enc a=.agg cs/\∀c∈cs,Pure c)(l:List α):Pure (.tree s (l.map enc)):=by
 refine .tree s _ λe he c hc=>?_;obtain⟨x,_,rfl⟩:=awB.1 he;obtain⟨cs,h1,h2⟩:=h x;rw[h1]at hc;exact h2 c hc
@[simp] theorem avg(l:List Tm):Pure (iT l):=jm 4 er (λt=>by
  have:=rH t;obtain⟨k',n',s',ts'⟩:=t;rw[xn]at this⊢;cases this with
  |agg _ h=>exact⟨_,rfl,h⟩) l
def Cw(a:At):Pure (dH a):=.agg _ ay
@[simp] theorem ae8(l:List At):Pure (c_ l):=jm 2 dH (λa=>⟨_,rfl,by simp⟩) l
def wP(n:Nat):Cr:=λf new xs z=>(f<n->eC Tryz.prog af new f xs z/\Pure z/\oq Tryz.prog f z=ab)/\
 (∀g,g<n->f=n+g->∃s es yh aT,xs=.tree s es::yh/\z=.tree s aT/\Fg Tryz.prog s g es yh aT)/\
 (∀g,g<n->f=2*n+g->∃ins yh outs z0,xs=.agg (ins.map IV.agg)::yh/\z=.aF (z0::outs.map IV.agg)/\outs.map awN=ins.map awN/\(∀cs∈outs,∀u∈cs,ao u=ab)/\Fh Tryz.prog g ins yh outs z0)/\
 (∀g,g<n->f=3*n+g->∃t:Nat,xs=[.int t]/\He Tryz.prog g t)/\
 ∀g,g<n->f=4*n+g->∃es,z=.tree (eo Tryz.prog g) es/\qB Tryz.prog (eo Tryz.prog g) g xs es
def CC:Cr:=wP Tryz.prog.funcs.size
def KO:mj Tryz.prog CC:=λ_ _ _ _ h=>h
def mixed:Tryz.prog.follows .mixedOrders=ab:=by kernel_rfl
def Bc{f n:Nat}(hl:(Tryz.prog.funcs[f]?).map (·.params.size)=aa n):f<Tryz.prog.funcs.size:=by
 cases h:Tryz.prog.funcs[f]? with
 |none=>rw[h]at hl;cases hl
 |some _=>exact(aw4.1 h).1
def nE{n a b:Nat}(h:n+a=n+b):a=b:=aj
def MV{f:Nat}(h:aw6 f 306=ab):f<Tryz.prog.funcs.size:=by
 have e:Tryz.prog.funcs.size=306:=by kernel_rfl
 rw[e];simpa using h
section
variable{n:Nat}{new:Bool}{f:Nat}{xs es:List IV}{z:IV}(ak:f<n)
include ak
theorem wP.plain(h0:eC Tryz.prog af new f xs z)(hz:Pure z)(ht:oq Tryz.prog f z=ab):wP n f new xs z:=by
 refine⟨λ_=>⟨h0,hz,ht⟩,?_,?_,?_,?_⟩<;>(intro g hg h;replace h: @Eq Nat _ _:=h;omega)
theorem wP.row{s:Nat}{aT:List IV}(h0:Fg Tryz.prog s f es xs aT):wP n (n+f) new (.tree s es::xs) (.tree s aT):=by
 refine⟨λh=>?_,λg hg h=>⟨s,es,xs,aT,rfl,rfl,nE h▸h0⟩,?_,?_,?_⟩<;>first|(replace h: @LT.lt Nat _ _ _:=h;omega)|(intro g hg h;replace h: @Eq Nat _ _:=h;omega)
theorem wP.obj{ins outs:List (List IV)}(ho:outs.map awN=ins.map awN)(hc:∀cs∈outs,∀u∈cs,ao u=ab)(h0:Fh Tryz.prog f ins xs outs z):wP n (2*n+f) new (.agg (ins.map IV.agg)::xs) (.aF (z::outs.map IV.agg)):=by
 refine⟨λh=>?_,?_,λg hg h=>⟨ins,xs,outs,z,rfl,rfl,ho,hc,nE h▸h0⟩,?_,?_⟩<;>first|(replace h: @LT.lt Nat _ _ _:=h;omega)|(intro g hg h;replace h: @Eq Nat _ _:=h;omega)
theorem wP.UB{t:Nat}(h0:He Tryz.prog f t):wP n (3*n+f) new [.int t] z:=by
 refine⟨λh=>?_,?_,?_,λg hg h=>⟨t,rfl,nE h▸h0⟩,?_⟩<;>first|(replace h: @LT.lt Nat _ _ _:=h;omega)|(intro g hg h;replace h: @Eq Nat _ _:=h;omega)
theorem wP.fresh(h0:qB Tryz.prog (eo Tryz.prog f) f xs es):wP n (4*n+f) new xs (.tree (eo Tryz.prog f) es):=by
 refine⟨λh=>?_,?_,?_,?_,λg hg h=>nE h▸⟨es,rfl,h0⟩⟩<;>first|(replace h: @LT.lt Nat _ _ _:=h;omega)|(intro g hg h;replace h: @Eq Nat _ _:=h;omega)
end
theorem CC.plain{new:Bool}{f:FuncId}{args:List IV}{z:IV}(ak:f<Tryz.prog.funcs.size)(h:eC Tryz.prog af new f args z)(hz:Pure z)(ht:oq Tryz.prog f z=ab):CC f new args z:=wP.plain ak h hz ht
def CC.of{n:Nat}{new:Bool}{f:FuncId}{di:aq}{args:List IV}{z:IV}{cfg:fe}(he:aQ Tryz.prog cfg n new f=di)(hl:(Tryz.prog.funcs[f]?).map (·.params.size)=aa args.length)(ht:oq Tryz.prog f z=ab)(hp:∀x∈args,Pure x)(hz:Pure z)
 (hs:di.sat Tryz.prog CC (·=z) [] args):CC f new args z:=wP.plain (Bc hl) (eC.xI mixed KO he hl hp hs) hz ht
def CC.ofRow{n s:Nat}{f:FuncId}{di:aq}{es aT xs:List IV}{cfg:fe}{new:Bool}(he:Au Tryz.prog cfg n s f=di)(hl:(Tryz.prog.funcs[f]?).map (·.params.size)=aa (xs.length+1))
 (hs:di.sat Tryz.prog CC (·=.tree s aT) [] (.tree s es::xs)):CC (Tryz.prog.funcs.size+f) new (.tree s es::xs) (.tree s aT):=
 wP.row (Bc hl) (Fg.xI mixed KO he hl hs)
def CC.agT{n:Nat}{f:FuncId}{di:aq}{ins outs:List (List IV)}{xs:List IV}{z:IV}{cfg:fe}{new:Bool}(he:xk Tryz.prog cfg n (ins.map awN) f=di)(hl:(Tryz.prog.funcs[f]?).map (·.params.size)=aa (ins.length+xs.length))
 (ho:outs.map awN=ins.map awN)(hc:∀cs∈outs,∀u∈cs,ao u=ab)(hs:di.sat Tryz.prog CC (·=.aF (z::outs.map .agg)) [] (ins.flatten++xs)):CC (2*Tryz.prog.funcs.size+f) new (.agg (ins.map IV.agg)::xs) (.aF (z::outs.map IV.agg)):=
 wP.obj (Bc hl) ho hc (Fh.xI mixed KO he hl hs)
def UC:Tryz.prog.underlying 4=aa .bool:=by kernel_rfl
@[simp] theorem avm(a b:Bool):dc Tryz.prog .eql 4 (iB a) (iB b)=aa (iB (a==b)):=apo _ _ UC a b
@[simp] theorem avn(a b:Bool):dc Tryz.prog .neq 4 (iB a) (iB b)=aa (iB (!(a==b))):=apq _ _ UC a b
abbrev Sm{α:Type}(l:List α):Prop:=l.length<=9223372036854775807
def aI{i:Nat}{n:Nat}(h:i<n)(hn:n<=9223372036854775807):awK.wrap ((i:Int)+1)=((i+1:Nat):Int):=by
 rw[eT aj aj];rfl
@[simp] theorem MW{l:List Int}{i:Nat}{x:Int}(h:l[i]?=aa x):cq 1 (iL l) (iI (i:Nat))=aa (iI x):=cP (by simp[h]) rfl
end
def apw:List Nat:=[203,160,216,175,240,266,11,31,24,25,7,69,8,13,14,257,72,26,71,137,70,139,210,225,145,183,75,76,111,65,112,136,186,140,184,248,224,211,170,138,249,185,9,28,27,143,77,142,141,74,144,73,146,78,18,39,16,82,44,150,188,189,29,79,80,149,187,147,10,148,30,38,104,83,84,81,168,103,62,108,42,169,107,106,45,64,63,135,110,46,66,21,12,20,23,105,40,43,41,113,171,215,174,161,48,98,97,116,115,268,192,154,227,87,33,51,212,94,47,114,32,85,155,233,199,101,50,49,164,230,194,166,204,202,99,86,95,93,156,162,280]
def as7:List Nat:=[34,35,36,37,89,100,109,151,190,234]
def as8:List Nat:=[235,236,237,238,239,241,242]
def as9:List Nat:=[185,247,209,173000151,500195,500196,500040,500041,500043,500082,500140]
def sB(l:List Hint):fe:=⟨apw,as7,as8,l++[⟨999997,0,0,[],[],[],[]⟩,⟨999999,0,0,[],[],[],[]⟩],as9⟩
def ak3:aq:=
 (il 2 0 85 gS (gn (ng 1) (qM 1) (.nr (Qz .eql 38 (qM 1) 0))))
def as_:aQ Tryz.prog (sB []) 400 af 31=ak3:=by kernel_rfl
def UD:aq:=
 (.loop (iH (xS ub) mH (mI 3)) (.nt (oB 5) (gn xO (pY .lss 3 fa xO) (ph 2 c8 5 (jo 2 8 (.rw (.var 1)) (RP fa (pY .lss 3 fa xO) (m9 3 24 6 3 (iH (.var 1) fa (pY .lss 3 fa xO)) (Uu 1 .sub 3 5 1 (ta 9 7))))))) (fZ 1 6)))
def aca:aq:=
 (tV 3 1 fP 6 fS 1 (wi 6 3 33 3 3 3 3 3 3 (ja c8 4 (.aE (xS ub) UD))) Ci)
def ak4:aq:=
 (jo 2 0 fP aca)
def ata:aQ Tryz.prog (sB [⟨2,87805000,1,[(2,(10,0))],[(4,0),(1,0)],[],[]⟩,⟨2,87805000,5,[(2,(6,0))],[(4,0),(5,0),(1,0)],[],[]⟩]) 400 af 87=ak4:=by kernel_rfl
def OA:aq:=
 (js (tW 4) 9 8 1 mK 9 (dV 11 (qG 3 10 nc .an (lG 9 12))) (fZ 3 10))
def OB:aq:=
 (js s_ 10 9 1 sw 10 (gn nc (.lV 0 (IY 3 4 nc .an)) (Z9 3 Cj nc (tQ 12 (lG 6 7) (mU 2 10)))) (pn tZ (Dp 1 8 7 1 (nN 6) (lG 6 11))))
def OC:aq:=
 (tV 1 6 ua 4 (fc 5) 6 (qJ 4 8 204 8 8 8 8 (ja sw 9 OB)) (.ret po))
def XI:aq:=
 (js zQ 3 1 1 cb 3 (dV 5 (j2 203 (y6 0 0 0 1 0 2 0 3 (tR 0 4 0 5 tT)) c9 (.nt dR (lE 2 tT c9 (il 2 7 164 (mJ 7 7) (ja mK 8 OA))) (fZ 3 4)))) (lE 2 tT bZ (jo 2 5 ua OC)))
def RR:aq:=
 (sy 7 (ja bZ 1 XI))
def apx:aQ Tryz.prog (sB [⟨0,160,14,[(0,(12,0)),(0,(52,0))],[(2,0)],[],[]⟩,⟨0,160,3,[(0,(22,0))],[(1,0)],[],[]⟩,⟨0,160,17,[(0,(60,0))],[],[],[]⟩,⟨0,160,7,[(0,(36,0))],[(1,0)],[],[]⟩]) 400 af 160=RR:=by kernel_rfl
def ak5:aq:=
 (sy 2 (jo 6 2 dG (xP 115 gS (jb 2 2 2 2 2 2) dG (.aE (.lV 2 (HK 4 0)) (MG (qM 4) (Uw 4 2) (xP 116 cb (ij (wg 4) (wh 4)) (qM 4) (.nr c9)) I4)))))
def atb:aQ Tryz.prog (sB []) 400 af 97=ak5:=by kernel_rfl
def acb:aq:=
 (tV 4 4 (.len Jb) 1 Jb 4 (Cp dR .geq dR (gz (.len (wh 3)) .lss dR (.len (wh 3)) (xQ 4 (wh 3) dR 4 7 (m9 4 56 5 4 (nb 7 7 7 7) (fZ 4 8))) (fZ 4 5)) (fZ 4 5)) (.ret fa))
def ak6:aq:=
 (jo 2 0 (uF 6 1) (dV 2 (xP 115 gS (jb 1 1 1 1 1 1) bZ (gn (.lV 2 Cn) Jb (gn (Uw 3 2) (.len Jb) acb)))))
def atc:aQ Tryz.prog (sB [⟨0,98,4,[(0,(10,0)),(0,(23,0))],[(3,3),(3,0)],[],[]⟩]) 400 af 98=ak6:=by kernel_rfl
def agU:aq:=
 (jo 2 0 (uF 6 1) (Aa bZ bZ (FQ (vV rF 4) e_) (gz (mP 1 3) .geq bZ (mP 1 3) (FQ (vV rF 4) e_) (oN .lss 1 0 0 (FQ (vV rF 4) e_) (gz fP .geq zX fP (FQ (vV rF 4) e_) (lE 6 fS zX (wi 6 3 33 3 3 3 3 3 3 (dV 4 (lE 1 xR bZ (Aa c9 c9 (FQ (vV rF 4) e_) (gz ub .geq c9 ub (FQ (vV rF 4) e_) (gz (mP 1 4) .lss bZ (mP 1 4) (lE 1 (vT 1 4) bZ (dV 6 (xQ 2 c8 c9 2 7 (agR (mJ 7 7) dR gP)))) (xQ 2 c8 c9 2 6 (FQ (mJ 6 6) gP))))))))))))))
def apy:aQ Tryz.prog (sB []) 400 af 115=agU:=by kernel_rfl
def XJ:aq:=
 (nf 3 dE 3 bA 3 (tX 3 4 9 Jc zX (sb (lF 1) 3 (fc 4) (lF 1) (j2 93 (jY 4) bZ (.nt c9 (.ret pj) si)) si) si) I4)
def agV:aq:=
 (tS (uF 2 1) (gn bZ dE XJ))
def apz:aQ Tryz.prog (sB [⟨1,116010,2,[(1,(8,0))],[],[],[]⟩]) 400 af 116=agV:=by kernel_rfl
def OD:aq:=
 (js (tW 3) 6 5 1 c9 6 (gn mK (.lV 0 (IY 3 7 mK .an)) (Cu 3 po mK 9 (lG 6 7) (qG 3 7 mK .an (lG 6 10)))) (fZ 2 7))
def OE:aq:=
 (mG (tW 3) 4 (FC 4) 3 Z_ 4 (il 3 6 166 (pw 6 6 6) (uJ kQ kQ (rG 6 0 1 (lG 4 5) (oN .neq 6 0 4 bF (lE 4 (jY 6) bu (ss 4 8 .neq 8 0 1 bF (lE 4 (jY 6) bu (jo 4 9 (.lV 0 (.get 3 fa (fc 9) .an)) (Cu 3 fa (fc 9) 10 bF (MI 3 fa (fc 9) .an (lG 4 11))))))))))) kV)
def XK:aq:=
 (js zQ 2 1 2 cb 2 (il 2 4 164 (mJ 4 4) (ja c9 5 OD)) (jZ 4 OE))
def agW:aq:=
 (wi 6 0 33 0 0 0 0 0 0 (ja cb 1 XK))
def apA:aQ Tryz.prog (sB [⟨0,101,3,[(0,(14,0))],[(1,0)],[],[]⟩,⟨0,101,12,[(0,(33,0))],[(1,0)],[],[]⟩,⟨0,101,6,[(0,(21,0))],[(1,0)],[],[]⟩]) 400 af 101=agW:=by kernel_rfl
def aiC:List Nat:=[266,24,25,7,69,257,72,26,71,137,70,139,225,145,183,75,76,136,186,140,184,224,138,185,9,28,27,143,77,142,141,74,144,73,146,78,39,95,93,162,154,268,227,192,280]
def aiD:List Nat:=[]
def aiE:List Nat:=[201]
def aiF:List Nat:=[185,247,209]
def RS(l:List Hint):fe:=⟨aiC,aiD,aiE,l++[],aiF⟩
def acd:aq:=
 (A9 bA .leq 5 (jr 97) bA (I3 5 bA (jr 122) (Fv 1) (I3 5 (jr 65) bA (I3 5 bA (jr 90) Jd (MO 5 I7 Jd (Cv 5 (jr 48) bA (Cv 5 bA (jr 57) (Fv 4))))) (MO 5 I7 Jd (Cv 5 (jr 48) bA (Cv 5 bA (jr 57) (Fv 4)))))) (I3 5 (jr 65) bA (I3 5 bA (jr 90) Jd (MO 5 I7 Jd (Cv 5 (jr 48) bA (Cv 5 bA (jr 57) (Fv 4))))) (MO 5 I7 Jd (Cv 5 (jr 48) bA (Cv 5 bA (jr 57) (Fv 4))))))
def apB:aQ Tryz.prog (RS []) 400 af 227=acd:=by kernel_rfl
def ace:aq:=
 (sb bA 9 bA (.s [99,111,110,115,116,114,97,105,110,116]) kV (MQ 9 [116,114,117,101] 9 [102,97,105,108] (MQ 9 [105,115] 9 [105,110,116] (RO 9 [103,114,111,117,110,100] bF))))
def apC:aQ Tryz.prog (RS []) 400 af 192=ace:=by kernel_rfl
def XL:aq:=
 (.loop (fX (.tp (ij mH bu))) (.test (.dec 0 Cn FL) (.bind (.tp (ij Cn (.dec 2 Cn FL))) (KI .gtr 21 (.dec 1 Cn FL) (.k .i32 122) (KM 4 gP gP (v8 .lss FL 0 (kO 192 bA 5 (.nr (Dm c9))) bF) (zU 0 4)) (.aE (.ok (.cv 21 5 (.dec 1 Cn FL))) (mv 227 (.ok (.cv 21 5 (.dec 1 Cn FL))) (gn c9 (z8 .and 223 c9 7) (sb (z8 .eql 223 (z8 .and 223 c9 7) 0) 4 (z8 .eql 223 (z8 .and 223 c9 7) 0) gP (v8 .lss FL 0 (kO 192 bA 6 (.nr (Dm dR))) bF) (zU 0 4))))))) (v8 .lss qE 0 (kO 192 bA 4 (.nr (Dm c8))) bF)))
def aac:aq:=
 (sb bA 9 bA rF bF (pq vX .gtr vX 40 bF (.aE (MK bu) (kO 227 (MK bu) 1 (sb (z8 .and 223 cb 1) 223 (z8 .and 223 cb 1) (jr 0) bF (.bind (.Kn bA j9 vX) (.aE (.uy mH) XL)))))))
def atd:aQ Tryz.prog (RS [⟨3,154005023008,2,[],[(0,0)],[],[]⟩]) 400 af 154=aac:=by kernel_rfl
def acf:aq:=
 (Co (pq vX .eql vX 1 (j2 280 (.s [43,45,42,47,37]) bA (.nr cb)) bF))
def apD:aQ Tryz.prog (RS []) 400 af 268=acf:=by kernel_rfl
def ak7:List Nat:=[266,24,25,7,69,257,72,26,71,137,70,139,225,145,183,75,76,136,186,140,184,224,138,185,9,28,27,143,77,142,141,74,144,73,146,78,39,95,93,162,154,268]
def ak8:List Nat:=[]
def ak9:List Nat:=[201]
def ak_:List Nat:=[185,247,209]
def RT(l:List Hint):fe:=⟨ak7,ak8,ak9,l++[],ak_⟩
def acg:aq:=
 (jo 4 1 bZ (Aa (Cg 0 1) (Cg 0 1) sx (v8 .lss bZ 1 sx (qC 1 0 0 (oN .geq 1 1 (-2147483648) (oN .leq 1 1 2147483648 (Z6 9 (jY 1) (ML 1 3 (Fx 1 3) (Z3 (Fx 1 3) 0 1)) sx) sx) sx) 1 0 1 (oN .geq 1 1 0 (oN .leq 1 1 1048576 (Z6 9 (jY 1) (ML 1 3 (Fx 1 3) (Z3 (Fx 1 3) 0 1)) sx) sx) sx) (rG 1 0 2 (oN .neq 1 1 0 sx (oO 1 3 .gtr 1 3 6 sx (v_ 154 (jY 1) dG dG (mv 268 (jY 1) (.nt c8 (xl 1 3 (ik (MH 1 3 2) (MH 1 3 2) sx (.aE (xS bZ) (uc 821 (fX (fX (Cg 0 1))) 1 3 (fX (xS bZ)) (.aE (ng 5) (RJ (ng 5) (xm 5 1 0))))))) sx)) (.aE (xS bZ) (uc 821 (fX (fX (Cg 0 1))) 1 3 (fX (xS bZ)) (.aE (ng 4) (RJ (ng 4) (xm 4 1 0)))))))) sx)))))
def apE:xk Tryz.prog (RT []) 400 [1] 247=acg:=by kernel_rfl
def UE:aq:=
 (js (tW 0) 3 1 4 cb 3 (fR 4 5 (jN 859 (iH (fX (nN 4)) (nb 5 5 5 5) bZ) (ik (ng 6) (ng 6) (RJ e_ (xm 6 1 0)) (zR 3 (fX (xm 6 1 0)))))) (Fw gP (nN 4)))
def ach:aq:=
 (FU cb bZ j8 UE)
def apF:xk Tryz.prog (RT [⟨1,209,2,[(1,(10,0))],[(0,0)],[],[]⟩]) 400 [1] 209=ach:=by kernel_rfl
def agX:aq:=
 (il 2 0 154 oz (.nt cb (oO 0 1 .leq 0 1 6 (uc 821 zS 0 1 FI (FH 2)) bF) bF))
def ate:aQ Tryz.prog (RT []) 400 af 194=agX:=by kernel_rfl
def aci:aq:=
 (Fy 3 0 (sa .eql 0 0) (mv 154 fS (.nt cb (oO 0 2 .leq 0 2 6 (uc 821 zS 0 2 FI (FH 2)) bF) bF)) (qC 0 0 1 (sc .gtr 0 0 (sc .leq 0 12 (FA 9 fS (oO 0 2 .eql 0 2 0 (uc 821 zS 0 2 FI (FH 1)) bF)))) 0 0 2 (sc .gtr 0 0 (sc .leq 0 12 (FA 9 fS (oO 0 2 .eql 0 2 0 (uc 821 zS 0 2 FI (FH 1)) bF)))) (qC 0 0 11 (sc .gtr 0 0 (sc .leq 0 12 (FA 9 fS (oO 0 2 .eql 0 2 1 (uc 821 zS 0 2 FI (FH 1)) bF)))) 0 0 12 (sc .gtr 0 0 (sc .leq 0 12 (FA 9 fS (oO 0 2 .eql 0 2 1 (uc 821 zS 0 2 FI (FH 1)) bF)))) (sc .gtr 0 0 (sc .leq 0 12 (FA 9 fS (oO 0 2 .eql 0 2 2 (uc 821 zS 0 2 FI (FH 1)) bF)))))))
def apH:aQ Tryz.prog (RT []) 400 af 166=aci:=by kernel_rfl
end Go.Proofs.YtabefplkfkfdfaaGreat
