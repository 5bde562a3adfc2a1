/- Lemmas over the model, without conditions of their own: calls on expressions. -/
import Derived.Test.YtggffkaadeagbaaGreatEvM
import Derived.Test.YtggffkaadeagbaaGreatEvI
open List renaming getElem?_eq_some_iff->asM,getElem?_eq_getElem->asL,getElem?_map->as4,mem_of_getElem?->asZ,getElem?_of_mem->auD,length_map->auk,length_cons->atG,isEmpty_iff->atY,ext_getElem?->awf,getElem?_eq_none_iff->auU,length->atu,all_eq_true->as6,append_nil->as9,append_assoc->atf,mapM_cons->auS,mapM_nil->awM,getElem?_append_left->asY,mem_cons_of_mem->at6,mem_flatMap->auX
open Nat renaming eq_of_beq_eq_true->asV,le_refl->asR,lt_of_lt_of_le->avc,lt_or_ge->awq,zero_le->atE,blt->atQ,ble_eq->auw,beq_eq->atv,zero_add->auf
open Option renaming bind_eq_some_iff->as_,map_eq_some_iff->asS
open Go.Fence renaming wide->ato
open Array renaming getElem?_eq_none->auI,getElem?_eq_getElem->atj,getElem?_eq_some_iff->atI
open Option.some renaming inj->avB,injEq->asP
open List.cons renaming injEq->atK
open Prod.mk renaming injEq->ati
open Bool renaming and_eq_true->asN,false_eq_true->atn,false_or->au3
open Go.ResultVar renaming tmp->ayA,cell->ayB
open Option renaming some->aa,none->ah
open Bool renaming true->ab,false->af
set_option linter.all false
namespace Go.Ev
variable{P:Program}{N:Nat}{σ ao:St}{R R':Rs}{φ aL:Ph}{E:Nat->Env}{ν:List IV}
abbrev W_(ins:List (List IV)):List (LO IV):=ins.map λcs=>.var (cs.map .v)
abbrev Oq(ins:List (List IV))(R:Rs)(φ:Ph)(E:Nat->Env)(σ:St):Prop:=J (α:=IV) aa R φ [] (W_ ins) E σ
def EW(φ:Ph)(ins:List (List IV))(ps:List IV):Prop:=
 ps.length=ins.length/\∀i cs p,ins[i]?=aa cs->ps[i]?=aa p->∃id,φ i=aa id/\p=.ptr id 0 0 cs.length
def CM(P:Program)(f:FuncId)(ins:List (List IV))(xs:List IV)(outs:List (List IV))(z:IV):Prop:=
 ∀R φ E σ ps args,Oq ins R φ E σ->EW φ ins ps->All2 iX args xs->∀KW:Nat->IV->St->Prop,
  (∀R' aL ao v,Oq outs R' aL E ao->EW aL outs ps->iX v z->∃b,∀N,b<=N->KW N v ao)->∃b,∀N,b<=N->dQ P N f (ps++args) σ (KW N)
def xS{α:Type}(ev:α->Option IV)(ds:List (Cl α))(cs:List IV):Prop:=All2 (λ(c:Cl α) u=>∃e,c=.v e/\ev e=aa u) ds cs
theorem afc{α:Type}{ev:α->Option IV}{Γ:Gm α}{L:List (LO α)}(h:J ev R φ Γ L E σ){k:Nat}{ds:List (Cl α)}{cs:List IV}(hk:L[k]?=aa (.var ds))(hc:xS ev ds cs):
 ∃id cJ,φ k=aa id/\R id=ah/\σ.at id=aa (.cells cJ 0 0)/\cJ.length=cs.length/\∀(j:Nat) x u,cJ[j]?=aa x->cs[j]?=aa u->iX x u/\aj u=ab:=by
 obtain⟨id,cJ,h1,h2,h3,h4⟩:=h.obj k _ hk;refine⟨id,cJ,h1,h2,h3,by rw[h4.len,hc.len],λj x u hx hu=>?_⟩;have hj:j<ds.length:=by rw[hc.len];exact(asM.1 hu).1
 obtain⟨e,he,zf⟩:=hc.get (asL hj) hu;have:=h4.get hx (asL hj);rw[he]at this;obtain⟨y,y1,y2,y3⟩:=this;rw[zf]at y1;cases y1;exact⟨y2,y3⟩
theorem getElem?_inj{ks:List Nat}(pH:ks.Nodup){i i' k:Nat}(h1:ks[i]?=aa k)(h2:ks[i']?=aa k):i=i':=by
 exact(List.getElem?_inj (asM.1 h1).1 pH).1 (h1.trans h2.symm)
theorem Xa{α:Type}{ev iv:α->Option IV}{Γ:Gm α}{L L':List (LO α)}(zp:∀e z,ev e=aa z->iv e=aa z)(h:J ev R φ Γ L E σ){ks:List Nat}(pH:ks.Nodup)
 {ins outs:List (List IV)}{f:FuncId}{xs ps args:List IV}{z:IV}(ey:ks.length=ins.length)(yg:∀(i k:Nat) (cs:List IV),ks[i]?=aa k->ins[i]?=aa cs->∃ds:List (Cl α),L[k]?=aa (LO.var ds)/\xS ev ds cs)
 (GW:EW (λi=>(ks[i]?).bind φ) ins ps)(bp:All2 iX args xs)(hr:CM P f ins xs outs z)(ho:outs.length=ins.length)(hlL:L'.length=L.length)
 (hLo:∀j,j∉ks->L'[j]?=L[j]?)(hLk:∀(i k:Nat) (cs:List IV),ks[i]?=aa k->outs[i]?=aa cs->∃ds:List (Cl α),L'[k]?=aa (LO.var ds)/\xS iv ds cs)
 (KW:Nat->IV->St->Prop)(Qf:∀R' ao v,J iv R' φ Γ L' E ao->iX v z->∃b,∀N,b<=N->KW N v ao):
 ∃b,∀N,b<=N->dQ P N f (ps++args) σ (KW N):=by
 let dq:Nat->Bool:=λi=>ks.any λk=>match φ k with
  |some id=>Nat.beq i id
  |none=>af
 have EV:∀i,dq i=ab↔∃k∈ks,φ k=aa i:=λi=>by
  simp only[dq,List.any_eq_true];constructor
  ·rintro⟨k,hk,hh⟩;refine⟨k,hk,?_⟩;split at hh
   ·rename_i id hid;rw[hid,asV hh]
   ·cases hh
  ·rintro⟨k,hk,hh⟩;exact⟨k,hk,by rw[hh];simp⟩
 have aE:=Ln dq h.top
 let φ0:Ph:=λi=>(ks[i]?).bind φ
 have ach:∀i id,φ0 i=aa id->∃k,ks[i]?=aa k/\φ k=aa id:=λi id hi=>by
  simp only[φ0]at hi;exact as_.1 hi
 have V6:∀(i:Nat) (cs:List IV),ins[i]?=aa cs->∃(k id:Nat) (cJ:List IV),ks[i]?=aa k/\φ k=aa id/\R id=ah/\σ.at id=aa (.cells cJ 0 0)/\cJ.length=cs.length/\∀(j:Nat) x u,cJ[j]?=aa x->cs[j]?=aa u->iX x u/\aj u=ab:=λi cs hi=>by
  have da:i<ks.length:=by rw[ey];exact(asM.1 hi).1
  have hk:=asL da;obtain⟨ds,d1,d2⟩:=yg i _ cs hk hi;obtain⟨id,cJ,a⟩:=afc h d1 d2;exact⟨_,id,cJ,hk,a⟩
 have kR:Oq ins (λ_=>ah) φ0 E (σ.only dq):=by
  refine⟨λd t pv hg=>(by cases hg),λj ob hj=>?_,λj j' id h1 h2=>?_,λj id hj=>?_,λid m hm=>(by cases hm),λid m cs ay mn hm=>(by cases hm),T.Gq _ _,λid hid=>?_⟩
  ·rw[as4]at hj;obtain⟨cs,bH,rfl⟩:=asS.1 hj;obtain⟨k,id,cJ,k1,k2,k3,k4,k5,k6⟩:=V6 j cs bH;refine⟨id,cJ,by simp[φ0,k1,k2],rfl,?_,.mk (by simp[k5]) λq x c hx hc=>?_⟩
   ·rw[aE,(EV id).2 ⟨k,asZ k1,k2⟩];simpa using k4
   ·rw[as4]at hc;obtain⟨u,hu,rfl⟩:=asS.1 hc;obtain⟨c1,c2⟩:=k6 q x u hx hu;exact⟨u,rfl,c1,c2⟩
  ·obtain⟨k,k1,k2⟩:=ach j id h1;obtain⟨k',MU,k2'⟩:=ach j' id h2;have:=h.inj k k' id k2 k2';subst this;exact getElem?_inj pH k1 MU
  ·obtain⟨k,k1,k2⟩:=ach j id hj;refine⟨?_,(h.lt k id k2).2⟩;have:=(asM.1 k1).1;simp;omega
  ·rw[aE];split
   ·exact h.top id hid
   ·rfl
 suffices W9:∀R1 dI aq v,Oq outs R1 dI E aq->EW dI outs ps->iX v z->σ.n<=aq.n->(∀id,id<σ.n->dq id=af->aq.at id=ah)->∃b,∀N,b<=N->KW N v (σ.back aq dq) by
  obtain⟨b,hb⟩:=hr _ _ _ _ ps args kR GW bp (λN v aq=>σ.n<=aq.n->(∀id,id<σ.n->dq id=af->aq.at id=ah)->KW N v (σ.back aq dq)) λR1 dI aq v h1 h2 h3=>by
   by_cases hc:σ.n<=aq.n/\∀id,id<σ.n->dq id=af->aq.at id=ah
   ·obtain⟨b,hb⟩:=W9 R1 dI aq v h1 h2 h3 hc.1 hc.2;exact⟨b,λN hN _ _=>hb N hN⟩
   ·exact⟨0,λN _ h3 h4=>absurd ⟨h3,h4⟩ hc⟩
  refine⟨b,λN hN ι us w hi l7=>((hb N hN).frame dq h.top ι us w hi l7).mono λed w' hR=>?_⟩;obtain⟨v,ao,⟨aq,ju,rfl,hle,_,CJ⟩,acg⟩:=hR;exact⟨v,σ.back aq dq,ju hle CJ,acg⟩
 intro R1 dI aq v bD hP1 hv hle CJ;have Ju:=bD.top;have yN:=Lo (σ:=σ) (aq:=aq) dq hle Ju;have hold:∀id,id<σ.n->dq id=af->(σ.back aq dq).at id=σ.at id:=λid h1 h2=>by rw[yN,if_pos ⟨h1,h2⟩]
 have fg:∀id ob,aq.at id=aa ob->¬(id<σ.n/\dq id=af):=λid ob ho hc=>by rw[CJ id hc.1 hc.2]at ho;cases ho
 have Jv:∀id ob,aq.at id=aa ob->(σ.back aq dq).at id=aa ob:=λid ob ho=>by rw[yN,if_neg (fg id ob ho)];exact ho
 let R2:Rs:=λi=>if i<σ.n/\dq i=af then R i else R1 i
 have hRk:∀k id,k∈ks->φ k=aa id->R id=ah:=λk id hk hid=>by
  obtain⟨i,hi⟩:=auD hk;have da:i<ins.length:=by rw[<-ey];exact(asM.1 hi).1
  obtain⟨k',bB,cJ,k1,k2,k3,_⟩:=V6 i _ (asL da);rw[hi]at k1;cases k1;rw[hid]at k2;cases k2;exact k3
 have yO:∀id m,R id=aa m->id<σ.n/\dq id=af:=λid m hm=>by
  refine⟨h.qU id m hm,?_⟩;cases hv:dq id with
  |false=>rfl
  |true=>
   obtain⟨k,hk,hid⟩:=(EV id).1 hv;rw[hRk k id hk hid]at hm;cases hm
 have si:∀j id,j∉ks->φ j=aa id->id<σ.n/\dq id=af:=λj id hj hid=>by
  refine⟨(h.lt j id hid).2,?_⟩;cases hv:dq id with
  |false=>rfl
  |true=>
   obtain⟨k,hk,jj⟩:=(EV id).1 hv;exact absurd (h.inj j k id hid jj▸hk) hj
 have xf:∀id m cs ay mn,R2 id=aa m->(σ.back aq dq).at id=aa (.cells cs ay mn)->m<=cs.length:=λid m cs ay mn hm ha=>by
  simp only[R2]at hm;rw[yN]at ha;split at hm
  ·rename_i hc;rw[if_pos hc]at ha;exact h.fits id m cs ay mn hm ha
  ·rename_i hc;rw[if_neg hc]at ha;exact bD.fits id m cs ay mn hm ha
 have qw:ja R σ R2 (σ.back aq dq):=by
  refine⟨λid m hm=>⟨m,by simp only[R2];rw[if_pos (yO id m hm)];exact hm,asR _⟩,λid m cs ay mn hm ha=>⟨cs,ay,?_,asR _,λ_ _=>rfl⟩,xf⟩;rw[hold id (yO id m hm).1 (yO id m hm).2];exact ha
 have adH:∀k,k∈ks->∃(i:Nat) (cs:List IV) (ds:List (Cl α)),ks[i]?=aa k/\outs[i]?=aa cs/\L'[k]?=aa (.var ds)/\xS iv ds cs:=λk hk=>by
  obtain⟨i,hi⟩:=auD hk;have da:i<outs.length:=by rw[ho,<-ey];exact(asM.1 hi).1
  obtain⟨ds,d1,d2⟩:=hLk i k _ hi (asL da);exact⟨i,_,ds,hi,asL da,d1,d2⟩
 have Zm:∀k,k∈ks->∃ds:List (Cl α),L[k]?=aa (.var ds):=λk hk=>by
  obtain⟨i,hi⟩:=auD hk;have da:i<ins.length:=by rw[<-ey];exact(asM.1 hi).1
  obtain⟨ds,d1,_⟩:=yg i k _ hi (asL da);exact⟨ds,d1⟩
 have hs:kO ev iv R φ L σ R2 φ L' (σ.back aq dq) (λ_=>False):=by
  refine⟨zp,qw,λj cs hj=>?_,λj kt fe hj=>?_,λj s1 sX sB sY z1 hj _=>?_⟩
  ·by_cases bI:j∈ks
   ·obtain⟨_,_,ds,_,_,d1,_⟩:=adH j bI;exact⟨⟨ds,d1⟩,rfl⟩
   ·exact⟨⟨cs,by rw[hLo j bI];exact hj⟩,rfl⟩
  ·have bI:j∉ks:=λhc=>by obtain⟨ds,hd⟩:=Zm j hc;rw[hj]at hd;cases hd
   exact⟨⟨fe,by rw[hLo j bI];exact hj⟩,rfl⟩
  ·have bI:j∉ks:=λhc=>by obtain⟨ds,hd⟩:=Zm j hc;rw[hj]at hd;cases hd
   exact⟨⟨sX,sY,z1,by rw[hLo j bI];exact hj,λe he=>⟨e,zp _ _ he,rfl⟩⟩,rfl,λid cs ay mn hid ha=>⟨cs,mn,by rw[hold id (si j id bI hid).1 (si j id bI hid).2];exact ha,rfl,λh=>h⟩⟩
 refine Qf R2 (σ.back aq dq) v ⟨λd t pv hg=>(h.slot d t pv hg).step hs (PV.aZ _),λj ob hj=>?_,h.inj,λj id hj=>?_,λid m hm=>?_,xf,T.Gq _ _,λid hid=>?_⟩ hv
 ·by_cases bI:j∈ks
  ·obtain⟨i,cs,ds,i1,i2,i3,i4⟩:=adH j bI;rw[i3]at hj;cases hj;have da:i<ps.length:=by rw[hP1.1];exact(asM.1 i2).1
   obtain⟨id,p1,p2⟩:=hP1.2 i cs _ i2 (asL da);have MG:i<ins.length:=by rw[<-ho];exact(asM.1 i2).1
   obtain⟨rz,q1,q2⟩:=GW.2 i _ _ (asL MG) (asL da);rw[p2]at q2;injection q2 with q2 _ _ _
   subst q2;have aci:φ j=aa id:=by simpa[i1]using q1
   have dH:(W_ outs)[i]?=aa (.var (cs.map .v)):=by rw[as4,i2];rfl
   obtain⟨bB,cJ,o1,o2,o3,o4⟩:=bD.obj i _ dH;rw[p1]at o1;cases o1;refine⟨id,cJ,aci,?_,Jv id _ o3,.mk (by rw[o4.len,auk,i4.len]) λq x c hx hc=>?_⟩
   ·simp only[R2];rw[if_neg (fg id _ o3)];exact o2
   ·have hq:q<cs.length:=by rw[<-i4.len];exact(asM.1 hc).1
    have Zn:(cs.map Cl.v)[q]?=aa (.v cs[q]):=by rw[as4,asL hq];rfl
    obtain⟨y,y1,y2,y3⟩:=o4.get hx Zn;cases y1;obtain⟨e,rfl,he⟩:=i4.get hc (asL hq);exact⟨_,he,y2,y3⟩
  ·rw[hLo j bI]at hj;exact(h.obj j ob hj).step hs rfl (λid hid=>⟨hold id (si j id bI hid).1 (si j id bI hid).2,by simp only[R2];rw[if_pos (si j id bI hid)]⟩) (LO.aZ _)
 ·have:=h.lt j id hj;exact⟨by rw[hlL];exact this.1,avc this.2 hle⟩
 ·simp only[R2]at hm;split at hm
  ·exact avc (h.qU id m hm) hle
  ·exact bD.qU id m hm
 ·have jj:aq.n<=id:=hid;rw[yN,if_neg (by omega)];exact Ju id jj
end Go.Ev
namespace Go.Ev
variable{P:Program}{N:Nat}{σ ao:St}{ι:Io}{w:World}{ro:Nat}
def ahb(w:World)(s:Nat)(es:List IV)(u:Value)(w':World):Prop:=
 (w'.os=w.os/\w'.tape=w.tape/\w'.output=w.output/\w.heap.size<=w'.heap.size/\∀b,b<w.heap.size->w'.heap[b]?=w.heap[b]?)/\
 ((es=[]/\u=.slice ah 0 0)\/
  es≠[]/\∃b c el cap,w.heap.size<=b/\u=.slice (aa ⟨b,0,ah⟩) es.length cap/\w'.heap[b]?=aa (.cells c el (0,0))/\es.length<=cap/\cap*s<=c.size/\
   ∀(k:Nat) (x:IV),(flat es)[k]?=aa x->∃v,x=.raw v/\c[k]?=aa v)
def ahc(w:World)(s:Nat)(es:List IV):Ending->World->Prop
 |.returned u,w'=>ahb w s es u w'
 |_,_=>False
def kb(P:Program)(s:Nat)(f:FuncId)(xs:List IV)(es:List IV):Prop:=
 0<s/\(∀e∈es,(cellsOf e).length=s)/\(∀c∈flat es,(∃v,c=.raw v)/\aj c=ab)/\∀M w us,uR M w->aB (eH M) xs us->CallsIn ato 0 P f us.toArray w (ahc w s es)
def EX(n s:Nat)(es:List IV):IV:=if es.isEmpty then .raw (.slice ah 0 0)else .sl n 0 es.length ah 0 s
def wx(es:List IV):Ob:=.cells (flat es) 0 0
theorem s7{s:Nat}:∀{es:List IV},(∀e∈es,(cellsOf e).length=s)->(flat es).length=es.length*s
 |[],_=>by simp[flat]
 |e::es,h=>by
  have:=s7 (es:=es) λe he=>h e (by simp[he]);have he:=h e (by simp);unfold flat at this⊢;rw[List.flatMap_cons,List.length_append,this,he,atG,Nat.add_mul];omega
theorem Inv.adI{w':World}{ob:Ob}{l:Loc}(h:Inv N ι σ w)(hN:σ.n<N)(aU:w.heap.size<=w'.heap.size)(hold:∀b,b<w.heap.size->w'.heap[b]?=w.heap[b]?)
 (we:w'.os=w.os)(xY:w'.tape=w.tape)(xZ:w'.output=w.output)(hl:w.heap.size<=l.b)(fa:l.b<w'.heap.size)(dH:kZ (dS ι σ.n 0 l) w' σ.n ob):
 Inv N (dS ι σ.n 0 l) (σ.add ob) w'/\Le ro ι w σ (dS ι σ.n 0 l) w' (σ.add ob):=by
 have kz:=h.fresh σ.n (asR _) hN;refine⟨h.change (rz:=σ.n) (k_ (kz 0)) (λi hi e=>by simp[dS,hi]) ?_ ?_ aU (λb hb _=>hold b hb) dH (λj=>by simp) ⟨by simp,by simp⟩ ?_,?_⟩
 ·intro id b hb;rcases mw hb with hb|⟨h1,h2⟩
  ·exact .inl hb
  ·exact .inr ⟨h1,by omega⟩
 ·intro b hb;rcases mw hb with hb|⟨h1,h2⟩
  ·have:=h.jc _ _ hb;omega
  ·omega
 ·intro id hid ai e;simp only[St.lC]at hid;have:id≠σ.n:=by omega
  simp[dS,this,h.fresh id (by omega) ai e]
 ·refine⟨k_ (kz 0),?_,?_,?_,?_,by simp,we,xY,xZ,aU,λb hb _=>hold b hb,λ_ _ h=>.inl h⟩
  ·intro id b hb;rcases mw hb with hb|⟨h1,h2⟩
   ·exact .inl hb
   ·exact .inr (by omega)
  ·intro id hn hr e;simp only[St.lC]at hr;have:id≠σ.n:=by omega
   simp[dS,this]
  ·intro id hn hr;simp only[St.lC]at hr;have:id≠σ.n:=by omega
   rw[St.ie,if_neg (λhc=>this hc.symm),hn]
  ·intro id hr hn;rw[St.ie,if_neg (by omega)]
theorem Inv.afd{w':World}(h:Inv N ι σ w)(aU:w.heap.size<=w'.heap.size)(hold:∀b,b<w.heap.size->w'.heap[b]?=w.heap[b]?)
 (we:w'.os=w.os)(xY:w'.tape=w.tape)(xZ:w'.output=w.output):∃aG,(∀v u,Rv ι v u->Rv aG v u)/\Inv N aG σ w'/\Le ro ι w σ aG w' σ:=by
 have hp:KI ab ι.m w (.raw (.int .i64 0)) (.int .i64 0) w':=⟨λ_=>ah,λ_ _ hb=>(by cases hb),λ_ _ hb=>(by cases hb),λhc=>(by cases hc),.raw _,we,xY,xZ,aU,hold⟩;obtain⟨aG,h1,h2,h3⟩:=FN (ro:=ro) h (λhc=>by cases hc) hp;exact⟨aG,λv u hv=>hv.mono h3.ext,h2,h3⟩
theorem kb.call{s:Nat}{f:FuncId}{args xs es:List IV}(h:kb P s f xs es)(hr:∀N ι us w,Inv N ι σ w->aB ι args us->∃M,uR M w/\aB (eH M) xs us):
 gP P ro f args σ (EX σ.n s es) (if es.isEmpty then σ else σ.add (wx es)):=by
 obtain⟨hs,bH,_,h⟩:=h;refine⟨by split<;>simp,λN hN ι us w hi l7=>?_⟩;obtain⟨M,hM,po⟩:=hr N ι us w hi l7;refine(h M w us hM po).mono λe w' hR=>?_;cases e with
 |panicked ch=>exact hR.elim
 |outgrown=>exact hR.elim
 |returned u=>
  obtain⟨⟨h1,h2,h3,h4,h5⟩,hu⟩:=hR;by_cases he:es.isEmpty
  ·rw[if_pos he]at hN⊢;obtain⟨aG,g1,g2,g3⟩:=hi.afd (ro:=ro) h4 h5 h1 h2 h3;refine⟨aG,?_,g2,g3⟩;unfold EX;rw[if_pos he];rcases hu with⟨_,rfl⟩|⟨a0,_⟩
   ·exact .raw _
   ·exact absurd (atY.1 he) a0
  ·rw[if_neg he]at hN⊢;unfold EX;rw[if_neg he];rcases hu with⟨rfl,_⟩|⟨_,b,c,el,cap,a1,rfl,a3,a4,a5,a6⟩
   ·simp at he
   ·have hlen:=s7 bH;have hle:es.length*s<=cap*s:=Nat.mul_le_mul_right s a4
    have fk:b<w'.heap.size:=by
     rcases awq b w'.heap.size with ai|tl
     ·exact ai
     ·rw[auI tl]at a3;cases a3
    have bj:=cj ι σ.n 0 ⟨b,es.length*s,c.size⟩;have kz:∀e,ι σ.n e=ah:=hi.fresh σ.n (asR _) (by simp only[St.lC]at hN;omega)
    obtain⟨g1,g2⟩:=hi.adI (ro:=ro) (w':=w') (ob:=wx es) (l:=⟨b,es.length*s,c.size⟩) (by simp only[St.lC]at hN;omega) h4 h5 h1 h2 h3 a1 fk (by
     refine⟨⟨asR _,λe he=>?_⟩,⟨_,bj,hlen.symm⟩,λe e1 e2=>?_⟩
     ·have:e≠0:=by omega
      simp[dS,this,kz]
     ·have:e=0:=by omega
      subst this;refine⟨_,c,el,bj,by rw[hlen];exact asR _,a3,rfl,λk x hk hx=>?_⟩;obtain⟨v,rfl,hv⟩:=a6 k x hx;exact⟨v,hv,.raw _⟩)
    exact⟨_,.sl σ.n 0 es.length ah 0 s ⟨b,es.length*s,c.size⟩ cap ⟨b,0,ah⟩ bj (by simp) (by simpa using a5) hs a4 (λk hk=>by cases hk) (λ_=>rfl),g1,g2⟩
def H3(s:Nat)(es:List IV)(v:IV)(ao:St):Prop:=
 (es=[]/\v=.raw (.slice ah 0 0))\/es≠[]/\∃id cs ay mn cap,ao.at id=aa (.cells cs ay mn)/\mn<=ay/\v=.sl id 0 es.length cap ay s/\es.length*s<=cs.length/\
  ∀(k:Nat) (x:IV),(flat es)[k]?=aa x->∃u,x=.raw u/\cs[k]?=aa (.raw u)
theorem kb.Dz{s:Nat}{f:FuncId}{xs es:List IV}{RW:IV->St->Prop}(hs:0<s)(bH:∀e∈es,(cellsOf e).length=s)(bz:∀c∈flat es,(∃v,c=.raw v)/\aj c=ab)(h:dQ P N f xs ⟨0,.lf⟩ RW)(hc:∀v ao,RW v ao->H3 s es v ao):kb P s f xs es:=by
 refine⟨hs,bH,bz,λM w us hM hr=>?_⟩;refine(h (eH M) us w (FM hM) hr).mono λe w' hR=>?_;obtain⟨v,ao,rK,hR⟩:=hR;cases e with
 |panicked ch=>exact hR.elim
 |outgrown=>exact hR.elim
 |returned u=>
  obtain⟨aG,h1,h2,h3⟩:=hR;have tK:∀b,b<w.heap.size->w'.heap[b]?=w.heap[b]? :=λb hb=>h3.frame b hb λid ho=>(by obtain⟨_,_,h,_⟩:=ho;cases h);refine⟨⟨h3.os,h3.tape,h3.output,h3.size,tK⟩,?_⟩;rcases hc v ao rK with⟨rfl,rfl⟩|⟨aW,id,cs,ay,mn,cap,a1,a2,rfl,a3,a4⟩
  ·cases h1;exact .inl ⟨rfl,rfl⟩
  ·obtain⟨_,_,o3⟩:=h2.obj id _ a1;obtain⟨l,c,el,b1,b2,b3,b4,b5⟩:=o3 ay a2 (asR _);cases h1 with
   |sl _ _ _ _ _ _ l' H2 a hl hn ib bt hle fO ha=>
    rw[b1]at hl;cases hl;have tx:0<es.length:=List.length_pos_iff.2 aW
    have hb:w.heap.size<=l.b:=by
     rcases h3.own id l.b ⟨ay,l,b1,rfl⟩with ho|ho
     ·obtain⟨_,_,h,_⟩:=ho;cases h
     ·exact ho
    rw[ha (by omega)];refine .inr ⟨aW,l.b,c,el,H2,hb,rfl,b3,hle,by rw[<-b4];omega,λk x hx=>?_⟩;obtain⟨u,rfl,hu⟩:=a4 k x hx
    have hk:k<l.n:=by
     have:=(asM.1 hx).1;rw[s7 bH]at this;omega
    obtain⟨y,hy,hr⟩:=b5 k _ hk hu;cases hr;exact⟨_,rfl,hy⟩
end Go.Ev
namespace Go.Ev
variable{P:Program}{N:Nat}{σ ao:St}{ι:Io}{w:World}{ro:Nat}
theorem TX(v:Value):Rv ι (lift v) v:=by
 unfold lift;split
 ·rename_i cs
  have:Rv ι (.agg (cs.toList.map .raw)) (.agg cs.toList.toArray):=.agg _ _ (by simp) λi c u h1 h2=>by
   rw[as4,h2]at h1;cases h1;exact .raw _
  simpa using this
 ·exact .raw _
theorem Lq{v u:Value}(h:Rv ι (lift v) u):u=v:=by
 unfold lift at h;split at h
 ·rename_i cs;cases h with
  |agg _ vs hl hh=>
   have:vs=cs.toList:=by
    apply awf;intro i;cases hi:vs[i]? with
    |none=>
     rw[auU]at hi;rw[auk]at hl;exact(auU.2 (by omega)).symm
    |some a=>
     have ai:=(asM.1 hi).1;rw[auk]at hl;have h2:cs.toList[i]?=aa cs.toList[i]:=asL (by omega);have:=hh i _ a (by rw[as4,h2];rfl) hi;cases this;exact h2.symm
   rw[this]
 ·cases h;rfl
def zV(d:IV)(i:Nat):Value×IV×Nat:=
 match d with
 |.az [k,x]=>((i_ k).getD Go.undef,x,i)
 |_=>(Go.undef,.undef,i)
def kr(ds:List IV):List (Value×IV×Nat):=ds.zipIdx.map λp=>zV p.1 p.2
def s8(ds:List IV):Prop:=∀d∈ds,∃k v,d=.az [lift k,lift v]
theorem qL(v:Value):i_ (lift v)=aa v:=by
 have hr:∀vs:List Value,gy (vs.map .raw)=aa vs:=by
  intro vs;induction vs with
  |nil=>rfl
  |cons v vs ih=>simp only[List.map_cons,gy,ih]
 unfold lift;split
 ·simp only[i_,pN,hr]
 ·rfl
theorem qM{ds:List IV}{i:Nat}{e:Value×IV×Nat}(h:(kr ds)[i]?=aa e):∃d,ds[i]?=aa d/\e=zV d i:=by
 unfold kr at h;rw[as4,List.getElem?_zipIdx]at h;cases hd:ds[i]? with
 |none=>rw[hd]at h;simp at h
 |some d=>rw[hd]at h;simp at h;exact⟨d,rfl,h.symm⟩
theorem qN(ds:List IV):(kr ds).length=ds.length:=by simp[kr]
def aoV(w:World)(ds:List IV)(u:Value)(w':World):Prop:=
 (w'.os=w.os/\w'.tape=w.tape/\w'.output=w.output/\w.heap.size<=w'.heap.size/\∀b,b<w.heap.size->w'.heap[b]?=w.heap[b]?)/\
 ∃b res,w.heap.size<=b/\u=.map (aa b)/\w'.heap[b]?=aa (.map res ds.length)/\res.size=ds.length/\∀(i:Nat) d (r:MapEntry),ds[i]?=aa d->res[i]?=aa r->d=.az [lift r.key,lift r.val]/\r.born=i
def aoW(w:World)(ds:List IV):Ending->World->Prop
 |.returned u,w'=>aoV w ds u w'
 |_,_=>False
def mq(P:Program)(f:FuncId)(xs:List IV)(ds:List IV):Prop:=
 s8 ds/\∀M w us,uR M w->aB (eH M) xs us->CallsIn ato 0 P f us.toArray w (aoW w ds)
theorem mq.call{f:FuncId}{args xs ds:List IV}(h:mq P f xs ds)(hr:∀N ι us w,Inv N ι σ w->aB ι args us->∃M,uR M w/\aB (eH M) xs us):
 gP P ro f args σ (.map σ.n) (σ.add (.map (kr ds) ds.length)):=by
 obtain⟨dV,h⟩:=h;refine⟨by simp,λN hN ι us w hi l7=>?_⟩;obtain⟨M,hM,po⟩:=hr N ι us w hi l7;refine(h M w us hM po).mono λe w' hR=>?_;cases e with
 |panicked ch=>exact hR.elim
 |outgrown=>exact hR.elim
 |returned u=>
  obtain⟨⟨h1,h2,h3,h4,h5⟩,b,res,a1,rfl,a3,a4,a5⟩:=hR
  have fk:b<w'.heap.size:=by
   rcases awq b w'.heap.size with ai|tl
   ·exact ai
   ·rw[auI tl]at a3;cases a3
  have bj:=cj ι σ.n 0 ⟨b,1,1⟩
  obtain⟨g1,g2⟩:=hi.adI (ro:=ro) (w':=w') (ob:=.map (kr ds) ds.length) (l:=⟨b,1,1⟩) (by simp only[St.lC]at hN;omega) h4 h5 h1 h2 h3 a1 fk (by
   refine⟨_,res,bj,a3,by rw[qN,a4],λi e r he hr=>?_⟩;obtain⟨d,hd,rfl⟩:=qM he;obtain⟨rfl,hb⟩:=a5 i d r hd hr;refine⟨by simp[zV,qL],?_,by simp[zV,hb]⟩;exact TX _)
  exact⟨_,.map σ.n ⟨b,1,1⟩ bj,g1,g2⟩
def Xb(ds:List IV)(v:IV)(ao:St):Prop:=
 ∃id es,v=.map id/\ao.at id=aa (.map es ds.length)/\es.length=ds.length/\∀(i:Nat) (e:Value×IV×Nat) d,es[i]?=aa e->ds[i]?=aa d->e.2.2=i/\∃vv,e.2.1=lift vv/\d=.az [lift e.1,lift vv]
theorem mq.Dz{f:FuncId}{xs ds:List IV}{RW:IV->St->Prop}(dV:s8 ds)(h:dQ P N f xs ⟨0,.lf⟩ RW)(hc:∀v ao,RW v ao->Xb ds v ao):mq P f xs ds:=by
 refine⟨dV,λM w us hM hr=>?_⟩;refine(h (eH M) us w (FM hM) hr).mono λe w' hR=>?_;obtain⟨v,ao,rK,hR⟩:=hR;cases e with
 |panicked ch=>exact hR.elim
 |outgrown=>exact hR.elim
 |returned u=>
  obtain⟨aG,h1,h2,h3⟩:=hR;have tK:∀b,b<w.heap.size->w'.heap[b]?=w.heap[b]? :=λb hb=>h3.frame b hb λid ho=>(by obtain⟨_,_,h,_⟩:=ho;cases h);refine⟨⟨h3.os,h3.tape,h3.output,h3.size,tK⟩,?_⟩;obtain⟨id,es,rfl,a1,a2,a3⟩:=hc v ao rK;obtain⟨l,res,b1,b2,b3⟩:=h2.obj id _ a1;cases h1 with
  |map _ l' hl=>
   rw[b1]at hl;cases hl
   have hb:w.heap.size<=l.b:=by
    rcases h3.own id l.b ⟨0,l,b1,rfl⟩with ho|ho
    ·obtain⟨_,_,h,_⟩:=ho;cases h
    ·exact ho
   refine⟨l.b,res,hb,rfl,b2,by rw[<-b3.1,a2],λi d r hd hr=>?_⟩
   have hi:i<es.length:=by
    have:=(asM.1 hd).1;omega
   have he:=asL hi;obtain⟨c1,c2,c3⟩:=b3.2 i _ r he hr;obtain⟨d1,vv,d2,d3⟩:=a3 i _ d he hd;rw[d2]at c2;have:=Lq c2;refine⟨by rw[d3,c1,this],by rw[c3,d1]⟩
end Go.Ev
namespace Go.Ev
variable{P:Program}{N:Nat}{σ ao:St}{ι:Io}{w:World}{ro:Nat}
theorem Qg{a b:Value}(h:lift a=lift b):a=b:=by
 have:=qL a;rw[h,qL]at this;exact(avB this).symm
def akJ(w:World)(ds:List IV)(u:Value):Prop:=
 ∃b res,u=.map (aa b)/\w.heap[b]?=aa (.map res ds.length)/\res.size=ds.length/\∀(i:Nat) d (r:MapEntry),ds[i]?=aa d->res[i]?=aa r->d=.az [lift r.key,lift r.val]/\r.born=i
def Bh(es:List (Value×IV×Nat))(ds:List IV):Prop:=
 es.length=ds.length/\∀(i:Nat) (e:Value×IV×Nat) d,es[i]?=aa e->ds[i]?=aa d->e.2.2=i/\∃vv,e.2.1=lift vv/\d=.az [lift e.1,lift vv]
def sg(P:Program)(f:FuncId)(ds xs:List IV)(z:IV):Prop:=
 s8 ds/\(∃v,z=.raw v/\aj z=ab)/\∀M w u us,uR M w->akJ w ds u->aB (eH M) xs us->CallsIn ato 0 P f (u::us).toArray w (agy af ab M w z)
theorem sg.call{f:FuncId}{args xs ds:List IV}{z:IV}{id:Nat}{es:List (Value×IV×Nat)}(h:sg P f ds xs z)(aE:σ.at id=aa (.map es ds.length))(gF:Bh es ds)(hc:Eh ab σ args xs):
 gP P ro f (.map id::args) σ z σ:=by
 refine⟨asR _,λN hN ι us w hi hr=>?_⟩;cases us with
 |nil=>have:=hr.1;simp at this
 |cons u us=>
  have hu:=hr.2 0 _ _ rfl rfl;have po:aB ι args us:=⟨by have:=hr.1;simpa using this,λi c v h1 h2=>hr.2 (i+1) c v (by simpa using h1) (by simpa using h2)⟩;cases hu with
  |map _ l hl=>
   obtain⟨l',res,b1,b2,b3⟩:=hi.obj id _ aE;rw[hl]at b1;cases b1;refine(h.2.2 (allM w) w (.map (aa l.b)) us AW ⟨l.b,res,rfl,b2,by rw[<-b3.1,gF.1],λi d r hd hr=>?_⟩ (hc.rv hi po)).mono λe w' hR=>?_
   ·have ai:i<es.length:=by
     have:=(asM.1 hd).1;rw[gF.1];exact this
    have he:=asL ai;obtain⟨c1,c2,c3⟩:=b3.2 i _ r he hr;obtain⟨d1,vv,d2,d3⟩:=gF.2 i _ d he hd;rw[d2]at c2;have:=Lq c2;exact⟨by rw[d3,c1,this],by rw[c3,d1]⟩
   ·cases e with
    |returned u=>exact FN hi (λhn=>by cases hn) hR.2
    |panicked ch=>exact absurd hR.1 (by simp)
    |outgrown=>exact hR.elim
theorem sg.Dz{f:FuncId}{xs ds:List IV}{z:IV}{RW:IV->St->Prop}(dV:s8 ds)(hz:∃v,z=.raw v/\aj z=ab)(h:dQ P N f (.map 0::xs) ((⟨0,.lf⟩:St).add (.map (kr ds) ds.length)) RW)
 (hc:∀v ao,RW v ao->v=z/\∃es,ao.at 0=aa (.map es ds.length)/\Bh es ds):sg P f ds xs z:=by
 refine⟨dV,hz,λM w u us hM abn hr=>?_⟩;obtain⟨b,res,rfl,m1,m2,m3⟩:=abn;have bj:=cj (eH M) 0 0 ⟨b,1,1⟩;have jD:Ext (eH M) (dS (eH M) 0 0 ⟨b,1,1⟩):=k_ rfl
 have lO:∀id b',Own (dS (eH M) 0 0 ⟨b,1,1⟩) id b'->id=0/\b'=b:=λid b' ho=>by
  rcases mw ho with ho|ho
  ·obtain⟨_,_,h,_⟩:=ho;cases h
  ·exact ho
 have ai:b<w.heap.size:=by
  rcases awq b w.heap.size with ai|tl
  ·exact ai
  ·rw[auI tl]at m1;cases m1
 have hi:Inv N (dS (eH M) 0 0 ⟨b,1,1⟩) ((⟨0,.lf⟩:St).add (.map (kr ds) ds.length)) w:=by
  refine⟨hM,λb' c id hb ho=>?_,λid b' ho=>by rw[(lO id b' ho).2];exact ai,λid hid _ e=>?_,λi j b' h1 h2=>by rw[(lO i b' h1).1,(lO j b' h2).1],λid o ho=>?_,λid hid=>?_⟩
  ·rw[(lO id b' ho).2]at hb;obtain⟨e,f,hh⟩:=hM b c hb;rw[m1]at hh;cases hh
  ·have:id≠0:=by simp only[St.lC]at hid;omega
   simp[dS,this]
  ·rw[St.ie]at ho;split at ho
   ·rename_i h0;subst h0;cases ho;refine⟨_,res,bj,m1,by rw[qN,m2],λi e r he hr=>?_⟩;obtain⟨d,hd,rfl⟩:=qM he;obtain⟨rfl,hb⟩:=m3 i d r hd hr;exact⟨by simp[zV,qL],TX _,by simp[zV,hb]⟩
   ·cases ho
  ·simp only[St.lC]at hid;rw[St.ie,if_neg (by show¬0=id;omega)];rfl
 have l7:aB (dS (eH M) 0 0 ⟨b,1,1⟩) (.map 0::xs) (.map (aa b)::us):=by
  refine⟨by simp[hr.1],λi=>?_⟩;cases i with
  |zero=>intro c v h1 h2;simp at h1 h2;subst h1 h2;exact .map 0 ⟨b,1,1⟩ bj
  |succ i=>intro c v h1 h2;simp at h1 h2;exact(hr.2 i c v h1 h2).mono jD
 refine(h _ _ w hi l7).mono λe w' hR=>?_;obtain⟨v,ao,rK,hR⟩:=hR;cases e with
 |panicked ch=>exact hR.elim
 |outgrown=>exact hR.elim
 |returned u=>
  obtain⟨aG,h1,h2,h3⟩:=hR;obtain⟨rfl,es,a1,a2,a3⟩:=hc v ao rK;obtain⟨vz,rfl,_⟩:=hz;have hu:u=vz:=by cases h1;rfl
  subst hu;refine⟨rfl,λ_=>ah,λ_ _ hb=>(by cases hb),λ_ _ hb=>(by cases hb),λhc=>(by cases hc),.raw _,h3.os,h3.tape,h3.output,h3.size,λb' sJ=>?_⟩;by_cases IC:b'=b
  ·subst IC;obtain⟨l,ahd,c1,c2,c3⟩:=h2.obj 0 _ a1;have:=h3.ext.1 0 0 _ bj;have kQ:aG 0 0=aa l:=c1;have adJ:aG 0 0=aa ⟨b',1,1⟩:=this;rw[kQ]at adJ;cases adJ;rw[c2,m1]
   congr 2
   have aU:ahd.size=res.size:=by rw[<-c3.1,a2,m2]
   apply Array.ext aU;intro i Pj Ys;have he:i<es.length:=by rw[c3.1];exact Pj
   have hd:i<ds.length:=by rw[<-a2];exact he
   obtain⟨d1,d2,d3⟩:=c3.2 i es[i] ahd[i] (asL he) (atj Pj);obtain⟨e1,vv,e2,e3⟩:=a3 i es[i] ds[i] (asL he) (asL hd);obtain⟨f1,f2⟩:=m3 i ds[i] res[i] (asL hd) (atj Ys);rw[e2]at d2;have hv:=Lq d2;rw[e3]at f1;simp only[IV.az.injEq,atK,and_true]at f1;have k1:=Qg f1.1;have k2:=Qg f1.2
   have:∀x y:MapEntry,x.key=y.key->x.val=y.val->x.born=y.born->x=y:=by
    intro x y;cases x;cases y;simp only;rintro rfl rfl rfl;rfl
   exact this _ _ (by rw[d1,k1]) (by rw[hv,k2]) (by rw[d3,e1,f2])
  ·exact h3.frame b' sJ λid ho=>absurd (lO id b' ho).2 IC
end Go.Ev
namespace Go.Ev
variable{P:Program}{N:Nat}{σ ao:St}{R R':Rs}{φ aL:Ph}{E:Nat->Env}{ν:List IV}{ro:Nat}{ι:Io}{w:World}
variable{C:Cr}{Q:IV->Prop}{K:List (List IV->Prop)}{V:SS}{d:Nat}{o:Oper}{k:PV SE->SS->ak}{L:List (LO SE)}{Γ:Gm SE}
theorem afe{fr:Bool}{x z:IV}(hi:(λ(_:Nat)=>(ah:Option Nat))=R)(IS:σ=⟨0,.lf⟩)(h:bn fr R σ x z):∀{u:Value},Rv ι x u->Rv (eH ι.m) z u:=by
 induction h with
 |raw v=>intro u h;cases h;exact .raw v
 |nil s hs=>intro u h;cases h;exact .dY s ah 0 hs (λ_=>rfl)
 |emp s hs=>intro u h;cases h;exact .dY s _ 0 hs (λh=>by cases h)
 |du t x y _ ih=>intro u h;cases h with|du _ _ v hh=>exact .du t y v (ih hh)
 |agg cs ds hl _ ih=>
  intro u h;cases h with
  |agg _ vs cu hh=>
   refine .agg ds vs (hl▸cu) λi d v h1 h2=>?_;have da:i<cs.length:=by have:=(asM.1 h1).1;omega
   exact ih i _ d (asL da) h1 (hh i _ v (asL da) h2)
 |az cs ds hl _ ih=>
  intro u h;cases h with
  |az _ vs cu hh=>
   refine .az ds vs (hl▸cu) λi d v h1 h2=>?_;have da:i<cs.length:=by have:=(asM.1 h1).1;omega
   exact ih i _ d (asL da) h1 (hh i _ v (asL da) h2)
 |pure x hf hp=>intro u h;exact hp.rv h (λ_ _ h=>h)
 |sl id off len cap ep s m cs ay mn es hR=>rw[<-hi]at hR;cases hR
theorem fm.akK{f:FuncId}{args xs:List IV}{z:IV}(h:fm P af af f xs z)(hc:All2 iX args xs):gP P ro f args σ z σ:=by
 refine⟨asR _,λN hN ι us w hi hr=>?_⟩
 have po:aB (eH ι.m) xs us:=⟨hc.len▸hr.1,λi c v h1 h2=>by
  have da:i<args.length:=by have:=(asM.1 h1).1;rw[hc.len];exact this
  exact afe rfl rfl (hc.get (asL da) h1) (hr.2 i _ v (asL da) h2)⟩
 refine(h ι.m w us hi.mem po).mono λe w' hR=>?_;cases e with
 |returned u=>exact FN hi (λ_ _ _=>Iff.rfl) hR.2
 |panicked ch=>exact absurd hR.1 (by simp)
 |outgrown=>exact hR.elim
theorem kb.FO{s:Nat}{f:FuncId}{args xs es:List IV}(h:kb P s f xs es)(hc:Eh ab σ args xs):gP P ro f args σ (EX σ.n s es) (if es.isEmpty then σ else σ.add (wx es)):=
 h.call λ_ _ _ w hi hr=>⟨allM w,AW,hc.rv hi hr⟩
theorem mq.FO{f:FuncId}{args xs ds:List IV}(h:mq P f xs ds)(hc:Eh ab σ args xs):gP P ro f args σ (.map σ.n) (σ.add (.map (kr ds) ds.length)):=
 h.call λ_ _ _ w hi hr=>⟨allM w,AW,hc.rv hi hr⟩
def Ot(n:Nat):IV->Bool
 |.az vs=>vs.length==n
 |_=>af
def aO(P:Program)(f:FuncId)(z:IV):Bool:=
 match P.funcs[f]? with
 |some fn=>fn.resultTypes.size==1||Ot fn.resultTypes.size z
 |none=>af
def jr(P:Program)(C:Cr):Prop:=∀f new xs z,C f new xs z->(f<P.funcs.size->fm P af new f xs z/\Pure z/\aO P f z=ab)/\
 (∀g,g<P.funcs.size->f=P.funcs.size+g->∃s es oD aF,xs=.tree s es::oD/\z=.tree s aF/\CK P s g es oD aF)/\
 (∀g,g<P.funcs.size->f=2*P.funcs.size+g->∃ins oD outs z0,xs=.agg (ins.map IV.agg)::oD/\z=.az (z0::outs.map IV.agg)/\outs.map atu=ins.map atu/\(∀cs∈outs,∀u∈cs,aj u=ab)/\CM P g ins oD outs z0)/\
 (∀g,g<P.funcs.size->f=3*P.funcs.size+g->∃t:Nat,xs=[.int t]/\Es P g t)/\
 (∀g,g<P.funcs.size->f=4*P.funcs.size+g->∃es,z=.tree (cP P g) es/\kb P (cP P g) g xs es)/\
 (∀g,g<P.funcs.size->f=5*P.funcs.size+g->∃ds,z=.az ds/\mq P g xs ds)/\
 ∀g,g<P.funcs.size->f=6*P.funcs.size+g->∃ds oD,xs=.az ds::oD/\sg P g ds oD z
theorem MV{c:Cl SE}{fr:Bool}{z:SE}{V':SS}(hp:u6 [c]=ab)(hr:wW V c=aa (fr,z,V')){x:IV}(hx:cI (au P ν) R φ V.l σ x c):∃y,z.den P ν=aa y/\iX x y:=by
 cases c<;>simp only[u6]at hp<;>first|(cases hp;done)|skip
 ·simp only[wW,asP,ati]at hr;obtain⟨rfl,rfl,rfl⟩:=hr;obtain⟨y,h1,h2,_⟩:=hx;exact⟨y,h1,h2⟩
 ·rename_i b s;simp only[wW,asP,ati]at hr;obtain⟨rfl,rfl,rfl⟩:=hr;obtain⟨h1,rfl⟩:=hx;refine⟨.tree s [],by simp[SE.den,h1],?_⟩;cases b
  ·exact .emp s h1
  ·exact .nil s h1
theorem MW{c:Cl SE}{fr:Bool}{z:SE}{V':SS}(hp:u6 [c]=ab)(hr:wW V c=aa (fr,z,V')):V'=V:=by
 cases c<;>simp only[u6]at hp<;>first|(cases hp;done)|skip
 all_goals
  simp only[wW,asP,ati]at hr;exact hr.2.2.symm
theorem Zo{c:Cl SE}{cs:List (Cl SE)}(h:u6 (c::cs)=ab):u6 [c]=ab/\u6 cs=ab:=by
 cases c<;>simp only[u6]at h⊢<;>first|(cases h;done)|exact⟨trivial,h⟩
theorem Jw:∀{cs:List (Cl SE)} {fr:Bool} {zs:List SE} {V':SS},u6 cs=ab->tS V cs=aa (fr,zs,V')->V'=V/\∀{xs:List IV},All2 (cI (au P ν) R φ V.l σ) xs cs->∃ys,All2 (λ(z:SE) y=>z.den P ν=aa y) zs ys/\All2 iX xs ys
 |[],fr,zs,V',_,hr=>by
  simp only[tS,asP,ati]at hr;obtain⟨rfl,rfl,rfl⟩:=hr;refine⟨rfl,λ{xs} hx=>?_⟩;cases xs with
  |nil=>exact⟨[],trivial,trivial⟩
  |cons=>exact hx.elim
 |c::cs,fr,zs,V',hp,hr=>by
  obtain⟨h1,h2⟩:=Zo hp;simp only[tS]at hr;split at hr
  ·rename_i f1 z V1 qY;have e0:=MW h1 qY;rw[e0]at hr;split at hr
   ·rename_i f2 zs' V2 Qh;simp only[asP,ati]at hr;obtain⟨rfl,rfl,rfl⟩:=hr;obtain⟨rfl,h3⟩:=Jw h2 Qh;refine⟨rfl,λ{xs} hx=>?_⟩;cases xs with
    |nil=>exact hx.elim
    |cons x xs=>
     obtain⟨y,a1,a2⟩:=MV h1 qY hx.1;obtain⟨ys,b1,b2⟩:=h3 hx.2;exact⟨y::ys,⟨a1,b1⟩,⟨a2,b2⟩⟩
   ·cases hr
  ·cases hr
theorem Lr{V':SS}{pv:PV SE}{fr:Bool}{z:SE}(h:J (au P ν) R φ V.g V.l E σ)(hr:tT V pv=aa (fr,z,V'))(ht:∀vs,pv≠.tu vs):
 ∃R',jz P ν R φ V σ R' V'/\J (au P ν) R' φ V'.g V'.l E σ/\∀x,VR (au P ν) R φ V.l σ x pv->∃y,z.den P ν=aa y/\bn fr R' σ x y:=by
 cases pv with
 |one c=>
  obtain⟨R',h1,h2,h3⟩:=EI h hr;exact⟨R',h1,h2,λx hx=>by obtain⟨y,a,b,_⟩:=h3 x hx;exact⟨y,a,b⟩⟩
 |ag cs=>
  simp only[tT]at hr;split at hr
  ·rename_i f zs V1 qY;simp only[asP,ati]at hr;obtain⟨rfl,rfl,rfl⟩:=hr;obtain⟨R',h1,h2,_,h3⟩:=ve h qY;refine⟨R',h1,h2,λx hx=>?_⟩;obtain⟨xs,rfl,wS⟩:=hx;obtain⟨ys,a,b,_⟩:=h3 xs wS;exact⟨.agg ys,eL a,.agg xs ys b.len λi c e h1 h2=>b.get h1 h2⟩
  ·cases hr
 |tu vs=>exact absurd rfl (ht vs)
theorem Xc{V':SS}{pv:PV SE}{fr:Bool}{z:SE}(hp:oY pv=ab)(hr:tT V pv=aa (fr,z,V')):V'=V/\∀{x:IV},VR (au P ν) R φ V.l σ x pv->∃y,z.den P ν=aa y/\iX x y:=by
 cases pv with
 |one c=>exact⟨MW hp hr,λ{x} hx=>MV hp hr hx⟩
 |ag cs=>
  simp only[tT]at hr;split at hr
  ·rename_i f zs V1 qY;simp only[asP,ati]at hr;obtain⟨rfl,rfl,rfl⟩:=hr;obtain⟨h1,h2⟩:=Jw (P:=P) (ν:=ν) (R:=R) (φ:=φ) (σ:=σ) hp qY;refine⟨h1,λ{x} hx=>?_⟩;obtain⟨xs,rfl,wS⟩:=hx;obtain⟨ys,a,b⟩:=h2 wS;exact⟨.agg ys,eL a,.agg xs ys b.len λi c e h1 h2=>b.get h1 h2⟩
  ·cases hr
 |tu vs=>cases hp
theorem Bi:∀{dp:List (PV SE)} {V V':SS} {R:Rs} {zs:List SE},J (au P ν) R φ V.g V.l E σ->tW V dp=aa (zs,V')->BV dp=ab->
 ∃R',jz P ν R φ V σ R' V'/\J (au P ν) R' φ V'.g V'.l E σ/\∀xs,All2 (VR (au P ν) R φ V.l σ) xs dp->∃ys,All2 (λ(z:SE) y=>z.den P ν=aa y) zs ys/\All2 (bn ab R' σ) xs ys
 |[],V,V',R,zs,h,hr,_=>by
  simp only[tW,asP,ati]at hr;obtain⟨rfl,rfl⟩:=hr;refine⟨R,.refl h,h,λxs hx=>?_⟩;cases xs with
  |nil=>exact⟨[],trivial,trivial⟩
  |cons=>exact hx.elim
 |pv::dp,V,V',R,zs,h,hr,ht=>by
  have ht':(∀vs,pv≠.tu vs)/\BV dp=ab:=by
   cases pv<;>simp_all[BV]
  simp only[tW]at hr;split at hr
  ·rename_i f z V1 qY;split at hr
   ·rename_i zs' V2 Qh;simp only[asP,ati]at hr;obtain⟨rfl,rfl⟩:=hr;obtain⟨R1,a1,a2,a3⟩:=Lr h qY ht'.1;obtain⟨R2,b1,b2,b3⟩:=Bi a2 Qh ht'.2;refine⟨R2,a1.trans b1,b2,λxs hx=>?_⟩;cases xs with
    |nil=>exact hx.elim
    |cons x xs=>
     obtain⟨y,c1,c2⟩:=a3 x hx.1;obtain⟨ys,d1,d2⟩:=b3 xs (hx.2.mono λ_ _ bS=>a1.vr bS);exact⟨y::ys,⟨c1,d1⟩,⟨(c2.mono b1.2.2.2.grow).cL,d2⟩⟩
   ·cases hr
  ·cases hr
theorem xz:∀{dp:List (PV SE)} {V':SS} {zs:List SE},tW V dp=aa (zs,V')->dp.all oY=ab->
 V'=V/\∀{xs:List IV},All2 (VR (au P ν) R φ V.l σ) xs dp->∃ys,All2 (λ(z:SE) y=>z.den P ν=aa y) zs ys/\All2 iX xs ys
 |[],V',zs,hr,_=>by
  simp only[tW,asP,ati]at hr;obtain⟨rfl,rfl⟩:=hr;refine⟨rfl,λ{xs} hx=>?_⟩;cases xs with
  |nil=>exact⟨[],trivial,trivial⟩
  |cons=>exact hx.elim
 |pv::dp,V',zs,hr,hp=>by
  simp only[List.all_cons,asN]at hp;simp only[tW]at hr;split at hr
  ·rename_i f z V1 qY;obtain⟨e1,a1⟩:=Xc (P:=P) (ν:=ν) (R:=R) (φ:=φ) (σ:=σ) hp.1 qY;rw[e1]at hr;split at hr
   ·rename_i zs' V2 Qh;simp only[asP,ati]at hr;obtain⟨rfl,rfl⟩:=hr;obtain⟨e2,b1⟩:=xz Qh hp.2;refine⟨e2,λ{xs} hx=>?_⟩;cases xs with
    |nil=>exact hx.elim
    |cons x xs=>
     obtain⟨y,c1,c2⟩:=a1 hx.1;obtain⟨ys,d1,d2⟩:=b1 hx.2;exact⟨y::ys,⟨c1,d1⟩,⟨c2,d2⟩⟩
   ·cases hr
  ·cases hr
theorem EY{t:TypeId}{e:SE}{z:IV}{f:ak}(hz:e.den P ν=aa z)(hp:Pure z)(hs:(rU P t e f).sat P C Q K ν):f.sat P C Q K ν/\VR (au P ν) R φ L σ z (ofType P t e)/\tP (au P ν) R φ L σ z (isAgg P t,eI (ofType P t e)):=by
 unfold rU at hs;unfold ofType;by_cases ha:isAgg P t=ab
 ·rw[if_pos ha]at hs;obtain⟨⟨y,hy⟩,hk⟩:=hs;simp only[SE.den,hz,Option.bind_some]at hy;split at hy
  ·rename_i cs;split at hy
   ·rename_i hc
    have bg:All2 (cI (au P ν) R φ L σ) cs ((List.range ((aN P t).getD 0)).map λj=>Cl.v (SE.bT e j)):=by
     refine .mk (by simp[hc.1]) λi a b h1 h2=>?_;have hi:=(asM.1 h1).1;rw[as4,List.getElem?_range (by omega)]at h2;simp only[Option.map_some,asP]at h2;subst h2;have bz:Ev.aj a=ab:=(as6.1 hc.2) a (asZ h1);have Ji:Pure a:=by cases hp with|agg _ hh=>exact hh a (asZ h1)
     exact⟨a,by simp[au,SE.den,hz,h1,yD,bz],.pure a rfl Ji,bz⟩
    simp only[ha,if_true];exact⟨hk,⟨cs,rfl,bg⟩,by simp only[tP,if_true,eI];exact⟨cs,rfl,bg⟩⟩
   ·cases hy
  ·cases hy
 ·rw[if_neg ha]at hs;obtain⟨⟨y,hy⟩,hk⟩:=hs;obtain⟨h1,h2⟩:=p6 hy;rw[hz]at h1;cases h1;have hv:cI (au P ν) R φ L σ z (.v (.ok e)):=⟨z,hy,.pure z rfl hp,h2⟩;rw[if_neg ha];refine⟨hk,hv,?_⟩;simp only[tP,eI];rw[if_neg (by simpa using ha)];exact⟨_,rfl,hv⟩
theorem Jy{e:SE}{vs:List IV}{f:ak}(hz:e.den P ν=aa (.az vs))(hp:∀v∈vs,Pure v):∀{ts:List TypeId} {j:Nat},(PA P e j ts f).sat P C Q K ν->j+ts.length=vs.length->f.sat P C Q K ν/\All2 (tP (au P ν) R φ L σ) (vs.drop j) (KR P e j ts)
 |[],j,hs,hl=>by
  simp at hl;rw[List.drop_of_length_le (by omega)];exact⟨hs,trivial⟩
 |t::ts,j,hs,hl=>by
  simp at hl;have hj:j<vs.length:=by omega
  have hd:(SE.proj e j).den P ν=aa vs[j]:=by simp[SE.den,hz,hj]
  obtain⟨h1,_,h3⟩:=EY (R:=R) (φ:=φ) (L:=L) (σ:=σ) hd (hp _ (List.getElem_mem hj)) hs;obtain⟨h4,h5⟩:=Jy hz hp h1 (by omega);refine⟨h4,?_⟩;rw[List.drop_eq_getElem_cons hj];exact⟨h3,h5⟩
theorem acj{fn:Func}{e:SE}{z:IV}(hz:e.den P ν=aa z)(hp:Pure z)(ht:fn.resultTypes.size≠1->Ot fn.resultTypes.size z=ab)(hs:(Oi P fn V e k).sat P C Q K ν):∃pv,(k pv V).sat P C Q K ν/\VR (au P ν) R φ L σ z pv:=by
 unfold Oi at hs;split at hs
 ·rename_i t _;obtain⟨h1,h2,_⟩:=EY (R:=R) (φ:=φ) (L:=L) (σ:=σ) hz hp hs;exact⟨_,h1,h2⟩
 ·rename_i hn
  have aU:fn.resultTypes.size≠1:=by
   intro h;have:fn.resultTypes.toList.length=1:=by simpa using h
   obtain⟨t,ht⟩:=List.length_eq_one_iff.1 this;exact hn t ht
  have:=ht aU;unfold Ot at this;split at this
  ·rename_i vs;have hl:vs.length=fn.resultTypes.size:=by simpa using this
   obtain⟨h1,h2⟩:=Jy (R:=R) (φ:=φ) (L:=L) (σ:=σ) (j:=0) hz (λv hv=>by cases hp with|az _ hh=>exact hh v hv) hs (by simp[hl]);exact⟨_,h1,vs,rfl,by simpa using h2⟩
  ·cases this
end Go.Ev
namespace Go.Ev
variable{P:Program}{N:Nat}{σ ao:St}{R R':Rs}{φ aL:Ph}{E:Nat->Env}{ν:List IV}{ro:Nat}{ι:Io}{w:World}{cfg:a_}{self:nX}
variable{C:Cr}{Q:IV->Prop}{K:List (List IV->Prop)}{V:SS}{d f0:Nat}{o:Oper}{k:PV SE->SS->ak}{L:List (LO SE)}{Γ:Gm SE}
theorem ahe{ys:List IV}{bs:List (Nat×Nat)}(h:All2 (λy (p:Nat×Nat)=>∃id cs,φ p.1=aa id/\L[p.1]?=aa (.var cs)/\y=.ptr id 0 0 p.2) ys bs):All2 (VR (au P ν) R φ L σ) ys (bs.map λ(p:Nat×Nat)=>.one (.pt p.1 0 p.2)):=
 h.map (f:=λ(p:Nat×Nat)=>PV.one (Cl.pt p.1 0 p.2)) λ_ _ h=>h
theorem kG{x:IV}{g:FuncId}{bs:List (Nat×Nat)}{args:List IV}{fn:Func}(hx:VR (au P ν) R φ L σ x (.one (.fn g bs)))(bV:P.funcs[g]?=aa fn)(hb:fn.body.isSome=ab)(lK:(fn.name != "runtime.NumGoroutine")=ab):
 ∃ys,gD P x args=aa (.enter g (args++ys))/\All2 (VR (au P ν) R φ L σ) ys (bs.map λ(p:Nat×Nat)=>.one (.pt p.1 0 p.2)):=by
 rcases hx with⟨rfl,rfl⟩|⟨ys,rfl,h⟩
 ·refine⟨[],?_,trivial⟩;simp only[gD,bV,hb,lK,Array.size_empty,as9];simp
 ·refine⟨ys,?_,ahe h⟩;simp only[gD,bV,hb,lK,List.nil_append,Bool.and_self,if_true]
theorem Gr{xs ys:List IV}(h:All2 (bn ab R σ) xs ys):Eh ab σ xs ys:=⟨h.len,λ_ _ _ h1 h2=>(h.get h1 h2).can⟩
def aoX(P:Program)(C:Cr)(Q:IV->Prop)(K:List (List IV->Prop))(ν:List IV)(E:Nat->Env)(lv:Nat×Nat)(k:PV SE->SS->ak)(φ:Ph)(σ:St)(res:FuncId->List IV->Prop):Prop:=
 ∃g args z R1 pv V1 μ,res g args/\(∀ro,gP P ro g args σ z σ)/\J (au P (ν++μ)) R1 φ V1.g V1.l E σ/\VR (au P (ν++μ)) R1 φ V1.l σ z pv/\(ν++μ).length=V1.n/\V1.ln=lv/\(k pv V1).sat P C Q K (ν++μ)
theorem Qi(hC:jr P C)(hJ:J (au P ν) R φ V.g V.l E σ)(hn:ν.length=V.n){c:Call}{f:Operand}{g:FuncId}(ho:o.op=.call c)(hc:c.callee=.value f)(hf:bO P d V 0 f=.one (.fn g [])){zs:List SE}{V':SS}{fn:Func}
 (hr:tW V (iz P d V c.args.toList c.argTypes.toList)=aa (zs,V'))(bV:P.funcs[g]?=aa fn)(hb:fn.body.isSome=ab)(lK:(fn.name != "runtime.NumGoroutine")=ab)(ht:BV (iz P d V c.args.toList c.argTypes.toList)=ab)
 (hs:(ak.call g (!(iz P d V c.args.toList c.argTypes.toList).all oY) (d_ zs) (Oi P fn {V' with n:=V'.n+1} (.var V'.n) k)).sat P C Q K ν):
 aoX P C Q K ν E V.ln k φ σ (λg args=>av P 0 (ax (E d)) o σ=aa (.enter g args)):=by
 obtain⟨xs,z,h1,h2,h3⟩:=hs;obtain⟨jE,hpz,htu⟩:=(hC _ _ _ _ h2).1 (atI.1 bV).1;have bp:=fV hJ d c.args.toList c.argTypes.toList;have oL:=bo hJ d 0 f;rw[hf]at oL;obtain⟨ys,iV,qZ⟩:=kG (args:=c.args.toList.map (ax (E d))) oL bV hb lK
 have yP:ys=[]:=by
  cases ys with
  |nil=>rfl
  |cons=>exact qZ.elim
 subst yP;rw[as9]at iV
 have eB:av P 0 (ax (E d)) o σ=aa (.enter g (c.args.toList.map (ax (E d)))):=by
  simp only[av,ho,hc];exact iV
 have aoY:fn.resultTypes.size≠1->Ot fn.resultTypes.size z=ab:=by
  intro aW;unfold aO at htu;rw[bV]at htu;simp only[Bool.or_eq_true,beq_iff_eq]at htu;exact htu.resolve_left aW
 have p8:∀{us:List IV},All2 (λ(z:SE) y=>z.den P ν=aa y) zs us->xs=us:=by
  intro us hu;unfold iY at h1;rw[eL hu]at h1;cases h1;rfl
 obtain⟨R1,cw,bD,jR⟩:=Bi hJ hr ht;obtain⟨us,b1,b2⟩:=jR _ bp;have jf:=p8 b1;subst jf
 have ahf:∀ro,gP P ro g (c.args.toList.map (ax (E d))) σ z σ:=by
  intro ro;by_cases bg:(iz P d V c.args.toList c.argTypes.toList).all oY=ab
  ·rw[bg]at jE;obtain⟨_,mZ⟩:=xz (P:=P) (ν:=ν) (R:=R) (φ:=φ) (σ:=σ) hr bg;obtain⟨pQ,c1,c2⟩:=mZ bp;have:=p8 c1;subst this;exact fm.akK jE c2
  ·have hf:(iz P d V c.args.toList c.argTypes.toList).all oY=af:=by simpa using bg
   rw[hf]at jE;exact fm.FO jE (Gr b2)
 have dO:ν.length=V'.n:=by rw[hn,cw.2.1]
 have ff:=bD.up (iv:=au P (ν++[z])) (λe y h=>SE.c9 P e h);have iG:(SE.var V'.n).den P (ν++[z])=aa z:=by simp[SE.den,<-dO]
 obtain⟨pv,hk,hv⟩:=acj (R:=R1) (φ:=φ) (L:=V'.l) (σ:=σ) iG hpz aoY h3;exact⟨g,_,z,R1,pv,{V' with n:=V'.n+1},[z],eB,ahf,ff,hv,by simp[dO],cw.2.2.1,hk⟩
theorem MX(hC:jr P C)(hJ:J (au P ν) R φ V.g V.l E σ)(hn:ν.length=V.n){c:Call}{f:Operand}{g:FuncId}(ho:o.op=.call c)(hc:c.callee=.value f)(hf:bO P d V 0 f=.one (.fn g []))
 (hs:(PK P g (iz P d V c.args.toList c.argTypes.toList) V k).sat P C Q K ν):
 ∃args v aq R1 dI pv V1 μ,av P 0 (ax (E d)) o σ=aa (.enter g args)/\(∀ro,gP P ro g args σ v aq)/\(aq=σ\/∃ob,aq=σ.add ob)/\J (au P (ν++μ)) R1 dI V1.g V1.l E aq/\VR (au P (ν++μ)) R1 dI V1.l aq v pv/\(ν++μ).length=V1.n/\V1.ln=V.ln/\(k pv V1).sat P C Q K (ν++μ):=by
 unfold PK at hs;split at hs<;>first|(exact hs.elim)|skip
 rename_i zs V' fn hr bV;split at hs<;>first|(exact hs.elim)|skip
 rename_i bQ;simp only[asN]at bQ;obtain⟨ht,hb,lK⟩:=bQ;obtain⟨xs,z,h1,h2,h3⟩:=hs;obtain⟨es,rfl,IF⟩:=(hC _ _ _ _ h2).2.2.2.2.1 g (atI.1 bV).1 rfl;have bp:=fV hJ d c.args.toList c.argTypes.toList;have oL:=bo hJ d 0 f;rw[hf]at oL;obtain⟨ys,iV,qZ⟩:=kG (args:=c.args.toList.map (ax (E d))) oL bV hb lK
 have yP:ys=[]:=by
  cases ys with
  |nil=>rfl
  |cons=>exact qZ.elim
 subst yP;rw[as9]at iV
 have eB:av P 0 (ax (E d)) o σ=aa (.enter g (c.args.toList.map (ax (E d)))):=by
  simp only[av,ho,hc];exact iV
 obtain⟨R1,cw,kR,jR⟩:=Bi hJ hr ht;obtain⟨us,c1,c2⟩:=jR _ bp
 have jf:xs=us:=by
  unfold iY at h1;rw[eL c1]at h1;cases h1;rfl
 subst jf;have dO:ν.length=V'.n:=by rw[hn,cw.2.1]
 have bD:=kR.up (iv:=au P (ν++[IV.tree (cP P g) es])) (λe y h=>SE.c9 P e h);have iG:(SE.var V'.n).den P (ν++[IV.tree (cP P g) es])=aa (.tree (cP P g) es):=by simp[SE.den,<-dO]
 have jQ:(V'.l++[LO.row (cP P g) af af af (SE.var V'.n)])[V'.l.length]?=aa (.row (cP P g) af af af (.var V'.n)):=by simp
 have qX:∀ro,gP P ro g (c.args.toList.map (ax (E d))) σ _ _:=λro=>IF.FO (ro:=ro) (σ:=σ) (Gr c2);obtain⟨bE,bH,bz,_⟩:=IF;by_cases he:es.isEmpty
 ·have ic:=atY.1 he;subst ic;refine⟨_,_,_,R1,φ,.one (.sr V'.l.length),{V' with n:=V'.n+1,l:=V'.l++[.row (cP P g) af af af (.var V'.n)]},[.tree (cP P g) []],eB,qX,.inl rfl,?_,?_,by simp[dO],cw.2.2.1,h3⟩
  ·exact(bD.Bf (fr:=af) bE iG).2
  ·exact⟨cP P g,af,af,af,_,[],jQ,iG,.inl ⟨xQ kR (asR _),rfl,.inl rfl⟩⟩
 ·have hif:(if es.isEmpty then σ else σ.add (wx es))=σ.add (wx es):=if_neg he;have oL:EX σ.n (cP P g) es=.sl σ.n 0 es.length ah 0 (cP P g):=if_neg he;have hlen:=s7 bH;refine⟨_,_,_,R1,bX φ V'.l.length σ.n,.one (.sr V'.l.length),{V' with n:=V'.n+1,l:=V'.l++[.row (cP P g) af af af (.var V'.n)]},[.tree (cP P g) es],eB,qX,.inr ⟨_,hif⟩,?_,?_,by simp[dO],cw.2.2.1,h3⟩
  ·rw[hif];refine bD.yv (wx es) _ ⟨bE,es,iG,bH,.inr ⟨σ.n,flat es,0,0,by simp[bX],by simp[wx],asR _,by rw[hlen];exact asR _,?_,as6.2 λc hc=>(bz c hc).2,λj x d hx hd=>?_⟩⟩
   ·cases hR:R1 σ.n with
    |none=>rfl
    |some m=>exact absurd (kR.qU _ _ hR) (Nat.lt_irrefl _)
   ·rw[hx]at hd;cases hd;obtain⟨v,rfl⟩:=(bz x (asZ hx)).1;exact .raw _
  ·rw[hif,oL];exact⟨cP P g,af,af,af,_,es,jQ,iG,.inr ⟨σ.n,flat es,0,0,ah,by simp[bX],by simp[wx],by simp,atE _,λ_ _=>hlen.symm,λc hc=>by cases hc⟩⟩
theorem MY(hC:jr P C)(hJ:J (au P ν) R φ V.g V.l E σ)(hn:ν.length=V.n){c:Call}{f:Operand}{g:FuncId}{kt:TypeId}(DH:abO P g=aa kt)(ho:o.op=.call c)(hc:c.callee=.value f)(hf:bO P d V 0 f=.one (.fn g []))
 (hs:(K3 P g kt (iz P d V c.args.toList c.argTypes.toList) V k).sat P C Q K ν):
 ∃args v aq R1 dI pv V1 μ,av P 0 (ax (E d)) o σ=aa (.enter g args)/\(∀ro,gP P ro g args σ v aq)/\(aq=σ\/∃ob,aq=σ.add ob)/\J (au P (ν++μ)) R1 dI V1.g V1.l E aq/\VR (au P (ν++μ)) R1 dI V1.l aq v pv/\(ν++μ).length=V1.n/\V1.ln=V.ln/\(k pv V1).sat P C Q K (ν++μ):=by
 unfold K3 at hs;split at hs<;>first|(exact hs.elim)|skip
 rename_i zs V' fn hr bV;split at hs<;>first|(exact hs.elim)|skip
 rename_i bQ;simp only[asN]at bQ;obtain⟨ht,hb,lK⟩:=bQ;obtain⟨xs,z,h1,h2,h3⟩:=hs;obtain⟨ds,rfl,IF⟩:=(hC _ _ _ _ h2).2.2.2.2.2.1 g (atI.1 bV).1 rfl;have bp:=fV hJ d c.args.toList c.argTypes.toList;have oL:=bo hJ d 0 f;rw[hf]at oL;obtain⟨ys,iV,qZ⟩:=kG (args:=c.args.toList.map (ax (E d))) oL bV hb lK
 have yP:ys=[]:=by
  cases ys with
  |nil=>rfl
  |cons=>exact qZ.elim
 subst yP;rw[as9]at iV
 have eB:av P 0 (ax (E d)) o σ=aa (.enter g (c.args.toList.map (ax (E d)))):=by
  simp only[av,ho,hc];exact iV
 obtain⟨R1,cw,kR,jR⟩:=Bi hJ hr ht;obtain⟨us,c1,c2⟩:=jR _ bp
 have jf:xs=us:=by
  unfold iY at h1;rw[eL c1]at h1;cases h1;rfl
 subst jf;have dO:ν.length=V'.n:=by rw[hn,cw.2.1]
 have eo:¬gI kt=ab:=by
  unfold abO at DH;rw[bV]at DH;simp only at DH;split at DH<;>first|(cases DH;done)|skip
  split at DH<;>first|(cases DH;done)|skip
  split at DH<;>first|(cases DH;done)|skip
  rename_i aW;cases DH;exact aW
 have bD:=kR.up (iv:=au P (ν++[IV.az ds])) (λe y h=>SE.c9 P e h);have iG:(SE.var V'.n).den P (ν++[IV.az ds])=aa (.az ds):=by simp[SE.den,<-dO]
 have qX:∀ro,gP P ro g (c.args.toList.map (ax (E d))) σ _ _:=λro=>IF.FO (ro:=ro) (σ:=σ) (Gr c2);obtain⟨dV,_⟩:=IF;refine⟨_,_,_,R1,bX φ V'.l.length σ.n,.one (.mp V'.l.length),{V' with n:=V'.n+1,l:=V'.l++[.mp kt (.var V'.n)]},[.az ds],eB,qX,.inr ⟨_,rfl⟩,?_,?_,by simp[dO],cw.2.2.1,h3⟩
 ·refine bD.yv (.map (kr ds) ds.length) _ ?_;rw[gR,if_neg eo];refine⟨σ.n,kr ds,ds.length,ds,iG,by simp[bX],kR.rJ,by simp,?_,(qN ds).symm,λi e he=>?_⟩
  ·refine .mk (qN ds) λi e d he hd=>?_;obtain⟨d',wj,rfl⟩:=qM he;rw[hd]at wj;cases wj;obtain⟨kk,v,rfl⟩:=dV d (asZ hd);refine⟨lift v,by simp[zV,qL],?_⟩;show bn ab _ _ (lift v) (lift v);unfold lift;split
   ·exact .agg _ _ rfl λi c e h1 h2=>by
     rw[h1]at h2;cases h2;rw[as4]at h1;obtain⟨u,_,rfl⟩:=asS.1 h1;exact .raw _
   ·exact .raw _
  ·obtain⟨d',wj,rfl⟩:=qM he;obtain⟨kk,v,rfl⟩:=dV d' (asZ wj);rfl
 ·exact⟨σ.n,kt,.var V'.n,by simp[bX],by simp,(if_neg eo).symm⟩
theorem TY{fr:Bool}{u:IV}{v:Value}(h:bn fr R σ u (lift v)):u=lift v:=by
 unfold lift at h⊢;split at h
 ·rename_i cs;obtain⟨xs,rfl,jf⟩:=CI h
  congr 1
  apply awf;intro i;cases hi:xs[i]? with
  |none=>
   rw[auU]at hi;have:=jf.len;exact(auU.2 (by omega)).symm
  |some a=>
   have ai:=(asM.1 hi).1;rw[jf.len]at ai;have hb:=asL ai;have:=jf.get hi hb;rw[hb];simp only[List.getElem_map]at this⊢;rw[cb this]
 ·exact cb h
theorem MZ{es:List (Value×IV×Nat)}{clock:Nat}{ds:List IV}(he:zx R σ es ds)(hc:Canon es clock)(dV:s8 ds):clock=ds.length/\Bh es ds:=by
 refine⟨by rw[hc.1,All2.len he],All2.len he,λi e d h1 hd=>?_⟩;obtain⟨kk,vv,Mg⟩:=dV d (asZ hd);obtain⟨zv,h8,h9⟩:=All2.get he h1 hd;rw[Mg]at h8;simp only[IV.az.injEq,atK,and_true]at h8;obtain⟨h8a,rfl⟩:=h8;exact⟨hc.2 i e h1,vv,TY h9,by rw[Mg,h8a]⟩
theorem Qj(hC:jr P C)(hJ:J (au P ν) R φ V.g V.l E σ)(hn:ν.length=V.n){c:Call}{f:Operand}{g:FuncId}(ho:o.op=.call c)(hc:c.callee=.value f)(hf:bO P d V 0 f=.one (.fn g []))
 (hs:(Wn P g (iz P d V c.args.toList c.argTypes.toList) V k).sat P C Q K ν):
 ∃args v aq R1 dI pv V1 μ,av P 0 (ax (E d)) o σ=aa (.enter g args)/\(∀ro,gP P ro g args σ v aq)/\aq=σ/\J (au P (ν++μ)) R1 dI V1.g V1.l E aq/\VR (au P (ν++μ)) R1 dI V1.l aq v pv/\(ν++μ).length=V1.n/\V1.ln=V.ln/\(k pv V1).sat P C Q K (ν++μ):=by
 have bp:=fV hJ d c.args.toList c.argTypes.toList;unfold Wn at hs;split at hs<;>first|(exact hs.elim)|skip
 rename_i j rest DF;rw[DF]at bp;split at hs<;>first|(exact hs.elim)|skip
 rename_i kt je zs V' fn hj hr bV;split at hs<;>first|(exact hs.elim)|skip
 rename_i bQ;simp only[asN,Bool.not_eq_true']at bQ;obtain⟨⟨ht,j_⟩,hb,lK⟩:=bQ;have eo:¬gI kt=ab:=by rw[j_];simp
 obtain⟨xs,z,h1,h2,h3⟩:=hs;obtain⟨ds,oD,rfl,l5⟩:=(hC _ _ _ _ h2).2.2.2.2.2.2 g (atI.1 bV).1 rfl;have oL:=bo hJ d 0 f;rw[hf]at oL;obtain⟨ys,iV,qZ⟩:=kG (args:=c.args.toList.map (ax (E d))) oL bV hb lK
 have yP:ys=[]:=by
  cases ys with
  |nil=>rfl
  |cons=>exact qZ.elim
 subst yP;rw[as9]at iV
 have eB:av P 0 (ax (E d)) o σ=aa (.enter g (c.args.toList.map (ax (E d)))):=by
  simp only[av,ho,hc];exact iV
 generalize M0:c.args.toList.map (ax (E d))=al at bp eB;cases al with
 |nil=>exact bp.elim
 |cons a al=>
  obtain⟨zW,gr⟩:=bp;obtain⟨id,mc,gZ,g1,g2,g3⟩:=zW;rw[hj]at g2;cases g2;rw[if_neg eo]at g3;subst g3;have dH:=hJ.obj j _ hj;rw[gR,if_neg eo]at dH;obtain⟨bB,es,clock,mQ,c1,c2,c3,c4,c5,c6⟩:=dH;rw[g1]at c2;cases c2;have kQ:je.den P ν=aa (.az mQ):=c1;obtain⟨R1,cw,kR,jR⟩:=Bi hJ hr ht;obtain⟨us,e1,e2⟩:=jR _ gr
  have jf:IV.az ds::oD=.az mQ::us:=by
   have bg:All2 (λ(z:SE) y=>z.den P ν=aa y) (je::zs) (.az mQ::us):=⟨kQ,e1⟩;unfold iY at h1;rw[eL bg]at h1;cases h1;rfl
  simp only[atK,IV.az.injEq]at jf;obtain⟨rfl,rfl⟩:=jf;have dO:ν.length=V'.n:=by rw[hn,cw.2.1]
  have bD:=kR.up (iv:=au P (ν++[z])) (λe y h=>SE.c9 P e h);have iG:(SE.var V'.n).den P (ν++[z])=aa z:=by simp[SE.den,<-dO]
  obtain⟨ek,yc⟩:=MZ c5 c6 l5.1;subst ek;obtain⟨vz,rfl,wK⟩:=l5.2.1;exact⟨_,.raw vz,σ,R1,φ,.one (.v (.var V'.n)),{V' with n:=V'.n+1},[.raw vz],eB,λro=>l5.call c4 yc (Gr e2),rfl,bD,⟨.raw vz,iG,.raw _,wK⟩,by simp[dO],cw.2.2.1,h3⟩
theorem eZ(e:Env)(dst:Option Nat)(x:IV):(e.put dst x).n=e.n:=by simp[Env.nS]
theorem CN{V1:SS}{x:IV}{pv:PV SE}{dst:Option Nat}(hJ:J (au P ν) R φ V1.g V1.l E σ)(hx:VR (au P ν) R φ V1.l σ x pv)(hd:∀t,dst=aa t->t<(E d).n):J (au P ν) R φ (V1.bP d dst pv).g (V1.bP d dst pv).l (ri E d ((E d).put dst x)) σ:=by
 cases dst with
 |none=>exact hJ.Wa (GX:=V1.g) d ah x (λt h=>by cases h) (λ_=>rfl)
 |some t=>exact hJ.put d (hd t rfl) hx
theorem CO{V1:SS}{x:IV}{dst:Option Nat}(hJ:J (au P ν) R φ V1.g V1.l E σ):J (au P ν) R φ (V1.jT d dst).g (V1.jT d dst).l (ri E d ((E d).put dst x)) σ:=by
 cases dst with
 |none=>exact hJ.Wa (GX:=V1.g) d ah x (λt h=>by cases h) (λ_=>rfl)
 |some t=>exact hJ.Wa (GX:=BS d t V1.g) d (aa t) x (λt' h=>by cases h;rfl) (λh=>by cases h)
@[simp] theorem EZ(V1:SS)(dst:Option Nat)(pv:PV SE):(V1.bP d dst pv).n=V1.n:=by cases dst<;>rfl
@[simp] theorem Xd(V1:SS)(dst:Option Nat)(pv:PV SE):(V1.bP d dst pv).ln=V1.ln:=by cases dst<;>rfl
@[simp] theorem aog(V1:SS)(dst:Option Nat)(pv:PV SE):(V1.bP d dst pv).l=V1.l:=by cases dst<;>rfl
@[simp] theorem E3(V1:SS)(dst:Option Nat):(V1.jT d dst).n=V1.n:=by cases dst<;>rfl
@[simp] theorem CP(V1:SS)(dst:Option Nat):(V1.jT d dst).ln=V1.ln:=by cases dst<;>rfl
theorem J.refine(hJ:J (au P ν) R φ V.g V.l E σ){t:Nat}{e:SE}{b:Bool}(hg:cA d t V.g=aa (.one (.v e))\/∃f,cA d t V.g=aa (.one (.w f e)))(he:e.den P ν=aa (.bool b)):(E d).at t=.raw (.bool b)/\J (au P ν) R φ (V.bP d (aa t) (.one (.v (.b b)))).g V.l E σ:=by
 have aE:(E d).at t=.raw (.bool b):=by
  rcases hg with hg|⟨f,hg⟩
  ·obtain⟨y,h1,h2,_⟩:=hJ.slot d t _ hg;have c8:e.den P ν=aa y:=h1;rw[he]at c8;cases c8;exact cb h2
  ·obtain⟨y,h1,h2,_⟩:=hJ.slot d t _ hg;have c8:e.den P ν=aa y:=h1;rw[he]at c8;cases c8;exact cb h2
 refine⟨aE,{hJ with slot:=λd' t' Dy E4=>?_}⟩;rcases nL E4 with⟨rfl,rfl,rfl⟩|⟨_,h3⟩
 ·exact⟨.raw (.bool b),rfl,by rw[aE];exact .raw _,rfl⟩
 ·exact hJ.slot d' t' Dy (HF V.g h3).2
theorem Qk(hJ:J (au P ν) R φ V.g V.l E σ)(ct:(E d).n=V.nt){ops:Array Oper}:
 (tU ops d V o=.run->aQ o ops (E d)=ab)/\(tU ops d V o=.skip->aQ o ops (E d)=af)/\
 ∀t e want,tU ops d V o=.test t e want->(cA d t V.g=aa (.one (.v e))\/∃f,cA d t V.g=aa (.one (.w f e)))/\∀b,(E d).at t=.raw (.bool b)->aQ o ops (E d)=(b==want):=by
 unfold tU aQ;cases o.guard with
 |none=>simp
 |some p=>
  obtain⟨j,want⟩:=p;simp only;cases hd:(ops[j]?).bind (·.dst)with
  |none=>simp
  |some t=>
   simp only;by_cases ai:atQ t V.nt=ab
   ·rw[ct,ai];simp only[Bool.not_true,if_true];cases hg:cA d t V.g with
    |none=>simp
    |some pv=>
     have hs:=hJ.slot d t pv hg;cases pv with
     |ag|tu=>simp
     |one c=>
      cases c with
      |v e=>
       cases e with
       |b x=>
        obtain⟨y,h1,h2,_⟩:=hs;simp only[au,SE.den,asP]at h1;subst h1;rw[cb h2];simp only;refine⟨λh=>?_,λh=>?_,λt e w h=>?_⟩
        ·simp only[atn,if_false]at h;split at h
         ·assumption
         ·cases h
        ·simp only[atn,if_false]at h;split at h
         ·cases h
         ·rename_i hh;simpa using hh
        ·simp only[atn,if_false]at h;split at h<;>cases h
       |_=>
        refine⟨λh=>by simp at h,λh=>by simp at h,λt' e' w' h=>?_⟩;simp only[atn,if_false,Want.test.injEq]at h;obtain⟨rfl,rfl,rfl⟩:=h;exact⟨.inl hg,λb hb=>by rw[hb]⟩
      |w f e=>
       refine⟨λh=>by simp at h,λh=>by simp at h,λt' e' w' h=>?_⟩;simp only[atn,if_false,Want.test.injEq]at h;obtain⟨rfl,rfl,rfl⟩:=h;exact⟨.inr ⟨f,hg⟩,λb hb=>by rw[hb]⟩
      |_=>simp
   ·have gk:atQ t V.nt=af:=by cases h:atQ t V.nt;rfl;exact absurd h ai
    rw[gk];simp
end Go.Ev
namespace Go.Ev
variable{P:Program}{N:Nat}{σ ao:St}{R R':Rs}{φ aL:Ph}{E:Nat->Env}{ν:List IV}{ro:Nat}{ι:Io}{w:World}{cfg:a_}{self:nX}
variable{C:Cr}{Q:IV->Prop}{K:List (List IV->Prop)}{V:SS}{d f0:Nat}{o:Oper}{k:PV SE->SS->ak}{L:List (LO SE)}{Γ:Gm SE}{rd:Option Nat}{df:List Df}
def XR(P:Program)(ν:List IV)(R:Rs)(φ:Ph)(L:List (LO SE))(σ:St):zC->Ex->Prop
 |.normal,x=>x=.normal
 |.exit i,x=>x=.exit i
 |.ret,x=>x=.ret
 |.b_ t pv,x=>∃v,x=.b_ (.du t v)/\VR (au P ν) R φ L σ v pv
structure wy(P:Program)(d:Nat)(E:Nat->Env)(K:List (List IV->Prop))(ν:List IV)(nt:Nat)(V':SS)(μ:List IV)(K':List (List IV->Prop))(R':Rs)(aL:Ph)(E':Nat->Env)(ao:St):Prop where
 hK:K<+:K'
 f_:K'.length=V'.lv
 ct:V'.nt=nt
 hJ:J (au P (ν++μ)) R' aL V'.g V'.l E' ao
 hn:(ν++μ).length=V'.n
 hE:∀j,j<d->E' j=E j
 Jz:(E' d).n=(E d).n
def KW(P:Program)(C:Cr)(Q:IV->Prop)(d:Nat)(E:Nat->Env)(K:List (List IV->Prop))(ν:List IV)(nt:Nat)(k:zC->SS->ak)(CW:Nat->kc):Prop:=
 ∀ex (V':SS) μ K' R' aL E' ao x,wy P d E K ν nt V' μ K' R' aL E' ao->XR P (ν++μ) R' aL V'.l ao ex x->(k ex V').sat P C Q K' (ν++μ)->∃b,∀N,b<=N->ao.n<=N/\CW N x (E' d) ao
def KP(P:Program)(C:Cr)(Q:IV->Prop)(d:Nat)(E:Nat->Env)(K:List (List IV->Prop))(ν:List IV)(nt:Nat)(kx:Kx)(CW:Nat->IV->Env->St->Prop):Prop:=
 ∀t pv (V':SS) μ K' R' aL E' ao v,wy P d E K ν nt V' μ K' R' aL E' ao->VR (au P (ν++μ)) R' aL V'.l ao v pv->(kx t pv V').sat P C Q K' (ν++μ)->∃b,∀N,b<=N->ao.n<=N/\CW N (.du t v) (E' d) ao
def KS(P:Program)(C:Cr)(Q:IV->Prop)(d:Nat)(E:Nat->Env)(K:List (List IV->Prop))(ν:List IV)(nt:Nat)(k:SS->ak)(CW:Nat->Env->St->Prop):Prop:=
 ∀(V':SS) μ K' R' aL E' ao,wy P d E K ν nt V' μ K' R' aL E' ao->(k V').sat P C Q K' (ν++μ)->∃b,∀N,b<=N->ao.n<=N/\CW N (E' d) ao
def pI(P:Program)(C:Cr)(Q:IV->Prop)(self:nX):Prop:=
 ∀d f c (V:SS) k ν K R φ E σ CW rd df,(self d f c V k).sat P C Q K ν->J (au P ν) R φ V.g V.l E σ->ν.length=V.n->K.length=V.lv->(E d).n=V.nt->KW P C Q d E K ν V.nt k CW->∃b,∀N,b<=N->dL P N rd c (E d) df σ (CW N)
theorem wy.trans{nt:Nat}{V1 V2:SS}{zX μ2:List IV}{K1 K2:List (List IV->Prop)}{R1 R2:Rs}{dI DC:Ph}{E1 E2:Nat->Env}{aq dw:St}(h1:K<+:K1)(h2:∀j,j<d->E1 j=E j)(h3:(E1 d).n=(E d).n)
 (h:wy P d E1 K1 (ν++zX) nt V2 μ2 K2 R2 DC E2 dw):wy P d E K ν nt V2 (zX++μ2) K2 R2 DC E2 dw where
 hK:=h1.trans h.hK
 f_:=h.f_
 ct:=h.ct
 hJ:=by rw[<-atf];exact h.hJ
 hn:=by rw[<-atf];exact h.hn
 hE:=λj hj=>(h.hE j hj).trans (h2 j hj)
 Jz:=h.Jz.trans h3
theorem KW.fwd{nt:Nat}{kk:zC->SS->ak}{CW:Nat->kc}{zX:List IV}{K1:List (List IV->Prop)}{E1:Nat->Env}(h:KW P C Q d E K ν nt kk CW)(h1:K<+:K1)(h2:∀j,j<d->E1 j=E j)(h3:(E1 d).n=(E d).n):KW P C Q d E1 K1 (ν++zX) nt kk CW:=
 λex V' μ K' R' aL E' ao x hf hx hs=>h ex V' (zX++μ) K' R' aL E' ao x (wy.trans (V1:=V') (R1:=R') (dI:=aL) (aq:=ao) h1 h2 h3 hf) (by rw[<-atf];exact hx) (by rw[<-atf];exact hs)
theorem KP.fwd{nt:Nat}{kk:Kx}{CW:Nat->IV->Env->St->Prop}{zX:List IV}{K1:List (List IV->Prop)}{E1:Nat->Env}(h:KP P C Q d E K ν nt kk CW)(h1:K<+:K1)(h2:∀j,j<d->E1 j=E j)(h3:(E1 d).n=(E d).n):KP P C Q d E1 K1 (ν++zX) nt kk CW:=
 λt pv V' μ K' R' aL E' ao v hf hv hs=>h t pv V' (zX++μ) K' R' aL E' ao v (wy.trans (V1:=V') (R1:=R') (dI:=aL) (aq:=ao) h1 h2 h3 hf) (by rw[<-atf];exact hv) (by rw[<-atf];exact hs)
theorem KW.kp{nt:Nat}{kk:zC->SS->ak}{CW:Nat->kc}(h:KW P C Q d E K ν nt kk CW):KP P C Q d E K ν nt (λt pv V=>kk (.b_ t pv) V) (λN v e σ=>CW N (.b_ v) e σ):=
 λt pv V' μ K' R' aL E' ao v hf hv hs=>h (.b_ t pv) V' μ K' R' aL E' ao _ hf ⟨v,rfl,hv⟩ hs
theorem KS.fwd{nt:Nat}{kk:SS->ak}{CW:Nat->Env->St->Prop}{zX:List IV}{K1:List (List IV->Prop)}{E1:Nat->Env}(h:KS P C Q d E K ν nt kk CW)(h1:K<+:K1)(h2:∀j,j<d->E1 j=E j)(h3:(E1 d).n=(E d).n):KS P C Q d E1 K1 (ν++zX) nt kk CW:=
 λV' μ K' R' aL E' ao hf hs=>h V' (zX++μ) K' R' aL E' ao (wy.trans (V1:=V') (R1:=R') (dI:=aL) (aq:=ao) h1 h2 h3 hf) (by rw[<-atf];exact hs)
theorem wy.here(hJ:J (au P ν) R φ V.g V.l E σ)(hn:ν.length=V.n)(hK:K.length=V.lv):wy P d E K ν V.nt V [] K R φ E σ:=
 ⟨List.prefix_refl _,hK,rfl,by rw[as9];exact hJ,by rw[as9];exact hn,λ_ _=>rfl,rfl⟩
theorem KS.now{kk:SS->ak}{CW:Nat->Env->St->Prop}(h:KS P C Q d E K ν V.nt kk CW)(hJ:J (au P ν) R φ V.g V.l E σ)(hn:ν.length=V.n)(hK:K.length=V.lv)(hs:(kk V).sat P C Q K ν):∃b,∀N,b<=N->σ.n<=N/\CW N (E d) σ:=
 h V [] K R φ E σ (.here hJ hn hK) (by rw[as9];exact hs)
theorem KW.now{kk:zC->SS->ak}{CW:Nat->kc}(h:KW P C Q d E K ν V.nt kk CW)(hJ:J (au P ν) R φ V.g V.l E σ)(hn:ν.length=V.n)(hK:K.length=V.lv){ex:zC}{x:Ex}(hx:XR P ν R φ V.l σ ex x)(hs:(kk ex V).sat P C Q K ν):∃b,∀N,b<=N->σ.n<=N/\CW N x (E d) σ:=
 h ex V [] K R φ E σ x (.here hJ hn hK) (by rw[as9];exact hx) (by rw[as9];exact hs)
theorem Zp(hJ:J (au P ν) R φ V.g V.l E σ){t:TypeId}{pa pv:PV SE}{x:IV}(hx:VR (au P ν) R φ V.l σ x pa)(hl:PJ P t pa V=aa pv):
 ∃id off ext s cJ v,x=.ptr id off 0 ext/\aN P t=aa s/\σ.at id=aa (.cells cJ 0 0)/\s<=ext/\partOf P t cJ off=aa v/\VR (au P ν) R φ V.l σ v pv:=by
 unfold PJ at hl;split at hl<;>first|(cases hl;done)|skip
 rename_i s b j off ext aU DF;split at hl<;>first|(cases hl;done)|skip
 rename_i cs hj;split at hl<;>first|(cases hl;done)|skip
 rename_i hle;simp only[asN,auw]at hle;obtain⟨id,qQ,h1,h2,rfl⟩:=hx;obtain⟨bB,cJ,h3,h4,h5,h6⟩:=hJ.obj j _ hj;rw[h1]at h3;cases h3
 have qW:if isAgg P t=ab then pv=.ag ((cs.drop off).take s)else∃c,(cs.drop off).take s=[c]/\pv=.one c:=by
  split at hl
  ·rename_i ha;cases hl;rw[if_pos ha]
  ·rename_i ha;rw[if_neg ha];split at hl
   ·rename_i c hc;cases hl;exact⟨c,hc,rfl⟩
   ·cases hl
 obtain⟨v,hv,hr⟩:=sZ aU DF h6 hle.2 qW;exact⟨id,off,ext,s,cJ,v,rfl,aU,h5,hle.1,hv,hr⟩
def wL(P:Program)(e:Env)(σ:St)(r:ResultVar):Option IV:=
 match r with
 |.tmp t=>aa (e.at t)
 |.cell a t=>match e.at a with
  |.ptr id off ep ext=>match aN P t,σ.at id with
   |some s,aa (.cells cs ay mn)=>if s<=ext/\mn<=ep/\ep<=ay then partOf P t cs off else ah
   |_,_=>ah
  |_=>ah
theorem lX(hJ:J (au P ν) R φ V.g V.l E σ):∀{rs:List ResultVar} {dp:List (PV SE)},lR P d V rs=aa dp->∃vs,rs.mapM (wL P (E d) σ)=aa vs/\All2 (VR (au P ν) R φ V.l σ) vs dp
 |[],dp,h=>by
  simp only[lR,asP]at h;subst h;exact⟨[],rfl,trivial⟩
 |.tmp t::rs,dp,h=>by
  simp only[lR]at h;split at h
  ·rename_i jJ hp;cases h;obtain⟨vs,h1,h2⟩:=lX hJ hp;refine⟨(E d).at t::vs,by simp[auS,wL,h1],?_,h2⟩;exact bo hJ d 0 (.tmp t)
  ·cases h
 |.cell a t::rs,dp,h=>by
  simp only[lR]at h;split at h
  ·rename_i pa Ji;split at h
   ·rename_i pv jJ hl hp;cases h;obtain⟨vs,h1,h2⟩:=lX hJ hp;obtain⟨id,off,ext,s,cJ,v,g1,g2,g3,g4,g5,g6⟩:=Zp hJ (hJ.slot d a pa Ji) hl;refine⟨v::vs,?_,g6,h2⟩;have:wL P (E d) σ (.cell a t)=aa v:=by simp[wL,g1,g2,g3,g4,g5]
    simp[auS,this,h1]
   ·cases h
  ·cases h
def E5:List IV->IV
 |[v]=>v
 |l=>.az l
theorem Ls{vs:List IV}{dp:List (PV SE)}(h:All2 (VR (au P ν) R φ L σ) vs dp):VR (au P ν) R φ L σ (E5 vs) (EC dp):=by
 have conv:∀{x:IV} {pv:PV SE},VR (au P ν) R φ L σ x pv->tP (au P ν) R φ L σ x (match pv with|.one c=>(af,[c])|.ag cs=>(ab,cs)|.tu _=>(af,[.un])):=by
  intro x pv hx;cases pv with
  |one c=>exact⟨c,rfl,hx⟩
  |ag cs=>exact hx
  |tu vs=>exact⟨.un,rfl,trivial⟩
 match vs,dp,h with
 |[],[],_=>trivial
 |[v],[pv],h=>exact h.1
 |v::v'::vs,pv::Dy::dp,h=>exact⟨_,rfl,h.map λ_ _ bS=>conv bS⟩
theorem kS{fn:Func}{e:Env}{vs:List IV}(h:fn.results.toList.mapM (wL P e σ)=aa vs):bJ P fn e σ=aa (E5 vs):=by
 unfold bJ;simp only
 have asD:∀r,(match r with
  |ayA t=>aa (e.at t)
  |ayB a t=>match e.at a with
   |.ptr id off ep ext=>match aN P t,σ.at id with
    |some s,aa (.cells cs ay mn)=>if s<=ext/\mn<=ep/\ep<=ay then partOf P t cs off else ah
    |_,_=>ah
   |_=>ah)=wL P e σ r:=λr=>rfl
 generalize hl:fn.results.toList=l at h⊢
 match l,h with
 |[],h=>simp[awM]at h;subst h;rfl
 |[r],h=>
  simp only[auS,awM]at h;cases ho:wL P e σ r with
  |none=>rw[ho]at h;simp at h
  |some v=>rw[ho]at h;simp at h;subst h;exact ho
 |r::r'::rs,h=>
  have hlen:∃v v' wQ,vs=v::v'::wQ:=by
   simp only[auS]at h;cases h1:wL P e σ r with
   |none=>rw[h1]at h;simp at h
   |some v=>
    cases h2:wL P e σ r' with
    |none=>rw[h1,h2]at h;simp at h
    |some v'=>
     cases h3:rs.mapM (wL P e σ)with
     |none=>rw[h1,h2,h3]at h;simp at h
     |some wQ=>rw[h1,h2,h3]at h;simp at h;exact⟨v,v',wQ,h.symm⟩
  obtain⟨v,v',wQ,rfl⟩:=hlen;have h':(r::r'::rs).mapM (wL P e σ)=aa (v::v'::wQ):=h;have e2:(match(r::r'::rs).mapM (wL P e σ)with|some vs=>aa (IV.az vs)|none=>ah)=aa (E5 (v::v'::wQ)):=by rw[h'];rfl
  exact e2
end Go.Ev
namespace Go.Ev
variable{P:Program}{N:Nat}{σ ao:St}{R R':Rs}{φ aL:Ph}{E:Nat->Env}{ν:List IV}{ro:Nat}{ι:Io}{w:World}{cfg:a_}{self:nX}
variable{C:Cr}{Q:IV->Prop}{K:List (List IV->Prop)}{V:SS}{d f0:Nat}{o:Oper}{k:PV SE->SS->ak}{L:List (LO SE)}{Γ:Gm SE}{rd:Option Nat}{df:List Df}
theorem gK(E:Nat->Env)(d:Nat)(e:Env){j:Nat}(h:j≠d):ri E d e j=E j:=by simp[ri,h]
theorem G8{α:Type}{d t:Nat}{pv:PV α}:∀{g h:List (Nat×Nat×PV α)},cA d t (g++h)=aa pv->cA d t g=aa pv\/cA d t h=aa pv
 |[],h,hg=>.inr hg
 |(a,b,q)::g,h,hg=>by
  simp only[List.cons_append,cA]at hg⊢;split at hg
  ·rename_i hc;rw[if_pos hc];exact .inl hg
  ·rename_i hc;rw[if_neg hc];exact G8 hg
theorem fK{α:Type}{d d' t:Nat}{pv:PV SE}:∀{dp:List (PV SE)} {j:Nat},cA d' t (setArgs d j dp)=aa pv->d'=d/\j<=t/\dp[t- j]?=aa pv
 |[],j,h=>by cases h
 |q::dp,j,h=>by
  simp only[setArgs]at h;rcases nL h with⟨rfl,rfl,rfl⟩|⟨aW,h2⟩
  ·simp
  ·obtain⟨rfl,h3,h4⟩:=fK (α:=α) h2;refine⟨rfl,by omega,?_⟩;rw[show t- j=(t-(j+1))+1 by omega];simpa using h4
theorem uH{d d' t:Nat}{pv:PV SE}:∀{g:List (Nat×Nat×PV SE)},cA d' t (jU d g)=aa pv->d'≠d/\cA d' t g=aa pv
 |[],h=>by cases h
 |(a,b,q)::g,h=>by
  simp only[jU]at h;split at h
  ·rename_i hc;have yd:=asV hc;obtain⟨h1,h2⟩:=uH h;refine⟨h1,?_⟩;unfold cA;rw[if_neg]
   ·exact h2
   ·simp only[asN,atv];rintro⟨rfl,_⟩;exact h1 yd
  ·rename_i hc;have yd:a≠d:=by intro h;subst h;simp at hc
   rcases nL h with⟨rfl,rfl,rfl⟩|⟨aW,h2⟩
   ·exact⟨yd,by simp[cA]⟩
   ·obtain⟨h3,h4⟩:=uH h2;refine⟨h3,?_⟩;unfold cA;rw[if_neg (by simpa only[asN,atv]using aW)];exact h4
theorem JA:∀(args:List IV) (j:Nat) (e:Env) (t:Nat),j+args.length<=e.n->((args.zipIdx j).foldl (λe (p:IV×Nat)=>e.put (aa p.2) p.1) e).n=e.n/\
 (((args.zipIdx j).foldl (λe (p:IV×Nat)=>e.put (aa p.2) p.1) e).at t=if j<=t/\t<j+args.length then(args[t- j]?).getD .undef else e.at t)
 |[],j,e,t,_=>by simp;intro h1 h2;omega
 |a::args,j,e,t,h=>by
  simp only[atG]at h;simp only[List.zipIdx_cons,List.foldl_cons];obtain⟨h1,h2⟩:=JA args (j+1) (e.put (aa j) a) t (by rw[eZ];omega);refine⟨by rw[h1,eZ],?_⟩;rw[h2];by_cases hc:j+1<=t/\t<j+1+args.length
  ·rw[if_pos hc,if_pos ⟨by omega,by simp;omega⟩,show t- j=(t-(j+1))+1 by omega];simp
  ·rw[if_neg hc];by_cases ht:t=j
   ·subst ht;rw[if_pos ⟨asR _,by simp⟩,Env.c_,if_pos ⟨by omega,rfl⟩];simp
   ·rw[if_neg (by simp;omega),Dx _ _ _ _ (by simpa using λh=>ht h.symm)]
theorem cT{args:List IV}{n t:Nat}(h:args.length<=n):(cO args n).n=n/\(t<args.length->(cO args n).at t=(args[t]?).getD .undef):=by
 obtain⟨h1,h2⟩:=JA args 0 ⟨n,.lf⟩ t (by simpa using h);refine⟨h1,λht=>?_⟩;have:=h2;rw[if_pos ⟨atE _,by omega⟩]at this;exact this
theorem Zq(hJ:J (au P ν) R φ V.g V.l E σ){args:List IV}{dp:List (PV SE)}{n:Nat}(h:All2 (VR (au P ν) R φ V.l σ) args dp)(hl:args.length<=n):
 J (au P ν) R φ (setArgs (d+1) 0 dp++jU (d+1) V.g) V.l (ri E (d+1) (cO args n)) σ:=by
 refine{hJ with slot:=λd' t pv hg=>?_};rcases G8 hg with hg|hg
 ·obtain⟨rfl,_,h3⟩:=fK (α:=IV) hg;have ht:t<args.length:=by rw[h.len];have:=(asM.1 h3).1;simpa using this
  rw[cm,(cT hl).2 ht,asL ht];exact h.get (asL ht) (by simpa using h3)
 ·obtain⟨h1,h2⟩:=uH hg;rw[gK _ _ _ h1];exact hJ.slot d' t pv h2
theorem zY(hJ:J (au P ν) R φ V.g V.l E σ)(d:Nat):J (au P ν) R φ (jU d V.g) V.l E σ:=hJ.less λ_ _ _ h=>(uH h).2
theorem CQ(bj:pI P C Q self)(hJ:J (au P ν) R φ V.g V.l E σ)(hn:ν.length=V.n)(hK:K.length=V.lv)(ct:(E d).n=V.nt){g:FuncId}{dst:Option Nat}{args:List IV}{dp:List (PV SE)}(bp:All2 (VR (au P ν) R φ V.l σ) args dp)
 {kx:Kx}(hs:(sU P cfg self kx d f0 dst g dp V k).sat P C Q K ν){RW PW:Nat->IV->St->Prop}
 (hk:∀(pv:PV SE) (V':SS) μ K' R' aL E' ao v,wy P d E K ν V.nt V' μ K' R' aL E' ao->E' d=E d->VR (au P (ν++μ)) R' aL V'.l ao v pv->(k pv V').sat P C Q K' (ν++μ)->∃b,∀N,b<=N->ao.n<=N/\RW N v ao)
 (Zr:∀t (pv:PV SE) (V':SS) μ K' R' aL E' ao v,wy P d E K ν V.nt V' μ K' R' aL E' ao->E' d=E d->VR (au P (ν++μ)) R' aL V'.l ao v pv->(kx t pv V').sat P C Q K' (ν++μ)->∃b,∀N,b<=N->ao.n<=N/\PW N (.du t v) ao):
 ∃fn,P.funcs[g]?=aa fn/\fn.body.isSome=ab/\(fn.name != "runtime.NumGoroutine")=ab/\∃b,∀N,b<=N->xg P N g args σ (RW N) (PW N):=by
 unfold sU at hs;split at hs<;>first|(exact hs.elim)|skip
 rename_i fn bV;split at hs<;>first|(exact hs.elim)|skip
 rename_i body hb;split at hs<;>first|(exact hs.elim)|skip
 split at hs<;>first|(exact hs.elim)|skip
 rename_i hc;simp only[asN,auw]at hc;have hl:args.length<=fn.ntmps:=by rw[bp.len];exact hc.1
 refine⟨fn,bV,by simp[hb],hc.2,?_⟩;have bD:=Zq (d:=d) hJ bp hl
 obtain⟨b,sJ⟩:=bj (d+1) _ body {V with g:=setArgs (d+1) 0 dp++jU (d+1) V.g,nt:=fn.ntmps} _ ν K R φ (ri E (d+1) (cO args fn.ntmps)) σ
  (λN ex e1 aq=>aq.n<=N/\(((ex=.normal\/ex=.ret)/\∃v,bJ P fn e1 aq=aa v/\RW N v aq)\/∃v,ex=.b_ v/\PW N v aq)) ah [] hs bD hn hK (by rw[cm,(cT (t:=0) hl).1]) (by
   intro ex V' μ K' R' aL E' ao x hf hx bt;have nN:E' d=E d:=by rw[hf.hE d (by omega),gK _ _ _ (by omega)]
   have main:∀jJ,lR P (d+1) V' fn.results.toList=aa jJ->(k (EC jJ) {V' with g:=jU (d+1) V'.g,nt:=V.nt}).sat P C Q K' (ν++μ)->∃b,∀N,b<=N->ao.n<=N/\ao.n<=N/\∃v,bJ P fn (E' (d+1)) ao=aa v/\RW N v ao:=by
    intro jJ hr dP;obtain⟨vs,h1,h2⟩:=lX hf.hJ hr;have hv:=Ls h2
    obtain⟨b,hb⟩:=hk (EC jJ) {V' with g:=jU (d+1) V'.g,nt:=V.nt} μ K' R' aL E' ao (E5 vs)
     ⟨hf.hK,hf.f_,rfl,zY hf.hJ (d+1),hf.hn,λj hj=>by rw[hf.hE j (by omega),gK _ _ _ (by omega)],by rw[nN]⟩ nN hv dP
    exact⟨b,λN hN=>⟨(hb N hN).1,(hb N hN).1,E5 vs,kS h1,(hb N hN).2⟩⟩
   cases ex with
   |exit i=>exact bt.elim
   |b_ t pv=>
    obtain⟨v,rfl,hv⟩:=hx
    obtain⟨b,hb⟩:=Zr t pv {V' with g:=jU (d+1) V'.g,nt:=V.nt} μ K' R' aL E' ao v
     ⟨hf.hK,hf.f_,rfl,zY hf.hJ (d+1),hf.hn,λj hj=>by rw[hf.hE j (by omega),gK _ _ _ (by omega)],by rw[nN]⟩ nN hv bt
    exact⟨b,λN hN=>⟨(hb N hN).1,(hb N hN).1,.inr ⟨_,rfl,(hb N hN).2⟩⟩⟩
   |normal=>
    obtain rfl:=hx;simp only at bt;split at bt
    ·rename_i jJ hr;obtain⟨b,hb⟩:=main jJ hr bt;exact⟨b,λN hN=>⟨(hb N hN).1,(hb N hN).2.1,.inl ⟨.inl rfl,(hb N hN).2.2⟩⟩⟩
    ·exact bt.elim
   |ret=>
    obtain rfl:=hx;simp only at bt;split at bt
    ·rename_i jJ hr;obtain⟨b,hb⟩:=main jJ hr bt;exact⟨b,λN hN=>⟨(hb N hN).1,(hb N hN).2.1,.inl ⟨.inr rfl,(hb N hN).2.2⟩⟩⟩
    ·exact bt.elim)
 refine⟨b,λN hN=>?_⟩;have:=sJ N hN;rw[cm]at this;exact xg.body bV hb hl this
end Go.Ev
namespace Go.Ev
variable{P:Program}{N:Nat}{σ ao:St}{R R':Rs}{φ aL:Ph}{E:Nat->Env}{ν q0 vs:List IV}{n:Nat}{args:List SE}{eg:List (Nat×Nat)}
theorem aff{q0 a b:List IV}:∀(e:SE),e.wX q0.length=ab->e.den P (q0++a)=e.den P (q0++b):=by
 intro e;induction e with
 |var x=>
  intro h;simp only[SE.wX]at h;have hx:x<q0.length:=by simpa using h
  simp[SE.den,asY hx]
 |i|k|b|s|raw|an=>intro _;rfl
 |ok e ih|sQ _ e ih|bT e _ ih|len e ih|sx e ih|tr _ e ih|tp e ih|proj e _ ih|un _ e ih|cv _ _ e ih|rw e ih|rws e ih=>intro h;simp only[SE.wX]at h;simp only[SE.den,ih h]
 |idx _ e f fJ eV|G2 _ e f _ fJ eV|ac e f fJ eV|cat _ _ e f fJ eV|bin _ _ e f fJ eV|mx _ e f fJ eV|G3 e f fJ eV|has _ e f fJ eV|dec _ e f fJ eV=>
  intro h;simp only[SE.wX,asN]at h;simp only[SE.den,fJ h.1,eV h.2]
 |Ez _ e f g fJ eV Ba|sub _ e f g fJ eV Ba|Py _ e f g fJ eV Ba|HK e f g fJ eV Ba|ins _ e f g fJ eV Ba|get _ e f g fJ eV Ba=>
  intro h;simp only[SE.wX,asN]at h;simp only[SE.den,fJ h.1.1,eV h.1.2,Ba h.2]
structure Ins(P:Program)(n:Nat)(args:List SE)(ν q0 vs:List IV):Prop where
 len:q0.length=n
 pre:∃μ,ν=q0++μ
 args:All2 (λ(e:SE) y=>e.den P ν=aa y) args vs
theorem lu(hI:Ins P n args ν q0 vs){h e:SE}(hc:vu n args h e=ab){y:IV}(hy:e.den P ν=aa y):h.den P (q0++vs)=aa y:=by
 obtain⟨hl,⟨μ,rfl⟩,ha⟩:=hI;unfold vu at hc;split at hc
 ·rename_i x;split at hc
  ·rename_i hx;have iN:x<q0.length:=by rw[hl];simpa using hx
   have:=SE.eq_eq hc;subst this;simp only[SE.den,asY iN]at hy⊢;exact hy
  ·rename_i hx;have iN:n<=x:=by simpa using hx
   split at hc
   ·rename_i a hax;have:=SE.eq_eq hc;subst this;have ai:x- n<vs.length:=by rw[<-ha.len];exact(asM.1 hax).1
    have hv:=ha.get hax (asL ai);rw[hy]at hv;simp only[SE.den];rw[List.getElem?_append_right (by omega),hl,asL ai];exact hv.symm
   ·cases hc
 ·simp only[asN]at hc;obtain⟨h1,h2⟩:=hc;have:=SE.eq_eq h2;subst this;rw[<-hl]at h1;rw[aff (b:=μ) h h1];exact hy
variable{H V:SS}
def ll(φ:Ph)(H:SS)(eg:List (Nat×Nat)):Ph:=λk=>if isLive H.l k=ab then(sA eg k).bind φ else ah
theorem Ql{α:Type}{l:List (Nat×α)}{k:Nat}{a:α}(h:sA l k=aa a):(k,a)∈l:=by
 induction l with
 |nil=>cases h
 |cons p l ih=>
  obtain⟨x,y⟩:=p;simp only[sA]at h;split at h
  ·rename_i hc;cases h;rw[asV hc];simp
  ·exact at6 _ (ih h)
theorem ahg(h:abL eg=ab){k k' e:Nat}(h1:sA eg k=aa e)(h2:sA eg k'=aa e):k=k':=by
 unfold abL at h;rw[as6]at h;have:=h _ (Ql h1);rw[as6]at this;have:=this _ (Ql h2);simpa using this
theorem Lt{l:List (LO SE)}:∀{os:List (LO SE)} {k:Nat},PI n args eg l k os=ab->∀{j:Nat} {o:LO SE},os[j]?=aa o->o≠.dead->∃k' o',sA eg (k+j)=aa k'/\l[k']?=aa o'/\Av n args eg o o'=ab
 |[],k,_,j,o,h,_=>by simp at h
 |a::os,k,hc,j,o,h,hd=>by
  simp only[PI,asN]at hc;cases j with
  |zero=>
   simp at h;subst h;have bN:=hc.1;split at bN
   ·exact absurd rfl hd
   ·split at bN
    ·rename_i k' hk;split at bN
     ·rename_i o' ho;exact⟨k',o',hk,ho,bN⟩
     ·cases bN
    ·cases bN
  |succ j=>
   simp at h;obtain⟨k',o',h1,h2,h3⟩:=Lt hc.2 h hd;exact⟨k',o',by rw[show k+(j+1)=k+1+j by omega];exact h1,h2,h3⟩
theorem Qm{l:List (LO SE)}{k:Nat}(h:isLive l k=ab):∃o,l[k]?=aa o/\o≠.dead:=by
 unfold isLive at h;split at h
 ·cases h
 ·cases h
 ·rename_i h1 h2;cases hk:l[k]? with
  |none=>exact absurd hk h2
  |some o=>exact⟨o,rfl,λhc=>h1 (by rw[hk,hc])⟩
theorem mF{α β:Type}{f:α->α->Bool}{r:β->α->Prop}{r':β->α->Prop}:∀{xs:List β} {as bs:List α},(∀x a b,a∈as->f a b=ab->r x b->r' x a)->mb f as bs=ab->All2 r xs bs->All2 r' xs as
 |[],[],[],_,_,_=>trivial
 |x::xs,a::as,b::bs,hf,h,hx=>by
  simp only[mb,asN]at h;exact⟨hf x a b (by simp) h.1 hx.1,mF (λx a b ha=>hf x a b (by simp[ha])) h.2 hx.2⟩
 |[],a::as,[],_,h,_=>by cases h
 |[],[],b::bs,_,h,_=>by cases h
 |[],_::_,_::_,_,_,hx=>hx.elim
 |_::_,[],[],_,_,hx=>hx.elim
 |_::_,_::_,[],_,h,_=>by cases h
 |_::_,[],_::_,_,h,_=>by cases h
variable(hI:Ins P n args ν q0 vs)(hJ:J (au P ν) R φ V.g V.l E σ)(hL:PI n args eg V.l 0 H.l=ab)
include hI hJ hL
theorem Bj{h e:Cl SE}{x:IV}(zZ:∀k∈tV h,isLive H.l k=ab)(hc:rj n args eg h e=ab)(hx:cI (au P ν) R φ V.l σ x e):cI (au P (q0++vs)) R (ll φ H eg) H.l σ x h:=by
 have key:∀k k',EB eg k k'=ab->isLive H.l k=ab->∃o o',H.l[k]?=aa o/\V.l[k']?=aa o'/\Av n args eg o o'=ab/\ll φ H eg k=φ k':=by
  intro k k' hk hl;obtain⟨o,h1,h2⟩:=Qm hl;obtain⟨k2,o',h3,h4,h5⟩:=Lt hL h1 h2;rw[auf]at h3;unfold EB at hk;rw[h3]at hk;have:=asV hk;subst this;exact⟨o,o',h1,h4,h5,by simp[ll,hl,h3]⟩
 cases h with
 |un=>trivial
 |v a=>
  cases e<;>simp only[rj]at hc<;>first|(cases hc;done)|skip
  ·obtain⟨y,h1,h2⟩:=hx;exact⟨y,lu hI hc h1,h2⟩
  ·rename_i b s;obtain⟨h1,h2⟩:=hx;refine⟨.tree s [],lu hI hc (by simp[SE.den,h1]),?_,rfl⟩;subst h2;cases b
   ·exact .emp s h1
   ·exact .nil s h1
 |w f a=>
  cases e<;>simp only[rj,asN]at hc<;>first|(cases hc;done)|skip
  ·obtain⟨hf,hc⟩:=hc;obtain⟨y,h1,h2,h3⟩:=hx;subst hf;exact⟨y,lu hI hc h1,h2.mono hJ.Bc,h3⟩
  ·rename_i f' b;obtain⟨hf,hc⟩:=hc;obtain⟨y,h1,h2,h3⟩:=hx;exact⟨y,lu hI hc h1,h2.wide (λh=>by subst h;simpa using hf),h3⟩
  ·rename_i b s;obtain⟨h1,h2⟩:=hx;refine⟨.tree s [],lu hI hc (by simp[SE.den,h1]),?_,rfl⟩;subst h2;cases b
   ·exact .emp s h1
   ·exact .nil s h1
 |nl a s=>
  cases e<;>simp only[rj,asN,atv,beq_iff_eq]at hc<;>first|(cases hc;done)|skip
  obtain⟨rfl,rfl⟩:=hc;exact hx
 |pt k o x'=>
  cases e<;>simp only[rj,asN,atv]at hc<;>first|(cases hc;done)|skip
  obtain⟨⟨rfl,rfl⟩,hk⟩:=hc;obtain⟨id,cs,h1,h2,h3⟩:=hx;obtain⟨o1,o2,g1,g2,g3,g4⟩:=key _ _ hk (zZ k (by simp[tV]));rw[h2]at g2;cases g2;cases o1<;>simp only[Av]at g3<;>first|(cases g3;done)|skip
  exact⟨id,_,by rw[g4];exact h1,g1,h3⟩
 |tp a=>
  cases e<;>simp only[rj]at hc<;>first|(cases hc;done)|skip
  obtain⟨ds,h1,h2⟩:=hx;exact⟨ds,h1,mF (λd a b _ bS ⟨y,h3,h4⟩=>⟨y,lu hI bS h3,h4⟩) hc h2⟩
 |tw f a=>cases e<;>simp[rj]at hc
 |sr k=>
  cases e<;>simp only[rj]at hc<;>first|(cases hc;done)|skip
  obtain⟨s,st,cut,fr,z,es,h1,h2,h3⟩:=hx;obtain⟨o1,o2,g1,g2,g3,g4⟩:=key _ _ hc (zZ k (by simp[tV]));rw[h1]at g2;cases g2;cases o1<;>simp only[Av,asN,atv,beq_iff_eq]at g3<;>first|(cases g3;done)|skip
  obtain⟨⟨⟨⟨rfl,rfl⟩,P7⟩,uP⟩,hz⟩:=g3;refine⟨_,_,_,_,_,es,g1,lu hI hz h2,?_⟩;rcases h3 with⟨a1,a2,a3⟩|⟨id,cs,ay,mn,cap,a1,a2,a3,a4,a5,a6⟩
  ·exact .inl ⟨by rw[g4];exact a1,a2,a3⟩
  ·exact .inr ⟨id,cs,ay,mn,cap,by rw[g4];exact a1,a2,a3,a4,λhn yd=>a5 hn (by subst yd;simpa using P7),a6⟩
 |sv k lo=>cases e<;>simp[rj]at hc
 |pr k i off ext=>cases e<;>simp[rj]at hc
 |mp k=>
  cases e<;>simp only[rj]at hc<;>first|(cases hc;done)|skip
  obtain⟨id,kt,es,h1,h2,h3⟩:=hx;obtain⟨o1,o2,g1,g2,g3,g4⟩:=key _ _ hc (zZ k (by simp[tV]));rw[h2]at g2;cases g2;cases o1<;>simp only[Av,asN,atv]at g3<;>first|(cases g3;done)|skip
  obtain⟨⟨rfl,_⟩,_⟩:=g3;exact⟨id,_,_,by rw[g4];exact h1,g1,h3⟩
 |fn f a=>
  cases e<;>simp only[rj,asN,atv]at hc<;>first|(cases hc;done)|skip
  obtain⟨rfl,hl⟩:=hc;rcases hx with⟨rfl,h2⟩|⟨ys,h1,h2⟩
  ·have:a=[]:=by cases a with|nil=>rfl|cons=>cases hl
   subst this;exact .inl ⟨rfl,h2⟩
  ·refine .inr ⟨ys,h1,?_⟩;refine mF (λy p q hp yu ⟨id,cs,h3,h4,h5⟩=>?_) hl h2;simp only[asN,atv]at yu;obtain⟨o1,o2,g1,g2,g3,g4⟩:=key _ _ yu.2 (zZ p.1 (by simp only[tV];exact List.mem_map_of_mem hp));rw[h4]at g2;cases g2;cases o1<;>simp only[Av]at g3<;>first|(cases g3;done)|skip
   exact⟨id,_,by rw[g4];exact h3,g1,by rw[yu.1];exact h5⟩
theorem ack{h e:PV SE}{x:IV}(zZ:∀k∈PE h,isLive H.l k=ab)(hc:I5 n args eg h e=ab)(hx:VR (au P ν) R φ V.l σ x e):VR (au P (q0++vs)) R (ll φ H eg) H.l σ x h:=by
 cases h with
 |one c=>
  cases e<;>simp only[I5]at hc<;>first|(cases hc;done)|skip
  exact Bj hI hJ hL zZ hc hx
 |ag cs=>
  cases e<;>simp only[I5]at hc<;>first|(cases hc;done)|skip
  obtain⟨xs,h1,h2⟩:=hx;exact⟨xs,h1,mF (r:=cI (au P ν) R φ V.l σ) (λx a b ha bS hx=>Bj hI hJ hL (λk hk=>zZ k (auX.2 ⟨a,ha,hk⟩)) bS hx) hc h2⟩
 |tu us=>
  cases e<;>simp only[I5]at hc<;>first|(cases hc;done)|skip
  obtain⟨xs,h1,h2⟩:=hx;refine⟨xs,h1,mF (λx a b ha bS hx=>?_) hc h2⟩;simp only[asN,beq_iff_eq]at bS;have z7:∀c∈a.2,∀k∈tV c,isLive H.l k=ab:=λc hc k hk=>zZ k (auX.2 ⟨a,ha,auX.2 ⟨c,hc,hk⟩⟩);unfold tP at hx⊢;rw[bS.1];split at hx
  ·rename_i hb;rw[if_pos hb];obtain⟨ys,h3,h4⟩:=hx;exact⟨ys,h3,mF (r:=cI (au P ν) R φ V.l σ) (λx c c' hca mO hx=>Bj hI hJ hL (z7 c hca) mO hx) bS.2 h4⟩
  ·rename_i hb;rw[if_neg hb];obtain⟨c,h3,h4⟩:=hx;have fa:=bS.2;rw[h3]at fa;obtain⟨a1,a2⟩:=a;cases a2 with
   |nil=>cases fa
   |cons c' r=>
    cases r with
    |cons=>simp[mb]at fa
    |nil=>
     simp only[mb,Bool.and_true]at fa;exact⟨c',rfl,Bj hI hJ hL (z7 c' (by simp)) fa h4⟩
omit hI hJ hL in
theorem Lu{m:Nat}(hJ:J (au P ν) R φ V.g V.l E σ)(hl:q0.length=n)(hp:∃μ,ν=q0++μ)(h:inst n m H V=aa (args,eg)){vs:List IV}(hv:All2 (λ(e:SE) y=>e.den P ν=aa y) args vs):
 vs.length=m/\J (au P (q0++vs)) R (ll φ H eg) H.g H.l E σ:=by
 unfold inst at h;split at h
 ·cases h
 ·rename_i hlr;have acm:HO H=ab:=by simpa using hlr
  split at h<;>first|(cases h;done)|skip
  split at h<;>first|(cases h;done)|skip
  split at h<;>first|(cases h;done)|skip
  split at h<;>first|(cases h;done)|skip
  rename_i hc;simp only[asP,ati]at h;obtain⟨e1,e2⟩:=h;rw[e1,e2]at hc;simp only[asN,atv]at hc;obtain⟨⟨⟨c1,c2⟩,c3⟩,c4⟩:=hc;have hI:Ins P n args ν q0 vs:=⟨hl,hp,hv⟩;unfold HO at acm;simp only[asN,as6]at acm;obtain⟨l1,l2⟩:=acm
  have Lp:∀{k id},ll φ H eg k=aa id->isLive H.l k=ab/\∃k',sA eg k=aa k'/\φ k'=aa id:=by
   intro k id hk;unfold ll at hk;split at hk
   ·rename_i f_;obtain⟨k',h1,h2⟩:=as_.1 hk;exact⟨f_,k',h1,h2⟩
   ·cases hk
  refine⟨by rw[<-hv.len];exact c4,λd t pv hg=>?_,λk o ho=>?_,λk k' id h1 h2=>?_,λk id hk=>?_,hJ.qU,hJ.fits,hJ.wf,hJ.top⟩
  ·have jk:(d,t,pv)∈H.g:=by
    have:∀{g:List (Nat×Nat×PV SE)},cA d t g=aa pv->(d,t,pv)∈g:=by
     intro g;induction g with
     |nil=>intro h;cases h
     |cons p g ih=>
      obtain⟨a,b,q⟩:=p;intro h;rcases nL h with⟨rfl,rfl,rfl⟩|⟨_,h2⟩
      ·simp
      ·exact at6 _ (ih h2)
    exact this hg
   unfold agS at c1;rw[as6]at c1;have:=c1 _ jk;simp only at this;split at this
   ·rename_i Dy qW;exact ack hI hJ c2 (λk hk=>l1 _ jk k hk) this (hJ.slot d t Dy qW)
   ·cases this
  ·by_cases hd:o=.dead
   ·subst hd;trivial
   ·obtain⟨k',o',h1,h2,h3⟩:=Lt c2 ho hd;rw[auf]at h1
    have f_:isLive H.l k=ab:=by
     unfold isLive;rw[ho];cases o<;>first|rfl|exact absurd rfl hd
    have uG:ll φ H eg k=φ k':=by simp[ll,f_,h1]
    have dH:=hJ.obj k' o' h2;cases o with
    |dead=>exact absurd rfl hd
    |var cs=>
     cases o'<;>simp only[Av]at h3<;>first|(cases h3;done)|skip
     obtain⟨id,cJ,g1,g2,g3,g4⟩:=dH;have hrefs:=l2 _ (asZ ho);simp only at hrefs;rw[as6]at hrefs;exact⟨id,cJ,by rw[uG];exact g1,g2,g3,mF (r:=cI (au P ν) R φ V.l σ) (λx a b ha bS hx=>Bj hI hJ c2 (λk hk=>hrefs k (auX.2 ⟨a,ha,hk⟩)) bS hx) h3 g4⟩
    |row s st cut fr z=>
     cases o'<;>simp only[Av,asN,atv,beq_iff_eq]at h3<;>first|(cases h3;done)|skip
     obtain⟨⟨⟨⟨rfl,rfl⟩,P7⟩,uP⟩,hz⟩:=h3;obtain⟨bE,es,g1,g2,g3⟩:=dH;refine⟨bE,es,lu hI hz g1,g2,?_⟩;rcases g3 with⟨a1,a2⟩|⟨id,cs,ay,mn,a1,a2,a3,a4,a5,a6,a7⟩
     ·exact .inl ⟨by rw[uG];exact a1,a2⟩
     ·exact .inr ⟨id,cs,ay,mn,by rw[uG];exact a1,a2,a3,a4,a5,a6,λj x y hx hy=>(a7 j x y hx hy).wide (λh=>by subst h;simpa using uP)⟩
    |mp kt z=>
     cases o'<;>simp only[Av,asN,atv]at h3<;>first|(cases h3;done)|skip
     obtain⟨⟨rfl,hz⟩,To⟩:=h3;rw[gR]at dH⊢;split at dH
     ·rename_i eo;rw[if_pos eo];rcases dH with⟨h0,id,ba,p,g1,g2,g3,g4⟩|⟨h0,id,m,ds,seen,rem,rest,g1,g2,g3,_,g5,g6⟩
      ·exact .inl ⟨h0,id,ba,p,lu hI hz g1,by rw[uG];exact g2,g3,g4⟩
      ·have Mi:atQ kt 1000000=af:=by
        cases hb:atQ kt 1000000 with
        |false=>rfl
        |true=>exact absurd (show kt<1000000 by simpa using hb) (Nat.not_lt.2 h0)
       have zW:=l2 _ (asZ ho);simp only[Mi,au3]at zW;rw[Mi,au3]at To;unfold agR at zW;split at zW<;>first|(cases zW;done)|skip
       rename_i mc z2 ahh;refine .inr ⟨h0,id,m,ds,seen,rem,rest,lu hI hz g1,by rw[uG];exact g2,g3,⟨mc,z2,ahh⟩,?_,g6⟩;unfold ll;rw[if_pos (by unfold isLive;rw[ahh])];unfold EB at To;split at To<;>first|(cases To;done)|skip
       rename_i e' ic;have:=asV To;rw[ic,<-this];exact g5
     ·rename_i eo;rw[if_neg eo];obtain⟨id,es,clock,ds,g1,g2,g3,g4,g5⟩:=dH;exact⟨id,es,clock,ds,lu hI hz g1,by rw[uG];exact g2,g3,g4,g5⟩
  ·obtain⟨_,a,TZ,JB⟩:=Lp h1;obtain⟨_,b,cN,fk⟩:=Lp h2;have:=hJ.inj a b id JB fk;subst this;exact ahg c3 TZ cN
  ·obtain⟨f_,a,TZ,JB⟩:=Lp hk;obtain⟨o,ho,_⟩:=Qm f_;exact⟨dj ho,(hJ.lt a id JB).2⟩
end Go.Ev
