/- Lemmas over the model, without conditions of their own: calls on expressions. -/
import Derived.Test.YtpfogalbnijcoaaGreatEvM
import Derived.Test.YtpfogalbnijcoaaGreatEvI
open List renaming getElem?_eq_some_iff->ar3,getElem?_eq_getElem->ar2,getElem?_map->asi,mem_of_getElem?->ash,getElem?_of_mem->atP,length_map->aty,length_cons->asV,isEmpty_iff->ate,ext_getElem?->avv,getElem?_eq_none_iff->aua,length->asI,all_eq_true->asl,append_nil->asm,append_assoc->ast,mapM_cons->at6,mapM_nil->av3,getElem?_append_left->asd,mem_cons_of_mem->atm,mem_flatMap->aud
open Nat renaming eq_of_beq_eq_true->asb,le_refl->ar8,lt_of_lt_of_le->aut,lt_or_ge->avG,zero_le->asT,blt->as7,ble_eq->atJ,beq_eq->asK,zero_add->atv
open Option renaming bind_eq_some_iff->aso,map_eq_some_iff->ar9
open Go.Fence renaming wide->asB
open Array renaming getElem?_eq_none->atW,getElem?_eq_getElem->asw,getElem?_eq_some_iff->asX
open Option.some renaming inj->auU,injEq->ar6
open List.cons renaming injEq->as4
open Prod.mk renaming injEq->asu
open Bool renaming and_eq_true->ar4,false_eq_true->asA,false_or->auj
open Go.ResultVar renaming tmp->axT,cell->axU
open Option renaming some->aa,none->ah
open Bool renaming true->ab,false->af
set_option linter.all false
namespace Go.Ev
variable{P:Program}{N:Nat}{σ ao:St}{R R':Rs}{φ aL:Ph}{E:Nat->Env}{ν:List IV}
abbrev Wx(ins:List (List IV)):List (LO IV):=ins.map λcs=>.var (cs.map .v)
abbrev NN(ins:List (List IV))(R:Rs)(φ:Ph)(E:Nat->Env)(σ:St):Prop:=J (α:=IV) aa R φ [] (Wx ins) E σ
def Es(φ:Ph)(ins:List (List IV))(ps:List IV):Prop:=
 ps.length=ins.length/\∀i cs p,ins[i]?=aa cs->ps[i]?=aa p->∃id,φ i=aa id/\p=.ptr id 0 0 cs.length
def Ct(P:Program)(f:FuncId)(ins:List (List IV))(xs:List IV)(outs:List (List IV))(z:IV):Prop:=
 ∀R φ E σ ps args,NN ins R φ E σ->Es φ ins ps->All2 iD args xs->∀KW:Nat->IV->St->Prop,
  (∀R' aL ao v,NN outs R' aL E ao->Es aL outs ps->iD v z->∃b,∀N,b<=N->KW N v ao)->∃b,∀N,b<=N->dL P N f (ps++args) σ (KW N)
def xF{α:Type}(ev:α->Option IV)(ds:List (Cl α))(cs:List IV):Prop:=All2 (λ(c:Cl α) u=>∃e,c=.v e/\ev e=aa u) ds cs
theorem aeu{α:Type}{ev:α->Option IV}{Γ:Gm α}{L:List (LO α)}(h:J ev R φ Γ L E σ){k:Nat}{ds:List (Cl α)}{cs:List IV}(hk:L[k]?=aa (.var ds))(hc:xF ev ds cs):
 ∃id cE,φ k=aa id/\R id=ah/\σ.at id=aa (.cells cE 0 0)/\cE.length=cs.length/\∀(j:Nat) x u,cE[j]?=aa x->cs[j]?=aa u->iD x u/\aj u=ab:=by
 obtain⟨id,cE,h1,h2,h3,h4⟩:=h.obj k _ hk;refine⟨id,cE,h1,h2,h3,by rw[h4.len,hc.len],λj x u hx hu=>?_⟩;have hj:j<ds.length:=by rw[hc.len];exact(ar3.1 hu).1
 obtain⟨e,he,y8⟩:=hc.get (ar2 hj) hu;have:=h4.get hx (ar2 hj);rw[he]at this;obtain⟨y,y1,y2,y3⟩:=this;rw[y8]at y1;cases y1;exact⟨y2,y3⟩
theorem getElem?_inj{ks:List Nat}(oX:ks.Nodup){i i' k:Nat}(h1:ks[i]?=aa k)(h2:ks[i']?=aa k):i=i':=by
 exact(List.getElem?_inj (ar3.1 h1).1 oX).1 (h1.trans h2.symm)
theorem Wy{α:Type}{ev ia:α->Option IV}{Γ:Gm α}{L L':List (LO α)}(zj:∀e z,ev e=aa z->ia e=aa z)(h:J ev R φ Γ L E σ){ks:List Nat}(oX:ks.Nodup)
 {ins outs:List (List IV)}{f:FuncId}{xs ps args:List IV}{z:IV}(eb:ks.length=ins.length)(vL:∀(i k:Nat) (cs:List IV),ks[i]?=aa k->ins[i]?=aa cs->∃ds:List (Cl α),L[k]?=aa (LO.var ds)/\xF ev ds cs)
 (Gx:Es (λi=>(ks[i]?).bind φ) ins ps)(br:All2 iD args xs)(hr:Ct P f ins xs outs z)(ho:outs.length=ins.length)(hlL:L'.length=L.length)
 (hLo:∀j,j∉ks->L'[j]?=L[j]?)(hLk:∀(i k:Nat) (cs:List IV),ks[i]?=aa k->outs[i]?=aa cs->∃ds:List (Cl α),L'[k]?=aa (LO.var ds)/\xF ia ds cs)
 (KW:Nat->IV->St->Prop)(PH:∀R' ao v,J ia R' φ Γ L' E ao->iD v z->∃b,∀N,b<=N->KW N v ao):
 ∃b,∀N,b<=N->dL P N f (ps++args) σ (KW N):=by
 let db:Nat->Bool:=λi=>ks.any λk=>match φ k with
  |some id=>Nat.beq i id
  |none=>af
 have Er:∀i,db i=ab↔∃k∈ks,φ k=aa i:=λi=>by
  simp only[db,List.any_eq_true];constructor
  ·rintro⟨k,hk,hh⟩;refine⟨k,hk,?_⟩;split at hh
   ·rename_i id hid;rw[hid,asb hh]
   ·cases hh
  ·rintro⟨k,hk,hh⟩;exact⟨k,hk,by rw[hh];simp⟩
 have aE:=KI db h.top
 let φ0:Ph:=λi=>(ks[i]?).bind φ
 have abw:∀i id,φ0 i=aa id->∃k,ks[i]?=aa k/\φ k=aa id:=λi id hi=>by
  simp only[φ0]at hi;exact aso.1 hi
 have Vy:∀(i:Nat) (cs:List IV),ins[i]?=aa cs->∃(k id:Nat) (cE:List IV),ks[i]?=aa k/\φ k=aa id/\R id=ah/\σ.at id=aa (.cells cE 0 0)/\cE.length=cs.length/\∀(j:Nat) x u,cE[j]?=aa x->cs[j]?=aa u->iD x u/\aj u=ab:=λi cs hi=>by
  have cW:i<ks.length:=by rw[eb];exact(ar3.1 hi).1
  have hk:=ar2 cW;obtain⟨ds,d1,d2⟩:=vL i _ cs hk hi;obtain⟨id,cE,a⟩:=aeu h d1 d2;exact⟨_,id,cE,hk,a⟩
 have kA:NN ins (λ_=>ah) φ0 E (σ.only db):=by
  refine⟨λd t pv hg=>(by cases hg),λj ob hj=>?_,λj j' id h1 h2=>?_,λj id hj=>?_,λid m hm=>(by cases hm),λid m cs ay mn hm=>(by cases hm),T.FY _ _,λid hid=>?_⟩
  ·rw[asi]at hj;obtain⟨cs,bH,rfl⟩:=ar9.1 hj;obtain⟨k,id,cE,k1,k2,k3,k4,k5,k6⟩:=Vy j cs bH;refine⟨id,cE,by simp[φ0,k1,k2],rfl,?_,.mk (by simp[k5]) λq x c hx hc=>?_⟩
   ·rw[aE,(Er id).2 ⟨k,ash k1,k2⟩];simpa using k4
   ·rw[asi]at hc;obtain⟨u,hu,rfl⟩:=ar9.1 hc;obtain⟨c1,c2⟩:=k6 q x u hx hu;exact⟨u,rfl,c1,c2⟩
  ·obtain⟨k,k1,k2⟩:=abw j id h1;obtain⟨k',Mf,k2'⟩:=abw j' id h2;have:=h.inj k k' id k2 k2';subst this;exact getElem?_inj oX k1 Mf
  ·obtain⟨k,k1,k2⟩:=abw j id hj;refine⟨?_,(h.lt k id k2).2⟩;have:=(ar3.1 k1).1;simp;omega
  ·rw[aE];split
   ·exact h.top id hid
   ·rfl
 suffices Ww:∀R1 dA aq v,NN outs R1 dA E aq->Es dA outs ps->iD v z->σ.n<=aq.n->(∀id,id<σ.n->db id=af->aq.at id=ah)->∃b,∀N,b<=N->KW N v (σ.back aq db) by
  obtain⟨b,hb⟩:=hr _ _ _ _ ps args kA Gx br (λN v aq=>σ.n<=aq.n->(∀id,id<σ.n->db id=af->aq.at id=ah)->KW N v (σ.back aq db)) λR1 dA aq v h1 h2 h3=>by
   by_cases hc:σ.n<=aq.n/\∀id,id<σ.n->db id=af->aq.at id=ah
   ·obtain⟨b,hb⟩:=Ww R1 dA aq v h1 h2 h3 hc.1 hc.2;exact⟨b,λN hN _ _=>hb N hN⟩
   ·exact⟨0,λN _ h3 h4=>absurd ⟨h3,h4⟩ hc⟩
  refine⟨b,λN hN ι us w hi lF=>((hb N hN).frame db h.top ι us w hi lF).mono λed w' hR=>?_⟩;obtain⟨v,ao,⟨aq,je,rfl,hle,_,Cp⟩,abv⟩:=hR;exact⟨v,σ.back aq db,je hle Cp,abv⟩
 intro R1 dA aq v bD hP1 hv hle Cp;have I4:=bD.top;have yF:=KJ (σ:=σ) (aq:=aq) db hle I4;have hold:∀id,id<σ.n->db id=af->(σ.back aq db).at id=σ.at id:=λid h1 h2=>by rw[yF,if_pos ⟨h1,h2⟩]
 have eV:∀id ob,aq.at id=aa ob->¬(id<σ.n/\db id=af):=λid ob ho hc=>by rw[Cp id hc.1 hc.2]at ho;cases ho
 have I5:∀id ob,aq.at id=aa ob->(σ.back aq db).at id=aa ob:=λid ob ho=>by rw[yF,if_neg (eV id ob ho)];exact ho
 let R2:Rs:=λi=>if i<σ.n/\db i=af then R i else R1 i
 have hRk:∀k id,k∈ks->φ k=aa id->R id=ah:=λk id hk hid=>by
  obtain⟨i,hi⟩:=atP hk;have cW:i<ins.length:=by rw[<-eb];exact(ar3.1 hi).1
  obtain⟨k',bA,cE,k1,k2,k3,_⟩:=Vy i _ (ar2 cW);rw[hi]at k1;cases k1;rw[hid]at k2;cases k2;exact k3
 have yG:∀id m,R id=aa m->id<σ.n/\db id=af:=λid m hm=>by
  refine⟨h.qw id m hm,?_⟩;cases hv:db id with
  |false=>rfl
  |true=>
   obtain⟨k,hk,hid⟩:=(Er id).1 hv;rw[hRk k id hk hid]at hm;cases hm
 have rP:∀j id,j∉ks->φ j=aa id->id<σ.n/\db id=af:=λj id hj hid=>by
  refine⟨(h.lt j id hid).2,?_⟩;cases hv:db id with
  |false=>rfl
  |true=>
   obtain⟨k,hk,iY⟩:=(Er id).1 hv;exact absurd (h.inj j k id hid iY▸hk) hj
 have wO:∀id m cs ay mn,R2 id=aa m->(σ.back aq db).at id=aa (.cells cs ay mn)->m<=cs.length:=λid m cs ay mn hm ha=>by
  simp only[R2]at hm;rw[yF]at ha;split at hm
  ·rename_i hc;rw[if_pos hc]at ha;exact h.fits id m cs ay mn hm ha
  ·rename_i hc;rw[if_neg hc]at ha;exact bD.fits id m cs ay mn hm ha
 have p7:iH R σ R2 (σ.back aq db):=by
  refine⟨λid m hm=>⟨m,by simp only[R2];rw[if_pos (yG id m hm)];exact hm,ar8 _⟩,λid m cs ay mn hm ha=>⟨cs,ay,?_,ar8 _,λ_ _=>rfl⟩,wO⟩;rw[hold id (yG id m hm).1 (yG id m hm).2];exact ha
 have acZ:∀k,k∈ks->∃(i:Nat) (cs:List IV) (ds:List (Cl α)),ks[i]?=aa k/\outs[i]?=aa cs/\L'[k]?=aa (.var ds)/\xF ia ds cs:=λk hk=>by
  obtain⟨i,hi⟩:=atP hk;have cW:i<outs.length:=by rw[ho,<-eb];exact(ar3.1 hi).1
  obtain⟨ds,d1,d2⟩:=hLk i k _ hi (ar2 cW);exact⟨i,_,ds,hi,ar2 cW,d1,d2⟩
 have YD:∀k,k∈ks->∃ds:List (Cl α),L[k]?=aa (.var ds):=λk hk=>by
  obtain⟨i,hi⟩:=atP hk;have cW:i<ins.length:=by rw[<-eb];exact(ar3.1 hi).1
  obtain⟨ds,d1,_⟩:=vL i k _ hi (ar2 cW);exact⟨ds,d1⟩
 have hs:ky ev ia R φ L σ R2 φ L' (σ.back aq db) (λ_=>False):=by
  refine⟨zj,p7,λj cs hj=>?_,λj kt eT hj=>?_,λj s1 sE r6 sF z1 hj _=>?_⟩
  ·by_cases bI:j∈ks
   ·obtain⟨_,_,ds,_,_,d1,_⟩:=acZ j bI;exact⟨⟨ds,d1⟩,rfl⟩
   ·exact⟨⟨cs,by rw[hLo j bI];exact hj⟩,rfl⟩
  ·have bI:j∉ks:=λhc=>by obtain⟨ds,hd⟩:=YD j hc;rw[hj]at hd;cases hd
   exact⟨⟨eT,by rw[hLo j bI];exact hj⟩,rfl⟩
  ·have bI:j∉ks:=λhc=>by obtain⟨ds,hd⟩:=YD j hc;rw[hj]at hd;cases hd
   exact⟨⟨sE,sF,z1,by rw[hLo j bI];exact hj,λe he=>⟨e,zj _ _ he,rfl⟩⟩,rfl,λid cs ay mn hid ha=>⟨cs,mn,by rw[hold id (rP j id bI hid).1 (rP j id bI hid).2];exact ha,rfl,λh=>h⟩⟩
 refine PH R2 (σ.back aq db) v ⟨λd t pv hg=>(h.slot d t pv hg).step hs (PV.a_ _),λj ob hj=>?_,h.inj,λj id hj=>?_,λid m hm=>?_,wO,T.FY _ _,λid hid=>?_⟩ hv
 ·by_cases bI:j∈ks
  ·obtain⟨i,cs,ds,i1,i2,i3,i4⟩:=acZ j bI;rw[i3]at hj;cases hj;have cW:i<ps.length:=by rw[hP1.1];exact(ar3.1 i2).1
   obtain⟨id,p1,p2⟩:=hP1.2 i cs _ i2 (ar2 cW);have LY:i<ins.length:=by rw[<-ho];exact(ar3.1 i2).1
   obtain⟨qU,q1,q2⟩:=Gx.2 i _ _ (ar2 LY) (ar2 cW);rw[p2]at q2;injection q2 with q2 _ _ _
   subst q2;have abx:φ j=aa id:=by simpa[i1]using q1
   have dz:(Wx outs)[i]?=aa (.var (cs.map .v)):=by rw[asi,i2];rfl
   obtain⟨bA,cE,o1,o2,o3,o4⟩:=bD.obj i _ dz;rw[p1]at o1;cases o1;refine⟨id,cE,abx,?_,I5 id _ o3,.mk (by rw[o4.len,aty,i4.len]) λq x c hx hc=>?_⟩
   ·simp only[R2];rw[if_neg (eV id _ o3)];exact o2
   ·have hq:q<cs.length:=by rw[<-i4.len];exact(ar3.1 hc).1
    have YE:(cs.map Cl.v)[q]?=aa (.v cs[q]):=by rw[asi,ar2 hq];rfl
    obtain⟨y,y1,y2,y3⟩:=o4.get hx YE;cases y1;obtain⟨e,rfl,he⟩:=i4.get hc (ar2 hq);exact⟨_,he,y2,y3⟩
  ·rw[hLo j bI]at hj;exact(h.obj j ob hj).step hs rfl (λid hid=>⟨hold id (rP j id bI hid).1 (rP j id bI hid).2,by simp only[R2];rw[if_pos (rP j id bI hid)]⟩) (LO.a_ _)
 ·have:=h.lt j id hj;exact⟨by rw[hlL];exact this.1,aut this.2 hle⟩
 ·simp only[R2]at hm;split at hm
  ·exact aut (h.qw id m hm) hle
  ·exact bD.qw id m hm
 ·have iY:aq.n<=id:=hid;rw[yF,if_neg (by omega)];exact I4 id iY
end Go.Ev
namespace Go.Ev
variable{P:Program}{N:Nat}{σ ao:St}{ι:Io}{w:World}{ro:Nat}
def agt(w:World)(s:Nat)(es:List IV)(u:Value)(w':World):Prop:=
 (w'.os=w.os/\w'.tape=w.tape/\w'.output=w.output/\w.heap.size<=w'.heap.size/\∀b,b<w.heap.size->w'.heap[b]?=w.heap[b]?)/\
 ((es=[]/\u=.slice ah 0 0)\/
  es≠[]/\∃b c el cap,w.heap.size<=b/\u=.slice (aa ⟨b,0,ah⟩) es.length cap/\w'.heap[b]?=aa (.cells c el (0,0))/\es.length<=cap/\cap*s<=c.size/\
   ∀(k:Nat) (x:IV),(flat es)[k]?=aa x->∃v,x=.raw v/\c[k]?=aa v)
def agu(w:World)(s:Nat)(es:List IV):Ending->World->Prop
 |.returned u,w'=>agt w s es u w'
 |_,_=>False
def jR(P:Program)(s:Nat)(f:FuncId)(xs:List IV)(es:List IV):Prop:=
 0<s/\(∀e∈es,(cellsOf e).length=s)/\(∀c∈flat es,(∃v,c=.raw v)/\aj c=ab)/\∀M w us,ur M w->aC (ew M) xs us->CallsIn asB 0 P f us.toArray w (agu w s es)
def Et(n s:Nat)(es:List IV):IV:=if es.isEmpty then .raw (.slice ah 0 0)else .sl n 0 es.length ah 0 s
def vZ(es:List IV):Ob:=.cells (flat es) 0 0
theorem sI{s:Nat}:∀{es:List IV},(∀e∈es,(cellsOf e).length=s)->(flat es).length=es.length*s
 |[],_=>by simp[flat]
 |e::es,h=>by
  have:=sI (es:=es) λe he=>h e (by simp[he]);have he:=h e (by simp);unfold flat at this⊢;rw[List.flatMap_cons,List.length_append,this,he,asV,Nat.add_mul];omega
theorem Inv.ac0{w':World}{ob:Ob}{l:Loc}(h:Inv N ι σ w)(hN:σ.n<N)(aT:w.heap.size<=w'.heap.size)(hold:∀b,b<w.heap.size->w'.heap[b]?=w.heap[b]?)
 (vJ:w'.os=w.os)(xK:w'.tape=w.tape)(xL:w'.output=w.output)(hl:w.heap.size<=l.b)(eR:l.b<w'.heap.size)(dz:kH (dM ι σ.n 0 l) w' σ.n ob):
 Inv N (dM ι σ.n 0 l) (σ.add ob) w'/\Le ro ι w σ (dM ι σ.n 0 l) w' (σ.add ob):=by
 have j_:=h.fresh σ.n (ar8 _) hN;refine⟨h.change (qU:=σ.n) (kI (j_ 0)) (λi hi e=>by simp[dM,hi]) ?_ ?_ aT (λb hb _=>hold b hb) dz (λj=>by simp) ⟨by simp,by simp⟩ ?_,?_⟩
 ·intro id b hb;rcases lU hb with hb|⟨h1,h2⟩
  ·exact .inl hb
  ·exact .inr ⟨h1,by omega⟩
 ·intro b hb;rcases lU hb with hb|⟨h1,h2⟩
  ·have:=h.iO _ _ hb;omega
  ·omega
 ·intro id hid ai e;simp only[St.kY]at hid;have:id≠σ.n:=by omega
  simp[dM,this,h.fresh id (by omega) ai e]
 ·refine⟨kI (j_ 0),?_,?_,?_,?_,by simp,vJ,xK,xL,aT,λb hb _=>hold b hb,λ_ _ h=>.inl h⟩
  ·intro id b hb;rcases lU hb with hb|⟨h1,h2⟩
   ·exact .inl hb
   ·exact .inr (by omega)
  ·intro id hn hr e;simp only[St.kY]at hr;have:id≠σ.n:=by omega
   simp[dM,this]
  ·intro id hn hr;simp only[St.kY]at hr;have:id≠σ.n:=by omega
   rw[St.gW,if_neg (λhc=>this hc.symm),hn]
  ·intro id hr hn;rw[St.gW,if_neg (by omega)]
theorem Inv.aev{w':World}(h:Inv N ι σ w)(aT:w.heap.size<=w'.heap.size)(hold:∀b,b<w.heap.size->w'.heap[b]?=w.heap[b]?)
 (vJ:w'.os=w.os)(xK:w'.tape=w.tape)(xL:w'.output=w.output):∃aG,(∀v u,Rv ι v u->Rv aG v u)/\Inv N aG σ w'/\Le ro ι w σ aG w' σ:=by
 have hp:Ka ab ι.m w (.raw (.int .i64 0)) (.int .i64 0) w':=⟨λ_=>ah,λ_ _ hb=>(by cases hb),λ_ _ hb=>(by cases hb),λhc=>(by cases hc),.raw _,vJ,xK,xL,aT,hold⟩;obtain⟨aG,h1,h2,h3⟩:=Fp (ro:=ro) h (λhc=>by cases hc) hp;exact⟨aG,λv u hv=>hv.mono h3.ext,h2,h3⟩
theorem jR.call{s:Nat}{f:FuncId}{args xs es:List IV}(h:jR P s f xs es)(hr:∀N ι us w,Inv N ι σ w->aC ι args us->∃M,ur M w/\aC (ew M) xs us):
 gJ P ro f args σ (Et σ.n s es) (if es.isEmpty then σ else σ.add (vZ es)):=by
 obtain⟨hs,bH,_,h⟩:=h;refine⟨by split<;>simp,λN hN ι us w hi lF=>?_⟩;obtain⟨M,hM,oG⟩:=hr N ι us w hi lF;refine(h M w us hM oG).mono λe w' hR=>?_;cases e with
 |panicked ch=>exact hR.elim
 |outgrown=>exact hR.elim
 |returned u=>
  obtain⟨⟨h1,h2,h3,h4,h5⟩,hu⟩:=hR;by_cases he:es.isEmpty
  ·rw[if_pos he]at hN⊢;obtain⟨aG,g1,g2,g3⟩:=hi.aev (ro:=ro) h4 h5 h1 h2 h3;refine⟨aG,?_,g2,g3⟩;unfold Et;rw[if_pos he];rcases hu with⟨_,rfl⟩|⟨a0,_⟩
   ·exact .raw _
   ·exact absurd (ate.1 he) a0
  ·rw[if_neg he]at hN⊢;unfold Et;rw[if_neg he];rcases hu with⟨rfl,_⟩|⟨_,b,c,el,cap,a1,rfl,a3,a4,a5,a6⟩
   ·simp at he
   ·have hlen:=sI bH;have hle:es.length*s<=cap*s:=Nat.mul_le_mul_right s a4
    have fg:b<w'.heap.size:=by
     rcases avG b w'.heap.size with ai|sV
     ·exact ai
     ·rw[atW sV]at a3;cases a3
    have bf:=cd ι σ.n 0 ⟨b,es.length*s,c.size⟩;have j_:∀e,ι σ.n e=ah:=hi.fresh σ.n (ar8 _) (by simp only[St.kY]at hN;omega)
    obtain⟨g1,g2⟩:=hi.ac0 (ro:=ro) (w':=w') (ob:=vZ es) (l:=⟨b,es.length*s,c.size⟩) (by simp only[St.kY]at hN;omega) h4 h5 h1 h2 h3 a1 fg (by
     refine⟨⟨ar8 _,λe he=>?_⟩,⟨_,bf,hlen.symm⟩,λe e1 e2=>?_⟩
     ·have:e≠0:=by omega
      simp[dM,this,j_]
     ·have:e=0:=by omega
      subst this;refine⟨_,c,el,bf,by rw[hlen];exact ar8 _,a3,rfl,λk x hk hx=>?_⟩;obtain⟨v,rfl,hv⟩:=a6 k x hx;exact⟨v,hv,.raw _⟩)
    exact⟨_,.sl σ.n 0 es.length ah 0 s ⟨b,es.length*s,c.size⟩ cap ⟨b,0,ah⟩ bf (by simp) (by simpa using a5) hs a4 (λk hk=>by cases hk) (λ_=>rfl),g1,g2⟩
def HA(s:Nat)(es:List IV)(v:IV)(ao:St):Prop:=
 (es=[]/\v=.raw (.slice ah 0 0))\/es≠[]/\∃id cs ay mn cap,ao.at id=aa (.cells cs ay mn)/\mn<=ay/\v=.sl id 0 es.length cap ay s/\es.length*s<=cs.length/\
  ∀(k:Nat) (x:IV),(flat es)[k]?=aa x->∃u,x=.raw u/\cs[k]?=aa (.raw u)
theorem jR.Da{s:Nat}{f:FuncId}{xs es:List IV}{RW:IV->St->Prop}(hs:0<s)(bH:∀e∈es,(cellsOf e).length=s)(bp:∀c∈flat es,(∃v,c=.raw v)/\aj c=ab)(h:dL P N f xs ⟨0,.lf⟩ RW)(hc:∀v ao,RW v ao->HA s es v ao):jR P s f xs es:=by
 refine⟨hs,bH,bp,λM w us hM hr=>?_⟩;refine(h (ew M) us w (Fo hM) hr).mono λe w' hR=>?_;obtain⟨v,ao,q7,hR⟩:=hR;cases e with
 |panicked ch=>exact hR.elim
 |outgrown=>exact hR.elim
 |returned u=>
  obtain⟨aG,h1,h2,h3⟩:=hR;have tf:∀b,b<w.heap.size->w'.heap[b]?=w.heap[b]? :=λb hb=>h3.frame b hb λid ho=>(by obtain⟨_,_,h,_⟩:=ho;cases h);refine⟨⟨h3.os,h3.tape,h3.output,h3.size,tf⟩,?_⟩;rcases hc v ao q7 with⟨rfl,rfl⟩|⟨aZ,id,cs,ay,mn,cap,a1,a2,rfl,a3,a4⟩
  ·cases h1;exact .inl ⟨rfl,rfl⟩
  ·obtain⟨_,_,o3⟩:=h2.obj id _ a1;obtain⟨l,c,el,b1,b2,b3,b4,b5⟩:=o3 ay a2 (ar8 _);cases h1 with
   |sl _ _ _ _ _ _ l' Hz a hl hn gU bt hle fB ha=>
    rw[b1]at hl;cases hl;have sY:0<es.length:=List.length_pos_iff.2 aZ
    have hb:w.heap.size<=l.b:=by
     rcases h3.own id l.b ⟨ay,l,b1,rfl⟩with ho|ho
     ·obtain⟨_,_,h,_⟩:=ho;cases h
     ·exact ho
    rw[ha (by omega)];refine .inr ⟨aZ,l.b,c,el,Hz,hb,rfl,b3,hle,by rw[<-b4];omega,λk x hx=>?_⟩;obtain⟨u,rfl,hu⟩:=a4 k x hx
    have hk:k<l.n:=by
     have:=(ar3.1 hx).1;rw[sI bH]at this;omega
    obtain⟨y,hy,hr⟩:=b5 k _ hk hu;cases hr;exact⟨_,rfl,hy⟩
end Go.Ev
namespace Go.Ev
variable{P:Program}{N:Nat}{σ ao:St}{ι:Io}{w:World}{ro:Nat}
theorem Tz(v:Value):Rv ι (lift v) v:=by
 unfold lift;split
 ·rename_i cs
  have:Rv ι (.agg (cs.toList.map .raw)) (.agg cs.toList.toArray):=.agg _ _ (by simp) λi c u h1 h2=>by
   rw[asi,h2]at h1;cases h1;exact .raw _
  simpa using this
 ·exact .raw _
theorem KL{v u:Value}(h:Rv ι (lift v) u):u=v:=by
 unfold lift at h;split at h
 ·rename_i cs;cases h with
  |agg _ vs hl hh=>
   have:vs=cs.toList:=by
    apply avv;intro i;cases hi:vs[i]? with
    |none=>
     rw[aua]at hi;rw[aty]at hl;exact(aua.2 (by omega)).symm
    |some a=>
     have ai:=(ar3.1 hi).1;rw[aty]at hl;have h2:cs.toList[i]?=aa cs.toList[i]:=ar2 (by omega);have:=hh i _ a (by rw[asi,h2];rfl) hi;cases this;exact h2.symm
   rw[this]
 ·cases h;rfl
def zR(d:IV)(i:Nat):Value×IV×Nat:=
 match d with
 |.az [k,x]=>((iG k).getD Go.undef,x,i)
 |_=>(Go.undef,.undef,i)
def j8(ds:List IV):List (Value×IV×Nat):=ds.zipIdx.map λp=>zR p.1 p.2
def sJ(ds:List IV):Prop:=∀d∈ds,∃k v,d=.az [lift k,lift v]
theorem qj(v:Value):iG (lift v)=aa v:=by
 have hr:∀vs:List Value,gl (vs.map .raw)=aa vs:=by
  intro vs;induction vs with
  |nil=>rfl
  |cons v vs ih=>simp only[List.map_cons,gl,ih]
 unfold lift;split
 ·simp only[iG,pd,hr]
 ·rfl
theorem qn{ds:List IV}{i:Nat}{e:Value×IV×Nat}(h:(j8 ds)[i]?=aa e):∃d,ds[i]?=aa d/\e=zR d i:=by
 unfold j8 at h;rw[asi,List.getElem?_zipIdx]at h;cases hd:ds[i]? with
 |none=>rw[hd]at h;simp at h
 |some d=>rw[hd]at h;simp at h;exact⟨d,rfl,h.symm⟩
theorem qo(ds:List IV):(j8 ds).length=ds.length:=by simp[j8]
def an0(w:World)(ds:List IV)(u:Value)(w':World):Prop:=
 (w'.os=w.os/\w'.tape=w.tape/\w'.output=w.output/\w.heap.size<=w'.heap.size/\∀b,b<w.heap.size->w'.heap[b]?=w.heap[b]?)/\
 ∃b res,w.heap.size<=b/\u=.map (aa b)/\w'.heap[b]?=aa (.map res ds.length)/\res.size=ds.length/\∀(i:Nat) d (r:MapEntry),ds[i]?=aa d->res[i]?=aa r->d=.az [lift r.key,lift r.val]/\r.born=i
def an1(w:World)(ds:List IV):Ending->World->Prop
 |.returned u,w'=>an0 w ds u w'
 |_,_=>False
def lQ(P:Program)(f:FuncId)(xs:List IV)(ds:List IV):Prop:=
 sJ ds/\∀M w us,ur M w->aC (ew M) xs us->CallsIn asB 0 P f us.toArray w (an1 w ds)
theorem lQ.call{f:FuncId}{args xs ds:List IV}(h:lQ P f xs ds)(hr:∀N ι us w,Inv N ι σ w->aC ι args us->∃M,ur M w/\aC (ew M) xs us):
 gJ P ro f args σ (.map σ.n) (σ.add (.map (j8 ds) ds.length)):=by
 obtain⟨dO,h⟩:=h;refine⟨by simp,λN hN ι us w hi lF=>?_⟩;obtain⟨M,hM,oG⟩:=hr N ι us w hi lF;refine(h M w us hM oG).mono λe w' hR=>?_;cases e with
 |panicked ch=>exact hR.elim
 |outgrown=>exact hR.elim
 |returned u=>
  obtain⟨⟨h1,h2,h3,h4,h5⟩,b,res,a1,rfl,a3,a4,a5⟩:=hR
  have fg:b<w'.heap.size:=by
   rcases avG b w'.heap.size with ai|sV
   ·exact ai
   ·rw[atW sV]at a3;cases a3
  have bf:=cd ι σ.n 0 ⟨b,1,1⟩
  obtain⟨g1,g2⟩:=hi.ac0 (ro:=ro) (w':=w') (ob:=.map (j8 ds) ds.length) (l:=⟨b,1,1⟩) (by simp only[St.kY]at hN;omega) h4 h5 h1 h2 h3 a1 fg (by
   refine⟨_,res,bf,a3,by rw[qo,a4],λi e r he hr=>?_⟩;obtain⟨d,hd,rfl⟩:=qn he;obtain⟨rfl,hb⟩:=a5 i d r hd hr;refine⟨by simp[zR,qj],?_,by simp[zR,hb]⟩;exact Tz _)
  exact⟨_,.map σ.n ⟨b,1,1⟩ bf,g1,g2⟩
def Wz(ds:List IV)(v:IV)(ao:St):Prop:=
 ∃id es,v=.map id/\ao.at id=aa (.map es ds.length)/\es.length=ds.length/\∀(i:Nat) (e:Value×IV×Nat) d,es[i]?=aa e->ds[i]?=aa d->e.2.2=i/\∃vv,e.2.1=lift vv/\d=.az [lift e.1,lift vv]
theorem lQ.Da{f:FuncId}{xs ds:List IV}{RW:IV->St->Prop}(dO:sJ ds)(h:dL P N f xs ⟨0,.lf⟩ RW)(hc:∀v ao,RW v ao->Wz ds v ao):lQ P f xs ds:=by
 refine⟨dO,λM w us hM hr=>?_⟩;refine(h (ew M) us w (Fo hM) hr).mono λe w' hR=>?_;obtain⟨v,ao,q7,hR⟩:=hR;cases e with
 |panicked ch=>exact hR.elim
 |outgrown=>exact hR.elim
 |returned u=>
  obtain⟨aG,h1,h2,h3⟩:=hR;have tf:∀b,b<w.heap.size->w'.heap[b]?=w.heap[b]? :=λb hb=>h3.frame b hb λid ho=>(by obtain⟨_,_,h,_⟩:=ho;cases h);refine⟨⟨h3.os,h3.tape,h3.output,h3.size,tf⟩,?_⟩;obtain⟨id,es,rfl,a1,a2,a3⟩:=hc v ao q7;obtain⟨l,res,b1,b2,b3⟩:=h2.obj id _ a1;cases h1 with
  |map _ l' hl=>
   rw[b1]at hl;cases hl
   have hb:w.heap.size<=l.b:=by
    rcases h3.own id l.b ⟨0,l,b1,rfl⟩with ho|ho
    ·obtain⟨_,_,h,_⟩:=ho;cases h
    ·exact ho
   refine⟨l.b,res,hb,rfl,b2,by rw[<-b3.1,a2],λi d r hd hr=>?_⟩
   have hi:i<es.length:=by
    have:=(ar3.1 hd).1;omega
   have he:=ar2 hi;obtain⟨c1,c2,c3⟩:=b3.2 i _ r he hr;obtain⟨d1,vv,d2,d3⟩:=a3 i _ d he hd;rw[d2]at c2;have:=KL c2;refine⟨by rw[d3,c1,this],by rw[c3,d1]⟩
end Go.Ev
namespace Go.Ev
variable{P:Program}{N:Nat}{σ ao:St}{ι:Io}{w:World}{ro:Nat}
theorem PI{a b:Value}(h:lift a=lift b):a=b:=by
 have:=qj a;rw[h,qj]at this;exact(auU this).symm
def ajW(w:World)(ds:List IV)(u:Value):Prop:=
 ∃b res,u=.map (aa b)/\w.heap[b]?=aa (.map res ds.length)/\res.size=ds.length/\∀(i:Nat) d (r:MapEntry),ds[i]?=aa d->res[i]?=aa r->d=.az [lift r.key,lift r.val]/\r.born=i
def Ba(es:List (Value×IV×Nat))(ds:List IV):Prop:=
 es.length=ds.length/\∀(i:Nat) (e:Value×IV×Nat) d,es[i]?=aa e->ds[i]?=aa d->e.2.2=i/\∃vv,e.2.1=lift vv/\d=.az [lift e.1,lift vv]
def rN(P:Program)(f:FuncId)(ds xs:List IV)(z:IV):Prop:=
 sJ ds/\(∃v,z=.raw v/\aj z=ab)/\∀M w u us,ur M w->ajW w ds u->aC (ew M) xs us->CallsIn asB 0 P f (u::us).toArray w (afQ af ab M w z)
theorem rN.call{f:FuncId}{args xs ds:List IV}{z:IV}{id:Nat}{es:List (Value×IV×Nat)}(h:rN P f ds xs z)(aE:σ.at id=aa (.map es ds.length))(gx:Ba es ds)(hc:DX ab σ args xs):
 gJ P ro f (.map id::args) σ z σ:=by
 refine⟨ar8 _,λN hN ι us w hi hr=>?_⟩;cases us with
 |nil=>have:=hr.1;simp at this
 |cons u us=>
  have hu:=hr.2 0 _ _ rfl rfl;have oG:aC ι args us:=⟨by have:=hr.1;simpa using this,λi c v h1 h2=>hr.2 (i+1) c v (by simpa using h1) (by simpa using h2)⟩;cases hu with
  |map _ l hl=>
   obtain⟨l',res,b1,b2,b3⟩:=hi.obj id _ aE;rw[hl]at b1;cases b1;refine(h.2.2 (allM w) w (.map (aa l.b)) us AQ ⟨l.b,res,rfl,b2,by rw[<-b3.1,gx.1],λi d r hd hr=>?_⟩ (hc.rv hi oG)).mono λe w' hR=>?_
   ·have ai:i<es.length:=by
     have:=(ar3.1 hd).1;rw[gx.1];exact this
    have he:=ar2 ai;obtain⟨c1,c2,c3⟩:=b3.2 i _ r he hr;obtain⟨d1,vv,d2,d3⟩:=gx.2 i _ d he hd;rw[d2]at c2;have:=KL c2;exact⟨by rw[d3,c1,this],by rw[c3,d1]⟩
   ·cases e with
    |returned u=>exact Fp hi (λhn=>by cases hn) hR.2
    |panicked ch=>exact absurd hR.1 (by simp)
    |outgrown=>exact hR.elim
theorem rN.Da{f:FuncId}{xs ds:List IV}{z:IV}{RW:IV->St->Prop}(dO:sJ ds)(hz:∃v,z=.raw v/\aj z=ab)(h:dL P N f (.map 0::xs) ((⟨0,.lf⟩:St).add (.map (j8 ds) ds.length)) RW)
 (hc:∀v ao,RW v ao->v=z/\∃es,ao.at 0=aa (.map es ds.length)/\Ba es ds):rN P f ds xs z:=by
 refine⟨dO,hz,λM w u us hM aaC hr=>?_⟩;obtain⟨b,res,rfl,m1,m2,m3⟩:=aaC;have bf:=cd (ew M) 0 0 ⟨b,1,1⟩;have jo:Ext (ew M) (dM (ew M) 0 0 ⟨b,1,1⟩):=kI rfl
 have lq:∀id b',Own (dM (ew M) 0 0 ⟨b,1,1⟩) id b'->id=0/\b'=b:=λid b' ho=>by
  rcases lU ho with ho|ho
  ·obtain⟨_,_,h,_⟩:=ho;cases h
  ·exact ho
 have ai:b<w.heap.size:=by
  rcases avG b w.heap.size with ai|sV
  ·exact ai
  ·rw[atW sV]at m1;cases m1
 have hi:Inv N (dM (ew M) 0 0 ⟨b,1,1⟩) ((⟨0,.lf⟩:St).add (.map (j8 ds) ds.length)) w:=by
  refine⟨hM,λb' c id hb ho=>?_,λid b' ho=>by rw[(lq id b' ho).2];exact ai,λid hid _ e=>?_,λi j b' h1 h2=>by rw[(lq i b' h1).1,(lq j b' h2).1],λid o ho=>?_,λid hid=>?_⟩
  ·rw[(lq id b' ho).2]at hb;obtain⟨e,f,hh⟩:=hM b c hb;rw[m1]at hh;cases hh
  ·have:id≠0:=by simp only[St.kY]at hid;omega
   simp[dM,this]
  ·rw[St.gW]at ho;split at ho
   ·rename_i h0;subst h0;cases ho;refine⟨_,res,bf,m1,by rw[qo,m2],λi e r he hr=>?_⟩;obtain⟨d,hd,rfl⟩:=qn he;obtain⟨rfl,hb⟩:=m3 i d r hd hr;exact⟨by simp[zR,qj],Tz _,by simp[zR,hb]⟩
   ·cases ho
  ·simp only[St.kY]at hid;rw[St.gW,if_neg (by show¬0=id;omega)];rfl
 have lF:aC (dM (ew M) 0 0 ⟨b,1,1⟩) (.map 0::xs) (.map (aa b)::us):=by
  refine⟨by simp[hr.1],λi=>?_⟩;cases i with
  |zero=>intro c v h1 h2;simp at h1 h2;subst h1 h2;exact .map 0 ⟨b,1,1⟩ bf
  |succ i=>intro c v h1 h2;simp at h1 h2;exact(hr.2 i c v h1 h2).mono jo
 refine(h _ _ w hi lF).mono λe w' hR=>?_;obtain⟨v,ao,q7,hR⟩:=hR;cases e with
 |panicked ch=>exact hR.elim
 |outgrown=>exact hR.elim
 |returned u=>
  obtain⟨aG,h1,h2,h3⟩:=hR;obtain⟨rfl,es,a1,a2,a3⟩:=hc v ao q7;obtain⟨vz,rfl,_⟩:=hz;have hu:u=vz:=by cases h1;rfl
  subst hu;refine⟨rfl,λ_=>ah,λ_ _ hb=>(by cases hb),λ_ _ hb=>(by cases hb),λhc=>(by cases hc),.raw _,h3.os,h3.tape,h3.output,h3.size,λb' si=>?_⟩;by_cases H7:b'=b
  ·subst H7;obtain⟨l,agv,c1,c2,c3⟩:=h2.obj 0 _ a1;have:=h3.ext.1 0 0 _ bf;have kz:aG 0 0=aa l:=c1;have ac1:aG 0 0=aa ⟨b',1,1⟩:=this;rw[kz]at ac1;cases ac1;rw[c2,m1]
   congr 2
   have aT:agv.size=res.size:=by rw[<-c3.1,a2,m2]
   apply Array.ext aT;intro i OF XK;have he:i<es.length:=by rw[c3.1];exact OF
   have hd:i<ds.length:=by rw[<-a2];exact he
   obtain⟨d1,d2,d3⟩:=c3.2 i es[i] agv[i] (ar2 he) (asw OF);obtain⟨e1,vv,e2,e3⟩:=a3 i es[i] ds[i] (ar2 he) (ar2 hd);obtain⟨f1,f2⟩:=m3 i ds[i] res[i] (ar2 hd) (asw XK);rw[e2]at d2;have hv:=KL d2;rw[e3]at f1;simp only[IV.az.injEq,as4,and_true]at f1;have k1:=PI f1.1;have k2:=PI f1.2
   have:∀x y:MapEntry,x.key=y.key->x.val=y.val->x.born=y.born->x=y:=by
    intro x y;cases x;cases y;simp only;rintro rfl rfl rfl;rfl
   exact this _ _ (by rw[d1,k1]) (by rw[hv,k2]) (by rw[d3,e1,f2])
  ·exact h3.frame b' si λid ho=>absurd (lq id b' ho).2 H7
end Go.Ev
namespace Go.Ev
variable{P:Program}{N:Nat}{σ ao:St}{R R':Rs}{φ aL:Ph}{E:Nat->Env}{ν:List IV}{ro:Nat}{ι:Io}{w:World}
variable{C:Cr}{Q:IV->Prop}{K:List (List IV->Prop)}{V:SS}{d:Nat}{o:Oper}{k:PV SE->SS->ak}{L:List (LO SE)}{Γ:Gm SE}
theorem aew{fr:Bool}{x z:IV}(hi:(λ(_:Nat)=>(ah:Option Nat))=R)(Im:σ=⟨0,.lf⟩)(h:bn fr R σ x z):∀{u:Value},Rv ι x u->Rv (ew ι.m) z u:=by
 induction h with
 |raw v=>intro u h;cases h;exact .raw v
 |nil s hs=>intro u h;cases h;exact .dS s ah 0 hs (λ_=>rfl)
 |emp s hs=>intro u h;cases h;exact .dS s _ 0 hs (λh=>by cases h)
 |di t x y _ ih=>intro u h;cases h with|di _ _ v hh=>exact .di t y v (ih hh)
 |agg cs ds hl _ ih=>
  intro u h;cases h with
  |agg _ vs cq hh=>
   refine .agg ds vs (hl▸cq) λi d v h1 h2=>?_;have cW:i<cs.length:=by have:=(ar3.1 h1).1;omega
   exact ih i _ d (ar2 cW) h1 (hh i _ v (ar2 cW) h2)
 |az cs ds hl _ ih=>
  intro u h;cases h with
  |az _ vs cq hh=>
   refine .az ds vs (hl▸cq) λi d v h1 h2=>?_;have cW:i<cs.length:=by have:=(ar3.1 h1).1;omega
   exact ih i _ d (ar2 cW) h1 (hh i _ v (ar2 cW) h2)
 |pure x hf hp=>intro u h;exact hp.rv h (λ_ _ h=>h)
 |sl id off len cap ep s m cs ay mn es hR=>rw[<-hi]at hR;cases hR
theorem eZ.ajX{f:FuncId}{args xs:List IV}{z:IV}(h:eZ P af af f xs z)(hc:All2 iD args xs):gJ P ro f args σ z σ:=by
 refine⟨ar8 _,λN hN ι us w hi hr=>?_⟩
 have oG:aC (ew ι.m) xs us:=⟨hc.len▸hr.1,λi c v h1 h2=>by
  have cW:i<args.length:=by have:=(ar3.1 h1).1;rw[hc.len];exact this
  exact aew rfl rfl (hc.get (ar2 cW) h1) (hr.2 i _ v (ar2 cW) h2)⟩
 refine(h ι.m w us hi.mem oG).mono λe w' hR=>?_;cases e with
 |returned u=>exact Fp hi (λ_ _ _=>Iff.rfl) hR.2
 |panicked ch=>exact absurd hR.1 (by simp)
 |outgrown=>exact hR.elim
theorem jR.Fq{s:Nat}{f:FuncId}{args xs es:List IV}(h:jR P s f xs es)(hc:DX ab σ args xs):gJ P ro f args σ (Et σ.n s es) (if es.isEmpty then σ else σ.add (vZ es)):=
 h.call λ_ _ _ w hi hr=>⟨allM w,AQ,hc.rv hi hr⟩
theorem lQ.Fq{f:FuncId}{args xs ds:List IV}(h:lQ P f xs ds)(hc:DX ab σ args xs):gJ P ro f args σ (.map σ.n) (σ.add (.map (j8 ds) ds.length)):=
 h.call λ_ _ _ w hi hr=>⟨allM w,AQ,hc.rv hi hr⟩
def NO(n:Nat):IV->Bool
 |.az vs=>vs.length==n
 |_=>af
def aQ(P:Program)(f:FuncId)(z:IV):Bool:=
 match P.funcs[f]? with
 |some fn=>fn.resultTypes.size==1||NO fn.resultTypes.size z
 |none=>af
def jb(P:Program)(C:Cr):Prop:=∀f new xs z,C f new xs z->(f<P.funcs.size->eZ P af new f xs z/\Pure z/\aQ P f z=ab)/\
 (∀g,g<P.funcs.size->f=P.funcs.size+g->∃s es nX aF,xs=.tree s es::nX/\z=.tree s aF/\Cq P s g es nX aF)/\
 (∀g,g<P.funcs.size->f=2*P.funcs.size+g->∃ins nX outs z0,xs=.agg (ins.map IV.agg)::nX/\z=.az (z0::outs.map IV.agg)/\outs.map asI=ins.map asI/\(∀cs∈outs,∀u∈cs,aj u=ab)/\Ct P g ins nX outs z0)/\
 (∀g,g<P.funcs.size->f=3*P.funcs.size+g->∃t:Nat,xs=[.int t]/\D6 P g t)/\
 (∀g,g<P.funcs.size->f=4*P.funcs.size+g->∃es,z=.tree (cK P g) es/\jR P (cK P g) g xs es)/\
 (∀g,g<P.funcs.size->f=5*P.funcs.size+g->∃ds,z=.az ds/\lQ P g xs ds)/\
 ∀g,g<P.funcs.size->f=6*P.funcs.size+g->∃ds nX,xs=.az ds::nX/\rN P g ds nX z
theorem Mg{c:Cl SE}{fr:Bool}{z:SE}{V':SS}(hp:uE [c]=ab)(hr:wD V c=aa (fr,z,V')){x:IV}(hx:cD (au P ν) R φ V.l σ x c):∃y,z.den P ν=aa y/\iD x y:=by
 cases c<;>simp only[uE]at hp<;>first|(cases hp;done)|skip
 ·simp only[wD,ar6,asu]at hr;obtain⟨rfl,rfl,rfl⟩:=hr;obtain⟨y,h1,h2,_⟩:=hx;exact⟨y,h1,h2⟩
 ·rename_i b s;simp only[wD,ar6,asu]at hr;obtain⟨rfl,rfl,rfl⟩:=hr;obtain⟨h1,rfl⟩:=hx;refine⟨.tree s [],by simp[SE.den,h1],?_⟩;cases b
  ·exact .emp s h1
  ·exact .nil s h1
theorem Mh{c:Cl SE}{fr:Bool}{z:SE}{V':SS}(hp:uE [c]=ab)(hr:wD V c=aa (fr,z,V')):V'=V:=by
 cases c<;>simp only[uE]at hp<;>first|(cases hp;done)|skip
 all_goals
  simp only[wD,ar6,asu]at hr;exact hr.2.2.symm
theorem YF{c:Cl SE}{cs:List (Cl SE)}(h:uE (c::cs)=ab):uE [c]=ab/\uE cs=ab:=by
 cases c<;>simp only[uE]at h⊢<;>first|(cases h;done)|exact⟨trivial,h⟩
theorem I6:∀{cs:List (Cl SE)} {fr:Bool} {zs:List SE} {V':SS},uE cs=ab->tz V cs=aa (fr,zs,V')->V'=V/\∀{xs:List IV},All2 (cD (au P ν) R φ V.l σ) xs cs->∃ys,All2 (λ(z:SE) y=>z.den P ν=aa y) zs ys/\All2 iD xs ys
 |[],fr,zs,V',_,hr=>by
  simp only[tz,ar6,asu]at hr;obtain⟨rfl,rfl,rfl⟩:=hr;refine⟨rfl,λ{xs} hx=>?_⟩;cases xs with
  |nil=>exact⟨[],trivial,trivial⟩
  |cons=>exact hx.elim
 |c::cs,fr,zs,V',hp,hr=>by
  obtain⟨h1,h2⟩:=YF hp;simp only[tz]at hr;split at hr
  ·rename_i f1 z V1 qA;have e0:=Mh h1 qA;rw[e0]at hr;split at hr
   ·rename_i f2 zs' V2 PJ;simp only[ar6,asu]at hr;obtain⟨rfl,rfl,rfl⟩:=hr;obtain⟨rfl,h3⟩:=I6 h2 PJ;refine⟨rfl,λ{xs} hx=>?_⟩;cases xs with
    |nil=>exact hx.elim
    |cons x xs=>
     obtain⟨y,a1,a2⟩:=Mg h1 qA hx.1;obtain⟨ys,b1,b2⟩:=h3 hx.2;exact⟨y::ys,⟨a1,b1⟩,⟨a2,b2⟩⟩
   ·cases hr
  ·cases hr
theorem KM{V':SS}{pv:PV SE}{fr:Bool}{z:SE}(h:J (au P ν) R φ V.g V.l E σ)(hr:tA V pv=aa (fr,z,V'))(ht:∀vs,pv≠.tu vs):
 ∃R',ji P ν R φ V σ R' V'/\J (au P ν) R' φ V'.g V'.l E σ/\∀x,VR (au P ν) R φ V.l σ x pv->∃y,z.den P ν=aa y/\bn fr R' σ x y:=by
 cases pv with
 |one c=>
  obtain⟨R',h1,h2,h3⟩:=Ei h hr;exact⟨R',h1,h2,λx hx=>by obtain⟨y,a,b,_⟩:=h3 x hx;exact⟨y,a,b⟩⟩
 |ag cs=>
  simp only[tA]at hr;split at hr
  ·rename_i f zs V1 qA;simp only[ar6,asu]at hr;obtain⟨rfl,rfl,rfl⟩:=hr;obtain⟨R',h1,h2,_,h3⟩:=uL h qA;refine⟨R',h1,h2,λx hx=>?_⟩;obtain⟨xs,rfl,wA⟩:=hx;obtain⟨ys,a,b,_⟩:=h3 xs wA;exact⟨.agg ys,eB a,.agg xs ys b.len λi c e h1 h2=>b.get h1 h2⟩
  ·cases hr
 |tu vs=>exact absurd rfl (ht vs)
theorem WA{V':SS}{pv:PV SE}{fr:Bool}{z:SE}(hp:ov pv=ab)(hr:tA V pv=aa (fr,z,V')):V'=V/\∀{x:IV},VR (au P ν) R φ V.l σ x pv->∃y,z.den P ν=aa y/\iD x y:=by
 cases pv with
 |one c=>exact⟨Mh hp hr,λ{x} hx=>Mg hp hr hx⟩
 |ag cs=>
  simp only[tA]at hr;split at hr
  ·rename_i f zs V1 qA;simp only[ar6,asu]at hr;obtain⟨rfl,rfl,rfl⟩:=hr;obtain⟨h1,h2⟩:=I6 (P:=P) (ν:=ν) (R:=R) (φ:=φ) (σ:=σ) hp qA;refine⟨h1,λ{x} hx=>?_⟩;obtain⟨xs,rfl,wA⟩:=hx;obtain⟨ys,a,b⟩:=h2 wA;exact⟨.agg ys,eB a,.agg xs ys b.len λi c e h1 h2=>b.get h1 h2⟩
  ·cases hr
 |tu vs=>cases hp
theorem Bb:∀{da:List (PV SE)} {V V':SS} {R:Rs} {zs:List SE},J (au P ν) R φ V.g V.l E σ->tD V da=aa (zs,V')->BK da=ab->
 ∃R',ji P ν R φ V σ R' V'/\J (au P ν) R' φ V'.g V'.l E σ/\∀xs,All2 (VR (au P ν) R φ V.l σ) xs da->∃ys,All2 (λ(z:SE) y=>z.den P ν=aa y) zs ys/\All2 (bn ab R' σ) xs ys
 |[],V,V',R,zs,h,hr,_=>by
  simp only[tD,ar6,asu]at hr;obtain⟨rfl,rfl⟩:=hr;refine⟨R,.refl h,h,λxs hx=>?_⟩;cases xs with
  |nil=>exact⟨[],trivial,trivial⟩
  |cons=>exact hx.elim
 |pv::da,V,V',R,zs,h,hr,ht=>by
  have ht':(∀vs,pv≠.tu vs)/\BK da=ab:=by
   cases pv<;>simp_all[BK]
  simp only[tD]at hr;split at hr
  ·rename_i f z V1 qA;split at hr
   ·rename_i zs' V2 PJ;simp only[ar6,asu]at hr;obtain⟨rfl,rfl⟩:=hr;obtain⟨R1,a1,a2,a3⟩:=KM h qA ht'.1;obtain⟨R2,b1,b2,b3⟩:=Bb a2 PJ ht'.2;refine⟨R2,a1.trans b1,b2,λxs hx=>?_⟩;cases xs with
    |nil=>exact hx.elim
    |cons x xs=>
     obtain⟨y,c1,c2⟩:=a3 x hx.1;obtain⟨ys,d1,d2⟩:=b3 xs (hx.2.mono λ_ _ bR=>a1.vr bR);exact⟨y::ys,⟨c1,d1⟩,⟨(c2.mono b1.2.2.2.grow).cH,d2⟩⟩
   ·cases hr
  ·cases hr
theorem xk:∀{da:List (PV SE)} {V':SS} {zs:List SE},tD V da=aa (zs,V')->da.all ov=ab->
 V'=V/\∀{xs:List IV},All2 (VR (au P ν) R φ V.l σ) xs da->∃ys,All2 (λ(z:SE) y=>z.den P ν=aa y) zs ys/\All2 iD xs ys
 |[],V',zs,hr,_=>by
  simp only[tD,ar6,asu]at hr;obtain⟨rfl,rfl⟩:=hr;refine⟨rfl,λ{xs} hx=>?_⟩;cases xs with
  |nil=>exact⟨[],trivial,trivial⟩
  |cons=>exact hx.elim
 |pv::da,V',zs,hr,hp=>by
  simp only[List.all_cons,ar4]at hp;simp only[tD]at hr;split at hr
  ·rename_i f z V1 qA;obtain⟨e1,a1⟩:=WA (P:=P) (ν:=ν) (R:=R) (φ:=φ) (σ:=σ) hp.1 qA;rw[e1]at hr;split at hr
   ·rename_i zs' V2 PJ;simp only[ar6,asu]at hr;obtain⟨rfl,rfl⟩:=hr;obtain⟨e2,b1⟩:=xk PJ hp.2;refine⟨e2,λ{xs} hx=>?_⟩;cases xs with
    |nil=>exact hx.elim
    |cons x xs=>
     obtain⟨y,c1,c2⟩:=a1 hx.1;obtain⟨ys,d1,d2⟩:=b1 hx.2;exact⟨y::ys,⟨c1,d1⟩,⟨c2,d2⟩⟩
   ·cases hr
  ·cases hr
theorem Eu{t:TypeId}{e:SE}{z:IV}{f:ak}(hz:e.den P ν=aa z)(hp:Pure z)(hs:(rp P t e f).sat P C Q K ν):f.sat P C Q K ν/\VR (au P ν) R φ L σ z (ofType P t e)/\tq (au P ν) R φ L σ z (isAgg P t,ey (ofType P t e)):=by
 unfold rp at hs;unfold ofType;by_cases ha:isAgg P t=ab
 ·rw[if_pos ha]at hs;obtain⟨⟨y,hy⟩,hk⟩:=hs;simp only[SE.den,hz,Option.bind_some]at hy;split at hy
  ·rename_i cs;split at hy
   ·rename_i hc
    have bz:All2 (cD (au P ν) R φ L σ) cs ((List.range ((aN P t).getD 0)).map λj=>Cl.v (SE.bS e j)):=by
     refine .mk (by simp[hc.1]) λi a b h1 h2=>?_;have hi:=(ar3.1 h1).1;rw[asi,List.getElem?_range (by omega)]at h2;simp only[Option.map_some,ar6]at h2;subst h2;have bp:Ev.aj a=ab:=(asl.1 hc.2) a (ash h1);have IQ:Pure a:=by cases hp with|agg _ hh=>exact hh a (ash h1)
     exact⟨a,by simp[au,SE.den,hz,h1,yo,bp],.pure a rfl IQ,bp⟩
    simp only[ha,if_true];exact⟨hk,⟨cs,rfl,bz⟩,by simp only[tq,if_true,ey];exact⟨cs,rfl,bz⟩⟩
   ·cases hy
  ·cases hy
 ·rw[if_neg ha]at hs;obtain⟨⟨y,hy⟩,hk⟩:=hs;obtain⟨h1,h2⟩:=pF hy;rw[hz]at h1;cases h1;have hv:cD (au P ν) R φ L σ z (.v (.ok e)):=⟨z,hy,.pure z rfl hp,h2⟩;rw[if_neg ha];refine⟨hk,hv,?_⟩;simp only[tq,ey];rw[if_neg (by simpa using ha)];exact⟨_,rfl,hv⟩
theorem I7{e:SE}{vs:List IV}{f:ak}(hz:e.den P ν=aa (.az vs))(hp:∀v∈vs,Pure v):∀{ts:List TypeId} {j:Nat},(OX P e j ts f).sat P C Q K ν->j+ts.length=vs.length->f.sat P C Q K ν/\All2 (tq (au P ν) R φ L σ) (vs.drop j) (Ki P e j ts)
 |[],j,hs,hl=>by
  simp at hl;rw[List.drop_of_length_le (by omega)];exact⟨hs,trivial⟩
 |t::ts,j,hs,hl=>by
  simp at hl;have hj:j<vs.length:=by omega
  have hd:(SE.proj e j).den P ν=aa vs[j]:=by simp[SE.den,hz,hj]
  obtain⟨h1,_,h3⟩:=Eu (R:=R) (φ:=φ) (L:=L) (σ:=σ) hd (hp _ (List.getElem_mem hj)) hs;obtain⟨h4,h5⟩:=I7 hz hp h1 (by omega);refine⟨h4,?_⟩;rw[List.drop_eq_getElem_cons hj];exact⟨h3,h5⟩
theorem aby{fn:Func}{e:SE}{z:IV}(hz:e.den P ν=aa z)(hp:Pure z)(ht:fn.resultTypes.size≠1->NO fn.resultTypes.size z=ab)(hs:(NC P fn V e k).sat P C Q K ν):∃pv,(k pv V).sat P C Q K ν/\VR (au P ν) R φ L σ z pv:=by
 unfold NC at hs;split at hs
 ·rename_i t _;obtain⟨h1,h2,_⟩:=Eu (R:=R) (φ:=φ) (L:=L) (σ:=σ) hz hp hs;exact⟨_,h1,h2⟩
 ·rename_i hn
  have aT:fn.resultTypes.size≠1:=by
   intro h;have:fn.resultTypes.toList.length=1:=by simpa using h
   obtain⟨t,ht⟩:=List.length_eq_one_iff.1 this;exact hn t ht
  have:=ht aT;unfold NO at this;split at this
  ·rename_i vs;have hl:vs.length=fn.resultTypes.size:=by simpa using this
   obtain⟨h1,h2⟩:=I7 (R:=R) (φ:=φ) (L:=L) (σ:=σ) (j:=0) hz (λv hv=>by cases hp with|az _ hh=>exact hh v hv) hs (by simp[hl]);exact⟨_,h1,vs,rfl,by simpa using h2⟩
  ·cases this
end Go.Ev
namespace Go.Ev
variable{P:Program}{N:Nat}{σ ao:St}{R R':Rs}{φ aL:Ph}{E:Nat->Env}{ν:List IV}{ro:Nat}{ι:Io}{w:World}{cfg:bg}{self:nB}
variable{C:Cr}{Q:IV->Prop}{K:List (List IV->Prop)}{V:SS}{d f0:Nat}{o:Oper}{k:PV SE->SS->ak}{L:List (LO SE)}{Γ:Gm SE}
theorem agw{ys:List IV}{bs:List (Nat×Nat)}(h:All2 (λy (p:Nat×Nat)=>∃id cs,φ p.1=aa id/\L[p.1]?=aa (.var cs)/\y=.ptr id 0 0 p.2) ys bs):All2 (VR (au P ν) R φ L σ) ys (bs.map λ(p:Nat×Nat)=>.one (.pt p.1 0 p.2)):=
 h.map (f:=λ(p:Nat×Nat)=>PV.one (Cl.pt p.1 0 p.2)) λ_ _ h=>h
theorem ki{x:IV}{g:FuncId}{bs:List (Nat×Nat)}{args:List IV}{fn:Func}(hx:VR (au P ν) R φ L σ x (.one (.fn g bs)))(bT:P.funcs[g]?=aa fn)(hb:fn.body.isSome=ab)(lj:(fn.name != "runtime.NumGoroutine")=ab):
 ∃ys,gu P x args=aa (.enter g (args++ys))/\All2 (VR (au P ν) R φ L σ) ys (bs.map λ(p:Nat×Nat)=>.one (.pt p.1 0 p.2)):=by
 rcases hx with⟨rfl,rfl⟩|⟨ys,rfl,h⟩
 ·refine⟨[],?_,trivial⟩;simp only[gu,bT,hb,lj,Array.size_empty,asm];simp
 ·refine⟨ys,?_,agw h⟩;simp only[gu,bT,hb,lj,List.nil_append,Bool.and_self,if_true]
theorem FZ{xs ys:List IV}(h:All2 (bn ab R σ) xs ys):DX ab σ xs ys:=⟨h.len,λ_ _ _ h1 h2=>(h.get h1 h2).can⟩
def an2(P:Program)(C:Cr)(Q:IV->Prop)(K:List (List IV->Prop))(ν:List IV)(E:Nat->Env)(lv:Nat×Nat)(k:PV SE->SS->ak)(φ:Ph)(σ:St)(res:FuncId->List IV->Prop):Prop:=
 ∃g args z R1 pv V1 μ,res g args/\(∀ro,gJ P ro g args σ z σ)/\J (au P (ν++μ)) R1 φ V1.g V1.l E σ/\VR (au P (ν++μ)) R1 φ V1.l σ z pv/\(ν++μ).length=V1.n/\V1.ln=lv/\(k pv V1).sat P C Q K (ν++μ)
theorem PK(hC:jb P C)(hJ:J (au P ν) R φ V.g V.l E σ)(hn:ν.length=V.n){c:Call}{f:Operand}{g:FuncId}(ho:o.op=.call c)(hc:c.callee=.value f)(hf:bN P d V 0 f=.one (.fn g [])){zs:List SE}{V':SS}{fn:Func}
 (hr:tD V (ib P d V c.args.toList c.argTypes.toList)=aa (zs,V'))(bT:P.funcs[g]?=aa fn)(hb:fn.body.isSome=ab)(lj:(fn.name != "runtime.NumGoroutine")=ab)(ht:BK (ib P d V c.args.toList c.argTypes.toList)=ab)
 (hs:(ak.call g (!(ib P d V c.args.toList c.argTypes.toList).all ov) (dT zs) (NC P fn {V' with n:=V'.n+1} (.var V'.n) k)).sat P C Q K ν):
 an2 P C Q K ν E V.ln k φ σ (λg args=>av P 0 (ax (E d)) o σ=aa (.enter g args)):=by
 obtain⟨xs,z,h1,h2,h3⟩:=hs;obtain⟨jq,hpz,htu⟩:=(hC _ _ _ _ h2).1 (asX.1 bT).1;have br:=fL hJ d c.args.toList c.argTypes.toList;have oe:=bo hJ d 0 f;rw[hf]at oe;obtain⟨ys,iA,qB⟩:=ki (args:=c.args.toList.map (ax (E d))) oe bT hb lj
 have yH:ys=[]:=by
  cases ys with
  |nil=>rfl
  |cons=>exact qB.elim
 subst yH;rw[asm]at iA
 have eh:av P 0 (ax (E d)) o σ=aa (.enter g (c.args.toList.map (ax (E d)))):=by
  simp only[av,ho,hc];exact iA
 have an3:fn.resultTypes.size≠1->NO fn.resultTypes.size z=ab:=by
  intro aZ;unfold aQ at htu;rw[bT]at htu;simp only[Bool.or_eq_true,beq_iff_eq]at htu;exact htu.resolve_left aZ
 have pH:∀{us:List IV},All2 (λ(z:SE) y=>z.den P ν=aa y) zs us->xs=us:=by
  intro us hu;unfold iE at h1;rw[eB hu]at h1;cases h1;rfl
 obtain⟨R1,ct,bD,jC⟩:=Bb hJ hr ht;obtain⟨us,b1,b2⟩:=jC _ br;have iR:=pH b1;subst iR
 have agx:∀ro,gJ P ro g (c.args.toList.map (ax (E d))) σ z σ:=by
  intro ro;by_cases bz:(ib P d V c.args.toList c.argTypes.toList).all ov=ab
  ·rw[bz]at jq;obtain⟨_,nW⟩:=xk (P:=P) (ν:=ν) (R:=R) (φ:=φ) (σ:=σ) hr bz;obtain⟨ph,c1,c2⟩:=nW br;have:=pH c1;subst this;exact eZ.ajX jq c2
  ·have hf:(ib P d V c.args.toList c.argTypes.toList).all ov=af:=by simpa using bz
   rw[hf]at jq;exact eZ.Fq jq (FZ b2)
 have dJ:ν.length=V'.n:=by rw[hn,ct.2.1]
 have eU:=bD.up (ia:=au P (ν++[z])) (λe y h=>SE.cU P e h);have ig:(SE.var V'.n).den P (ν++[z])=aa z:=by simp[SE.den,<-dJ]
 obtain⟨pv,hk,hv⟩:=aby (R:=R1) (φ:=φ) (L:=V'.l) (σ:=σ) ig hpz an3 h3;exact⟨g,_,z,R1,pv,{V' with n:=V'.n+1},[z],eh,agx,eU,hv,by simp[dJ],ct.2.2.1,hk⟩
theorem Mi(hC:jb P C)(hJ:J (au P ν) R φ V.g V.l E σ)(hn:ν.length=V.n){c:Call}{f:Operand}{g:FuncId}(ho:o.op=.call c)(hc:c.callee=.value f)(hf:bN P d V 0 f=.one (.fn g []))
 (hs:(O7 P g (ib P d V c.args.toList c.argTypes.toList) V k).sat P C Q K ν):
 ∃args v aq R1 dA pv V1 μ,av P 0 (ax (E d)) o σ=aa (.enter g args)/\(∀ro,gJ P ro g args σ v aq)/\(aq=σ\/∃ob,aq=σ.add ob)/\J (au P (ν++μ)) R1 dA V1.g V1.l E aq/\VR (au P (ν++μ)) R1 dA V1.l aq v pv/\(ν++μ).length=V1.n/\V1.ln=V.ln/\(k pv V1).sat P C Q K (ν++μ):=by
 unfold O7 at hs;split at hs<;>first|(exact hs.elim)|skip
 rename_i zs V' fn hr bT;split at hs<;>first|(exact hs.elim)|skip
 rename_i bP;simp only[ar4]at bP;obtain⟨ht,hb,lj⟩:=bP;obtain⟨xs,z,h1,h2,h3⟩:=hs;obtain⟨es,rfl,H_⟩:=(hC _ _ _ _ h2).2.2.2.2.1 g (asX.1 bT).1 rfl;have br:=fL hJ d c.args.toList c.argTypes.toList;have oe:=bo hJ d 0 f;rw[hf]at oe;obtain⟨ys,iA,qB⟩:=ki (args:=c.args.toList.map (ax (E d))) oe bT hb lj
 have yH:ys=[]:=by
  cases ys with
  |nil=>rfl
  |cons=>exact qB.elim
 subst yH;rw[asm]at iA
 have eh:av P 0 (ax (E d)) o σ=aa (.enter g (c.args.toList.map (ax (E d)))):=by
  simp only[av,ho,hc];exact iA
 obtain⟨R1,ct,kA,jC⟩:=Bb hJ hr ht;obtain⟨us,c1,c2⟩:=jC _ br
 have iR:xs=us:=by
  unfold iE at h1;rw[eB c1]at h1;cases h1;rfl
 subst iR;have dJ:ν.length=V'.n:=by rw[hn,ct.2.1]
 have bD:=kA.up (ia:=au P (ν++[IV.tree (cK P g) es])) (λe y h=>SE.cU P e h);have ig:(SE.var V'.n).den P (ν++[IV.tree (cK P g) es])=aa (.tree (cK P g) es):=by simp[SE.den,<-dJ]
 have jB:(V'.l++[LO.row (cK P g) af af af (SE.var V'.n)])[V'.l.length]?=aa (.row (cK P g) af af af (.var V'.n)):=by simp
 have qz:∀ro,gJ P ro g (c.args.toList.map (ax (E d))) σ _ _:=λro=>H_.Fq (ro:=ro) (σ:=σ) (FZ c2);obtain⟨bE,bH,bp,_⟩:=H_;by_cases he:es.isEmpty
 ·have gV:=ate.1 he;subst gV;refine⟨_,_,_,R1,φ,.one (.sr V'.l.length),{V' with n:=V'.n+1,l:=V'.l++[.row (cK P g) af af af (.var V'.n)]},[.tree (cK P g) []],eh,qz,.inl rfl,?_,?_,by simp[dJ],ct.2.2.1,h3⟩
  ·exact(bD.A9 (fr:=af) bE ig).2
  ·exact⟨cK P g,af,af,af,_,[],jB,ig,.inl ⟨xD kA (ar8 _),rfl,.inl rfl⟩⟩
 ·have hif:(if es.isEmpty then σ else σ.add (vZ es))=σ.add (vZ es):=if_neg he;have oe:Et σ.n (cK P g) es=.sl σ.n 0 es.length ah 0 (cK P g):=if_neg he;have hlen:=sI bH;refine⟨_,_,_,R1,bV φ V'.l.length σ.n,.one (.sr V'.l.length),{V' with n:=V'.n+1,l:=V'.l++[.row (cK P g) af af af (.var V'.n)]},[.tree (cK P g) es],eh,qz,.inr ⟨_,hif⟩,?_,?_,by simp[dJ],ct.2.2.1,h3⟩
  ·rw[hif];refine bD.yf (vZ es) _ ⟨bE,es,ig,bH,.inr ⟨σ.n,flat es,0,0,by simp[bV],by simp[vZ],ar8 _,by rw[hlen];exact ar8 _,?_,asl.2 λc hc=>(bp c hc).2,λj x d hx hd=>?_⟩⟩
   ·cases hR:R1 σ.n with
    |none=>rfl
    |some m=>exact absurd (kA.qw _ _ hR) (Nat.lt_irrefl _)
   ·rw[hx]at hd;cases hd;obtain⟨v,rfl⟩:=(bp x (ash hx)).1;exact .raw _
  ·rw[hif,oe];exact⟨cK P g,af,af,af,_,es,jB,ig,.inr ⟨σ.n,flat es,0,0,ah,by simp[bV],by simp[vZ],by simp,asT _,λ_ _=>hlen.symm,λc hc=>by cases hc⟩⟩
theorem Mj(hC:jb P C)(hJ:J (au P ν) R φ V.g V.l E σ)(hn:ν.length=V.n){c:Call}{f:Operand}{g:FuncId}{kt:TypeId}(Di:aa2 P g=aa kt)(ho:o.op=.call c)(hc:c.callee=.value f)(hf:bN P d V 0 f=.one (.fn g []))
 (hs:(Kp P g kt (ib P d V c.args.toList c.argTypes.toList) V k).sat P C Q K ν):
 ∃args v aq R1 dA pv V1 μ,av P 0 (ax (E d)) o σ=aa (.enter g args)/\(∀ro,gJ P ro g args σ v aq)/\(aq=σ\/∃ob,aq=σ.add ob)/\J (au P (ν++μ)) R1 dA V1.g V1.l E aq/\VR (au P (ν++μ)) R1 dA V1.l aq v pv/\(ν++μ).length=V1.n/\V1.ln=V.ln/\(k pv V1).sat P C Q K (ν++μ):=by
 unfold Kp at hs;split at hs<;>first|(exact hs.elim)|skip
 rename_i zs V' fn hr bT;split at hs<;>first|(exact hs.elim)|skip
 rename_i bP;simp only[ar4]at bP;obtain⟨ht,hb,lj⟩:=bP;obtain⟨xs,z,h1,h2,h3⟩:=hs;obtain⟨ds,rfl,H_⟩:=(hC _ _ _ _ h2).2.2.2.2.2.1 g (asX.1 bT).1 rfl;have br:=fL hJ d c.args.toList c.argTypes.toList;have oe:=bo hJ d 0 f;rw[hf]at oe;obtain⟨ys,iA,qB⟩:=ki (args:=c.args.toList.map (ax (E d))) oe bT hb lj
 have yH:ys=[]:=by
  cases ys with
  |nil=>rfl
  |cons=>exact qB.elim
 subst yH;rw[asm]at iA
 have eh:av P 0 (ax (E d)) o σ=aa (.enter g (c.args.toList.map (ax (E d)))):=by
  simp only[av,ho,hc];exact iA
 obtain⟨R1,ct,kA,jC⟩:=Bb hJ hr ht;obtain⟨us,c1,c2⟩:=jC _ br
 have iR:xs=us:=by
  unfold iE at h1;rw[eB c1]at h1;cases h1;rfl
 subst iR;have dJ:ν.length=V'.n:=by rw[hn,ct.2.1]
 have dW:¬gB kt=ab:=by
  unfold aa2 at Di;rw[bT]at Di;simp only at Di;split at Di<;>first|(cases Di;done)|skip
  split at Di<;>first|(cases Di;done)|skip
  split at Di<;>first|(cases Di;done)|skip
  rename_i aZ;cases Di;exact aZ
 have bD:=kA.up (ia:=au P (ν++[IV.az ds])) (λe y h=>SE.cU P e h);have ig:(SE.var V'.n).den P (ν++[IV.az ds])=aa (.az ds):=by simp[SE.den,<-dJ]
 have qz:∀ro,gJ P ro g (c.args.toList.map (ax (E d))) σ _ _:=λro=>H_.Fq (ro:=ro) (σ:=σ) (FZ c2);obtain⟨dO,_⟩:=H_;refine⟨_,_,_,R1,bV φ V'.l.length σ.n,.one (.mp V'.l.length),{V' with n:=V'.n+1,l:=V'.l++[.mp kt (.var V'.n)]},[.az ds],eh,qz,.inr ⟨_,rfl⟩,?_,?_,by simp[dJ],ct.2.2.1,h3⟩
 ·refine bD.yf (.map (j8 ds) ds.length) _ ?_;rw[gL,if_neg dW];refine⟨σ.n,j8 ds,ds.length,ds,ig,by simp[bV],kA.q6,by simp,?_,(qo ds).symm,λi e he=>?_⟩
  ·refine .mk (qo ds) λi e d he hd=>?_;obtain⟨d',vO,rfl⟩:=qn he;rw[hd]at vO;cases vO;obtain⟨kk,v,rfl⟩:=dO d (ash hd);refine⟨lift v,by simp[zR,qj],?_⟩;show bn ab _ _ (lift v) (lift v);unfold lift;split
   ·exact .agg _ _ rfl λi c e h1 h2=>by
     rw[h1]at h2;cases h2;rw[asi]at h1;obtain⟨u,_,rfl⟩:=ar9.1 h1;exact .raw _
   ·exact .raw _
  ·obtain⟨d',vO,rfl⟩:=qn he;obtain⟨kk,v,rfl⟩:=dO d' (ash vO);rfl
 ·exact⟨σ.n,kt,.var V'.n,by simp[bV],by simp,(if_neg dW).symm⟩
theorem TA{fr:Bool}{u:IV}{v:Value}(h:bn fr R σ u (lift v)):u=lift v:=by
 unfold lift at h⊢;split at h
 ·rename_i cs;obtain⟨xs,rfl,iR⟩:=Co h
  congr 1
  apply avv;intro i;cases hi:xs[i]? with
  |none=>
   rw[aua]at hi;have:=iR.len;exact(aua.2 (by omega)).symm
  |some a=>
   have ai:=(ar3.1 hi).1;rw[iR.len]at ai;have hb:=ar2 ai;have:=iR.get hi hb;rw[hb];simp only[List.getElem_map]at this⊢;rw[bZ this]
 ·exact bZ h
theorem Mk{es:List (Value×IV×Nat)}{clock:Nat}{ds:List IV}(he:zo R σ es ds)(hc:Canon es clock)(dO:sJ ds):clock=ds.length/\Ba es ds:=by
 refine⟨by rw[hc.1,All2.len he],All2.len he,λi e d h1 hd=>?_⟩;obtain⟨kk,vv,Ly⟩:=dO d (ash hd);obtain⟨zv,h8,h9⟩:=All2.get he h1 hd;rw[Ly]at h8;simp only[IV.az.injEq,as4,and_true]at h8;obtain⟨h8a,rfl⟩:=h8;exact⟨hc.2 i e h1,vv,TA h9,by rw[Ly,h8a]⟩
theorem PL(hC:jb P C)(hJ:J (au P ν) R φ V.g V.l E σ)(hn:ν.length=V.n){c:Call}{f:Operand}{g:FuncId}(ho:o.op=.call c)(hc:c.callee=.value f)(hf:bN P d V 0 f=.one (.fn g []))
 (hs:(VQ P g (ib P d V c.args.toList c.argTypes.toList) V k).sat P C Q K ν):
 ∃args v aq R1 dA pv V1 μ,av P 0 (ax (E d)) o σ=aa (.enter g args)/\(∀ro,gJ P ro g args σ v aq)/\aq=σ/\J (au P (ν++μ)) R1 dA V1.g V1.l E aq/\VR (au P (ν++μ)) R1 dA V1.l aq v pv/\(ν++μ).length=V1.n/\V1.ln=V.ln/\(k pv V1).sat P C Q K (ν++μ):=by
 have br:=fL hJ d c.args.toList c.argTypes.toList;unfold VQ at hs;split at hs<;>first|(exact hs.elim)|skip
 rename_i j rest Dg;rw[Dg]at br;split at hs<;>first|(exact hs.elim)|skip
 rename_i kt iQ zs V' fn hj hr bT;split at hs<;>first|(exact hs.elim)|skip
 rename_i bP;simp only[ar4,Bool.not_eq_true']at bP;obtain⟨⟨ht,jQ⟩,hb,lj⟩:=bP;have dW:¬gB kt=ab:=by rw[jQ];simp
 obtain⟨xs,z,h1,h2,h3⟩:=hs;obtain⟨ds,nX,rfl,lD⟩:=(hC _ _ _ _ h2).2.2.2.2.2.2 g (asX.1 bT).1 rfl;have oe:=bo hJ d 0 f;rw[hf]at oe;obtain⟨ys,iA,qB⟩:=ki (args:=c.args.toList.map (ax (E d))) oe bT hb lj
 have yH:ys=[]:=by
  cases ys with
  |nil=>rfl
  |cons=>exact qB.elim
 subst yH;rw[asm]at iA
 have eh:av P 0 (ax (E d)) o σ=aa (.enter g (c.args.toList.map (ax (E d)))):=by
  simp only[av,ho,hc];exact iA
 generalize Ml:c.args.toList.map (ax (E d))=al at br eh;cases al with
 |nil=>exact br.elim
 |cons a al=>
  obtain⟨zS,gg⟩:=br;obtain⟨id,lL,gS,g1,g2,g3⟩:=zS;rw[hj]at g2;cases g2;rw[if_neg dW]at g3;subst g3;have dz:=hJ.obj j _ hj;rw[gL,if_neg dW]at dz;obtain⟨bA,es,clock,mj,c1,c2,c3,c4,c5,c6⟩:=dz;rw[g1]at c2;cases c2;have kz:iQ.den P ν=aa (.az mj):=c1;obtain⟨R1,ct,kA,jC⟩:=Bb hJ hr ht;obtain⟨us,e1,e2⟩:=jC _ gg
  have iR:IV.az ds::nX=.az mj::us:=by
   have bz:All2 (λ(z:SE) y=>z.den P ν=aa y) (iQ::zs) (.az mj::us):=⟨kz,e1⟩;unfold iE at h1;rw[eB bz]at h1;cases h1;rfl
  simp only[as4,IV.az.injEq]at iR;obtain⟨rfl,rfl⟩:=iR;have dJ:ν.length=V'.n:=by rw[hn,ct.2.1]
  have bD:=kA.up (ia:=au P (ν++[z])) (λe y h=>SE.cU P e h);have ig:(SE.var V'.n).den P (ν++[z])=aa z:=by simp[SE.den,<-dJ]
  obtain⟨dV,xP⟩:=Mk c5 c6 lD.1;subst dV;obtain⟨vz,rfl,wo⟩:=lD.2.1;exact⟨_,.raw vz,σ,R1,φ,.one (.v (.var V'.n)),{V' with n:=V'.n+1},[.raw vz],eh,λro=>lD.call c4 xP (FZ e2),rfl,bD,⟨.raw vz,ig,.raw _,wo⟩,by simp[dJ],ct.2.2.1,h3⟩
theorem eP(e:Env)(dst:Option Nat)(x:IV):(e.put dst x).n=e.n:=by simp[Env.nu]
theorem Cu{V1:SS}{x:IV}{pv:PV SE}{dst:Option Nat}(hJ:J (au P ν) R φ V1.g V1.l E σ)(hx:VR (au P ν) R φ V1.l σ x pv)(hd:∀t,dst=aa t->t<(E d).n):J (au P ν) R φ (V1.bO d dst pv).g (V1.bO d dst pv).l (qJ E d ((E d).put dst x)) σ:=by
 cases dst with
 |none=>exact hJ.VD (Gz:=V1.g) d ah x (λt h=>by cases h) (λ_=>rfl)
 |some t=>exact hJ.put d (hd t rfl) hx
theorem Cv{V1:SS}{x:IV}{dst:Option Nat}(hJ:J (au P ν) R φ V1.g V1.l E σ):J (au P ν) R φ (V1.jE d dst).g (V1.jE d dst).l (qJ E d ((E d).put dst x)) σ:=by
 cases dst with
 |none=>exact hJ.VD (Gz:=V1.g) d ah x (λt h=>by cases h) (λ_=>rfl)
 |some t=>exact hJ.VD (Gz:=BI d t V1.g) d (aa t) x (λt' h=>by cases h;rfl) (λh=>by cases h)
@[simp] theorem Ew(V1:SS)(dst:Option Nat)(pv:PV SE):(V1.bO d dst pv).n=V1.n:=by cases dst<;>rfl
@[simp] theorem WB(V1:SS)(dst:Option Nat)(pv:PV SE):(V1.bO d dst pv).ln=V1.ln:=by cases dst<;>rfl
@[simp] theorem anj(V1:SS)(dst:Option Nat)(pv:PV SE):(V1.bO d dst pv).l=V1.l:=by cases dst<;>rfl
@[simp] theorem Ey(V1:SS)(dst:Option Nat):(V1.jE d dst).n=V1.n:=by cases dst<;>rfl
@[simp] theorem Cw(V1:SS)(dst:Option Nat):(V1.jE d dst).ln=V1.ln:=by cases dst<;>rfl
theorem J.refine(hJ:J (au P ν) R φ V.g V.l E σ){t:Nat}{e:SE}{b:Bool}(hg:cy d t V.g=aa (.one (.v e))\/∃f,cy d t V.g=aa (.one (.w f e)))(he:e.den P ν=aa (.bool b)):(E d).at t=.raw (.bool b)/\J (au P ν) R φ (V.bO d (aa t) (.one (.v (.b b)))).g V.l E σ:=by
 have aE:(E d).at t=.raw (.bool b):=by
  rcases hg with hg|⟨f,hg⟩
  ·obtain⟨y,h1,h2,_⟩:=hJ.slot d t _ hg;have cZ:e.den P ν=aa y:=h1;rw[he]at cZ;cases cZ;exact bZ h2
  ·obtain⟨y,h1,h2,_⟩:=hJ.slot d t _ hg;have cZ:e.den P ν=aa y:=h1;rw[he]at cZ;cases cZ;exact bZ h2
 refine⟨aE,{hJ with slot:=λd' t' C_ Ez=>?_}⟩;rcases m_ Ez with⟨rfl,rfl,rfl⟩|⟨_,h3⟩
 ·exact⟨.raw (.bool b),rfl,by rw[aE];exact .raw _,rfl⟩
 ·exact hJ.slot d' t' C_ (Hf V.g h3).2
theorem PM(hJ:J (au P ν) R φ V.g V.l E σ)(cn:(E d).n=V.nt){ops:Array Oper}:
 (tB ops d V o=.run->aO o ops (E d)=ab)/\(tB ops d V o=.skip->aO o ops (E d)=af)/\
 ∀t e want,tB ops d V o=.test t e want->(cy d t V.g=aa (.one (.v e))\/∃f,cy d t V.g=aa (.one (.w f e)))/\∀b,(E d).at t=.raw (.bool b)->aO o ops (E d)=(b==want):=by
 unfold tB aO;cases o.guard with
 |none=>simp
 |some p=>
  obtain⟨j,want⟩:=p;simp only;cases hd:(ops[j]?).bind (·.dst)with
  |none=>simp
  |some t=>
   simp only;by_cases ai:as7 t V.nt=ab
   ·rw[cn,ai];simp only[Bool.not_true,if_true];cases hg:cy d t V.g with
    |none=>simp
    |some pv=>
     have hs:=hJ.slot d t pv hg;cases pv with
     |ag|tu=>simp
     |one c=>
      cases c with
      |v e=>
       cases e with
       |b x=>
        obtain⟨y,h1,h2,_⟩:=hs;simp only[au,SE.den,ar6]at h1;subst h1;rw[bZ h2];simp only;refine⟨λh=>?_,λh=>?_,λt e w h=>?_⟩
        ·simp only[asA,if_false]at h;split at h
         ·assumption
         ·cases h
        ·simp only[asA,if_false]at h;split at h
         ·cases h
         ·rename_i hh;simpa using hh
        ·simp only[asA,if_false]at h;split at h<;>cases h
       |_=>
        refine⟨λh=>by simp at h,λh=>by simp at h,λt' e' w' h=>?_⟩;simp only[asA,if_false,Want.test.injEq]at h;obtain⟨rfl,rfl,rfl⟩:=h;exact⟨.inl hg,λb hb=>by rw[hb]⟩
      |w f e=>
       refine⟨λh=>by simp at h,λh=>by simp at h,λt' e' w' h=>?_⟩;simp only[asA,if_false,Want.test.injEq]at h;obtain⟨rfl,rfl,rfl⟩:=h;exact⟨.inr ⟨f,hg⟩,λb hb=>by rw[hb]⟩
      |_=>simp
   ·have fX:as7 t V.nt=af:=by cases h:as7 t V.nt;rfl;exact absurd h ai
    rw[fX];simp
end Go.Ev
namespace Go.Ev
variable{P:Program}{N:Nat}{σ ao:St}{R R':Rs}{φ aL:Ph}{E:Nat->Env}{ν:List IV}{ro:Nat}{ι:Io}{w:World}{cfg:bg}{self:nB}
variable{C:Cr}{Q:IV->Prop}{K:List (List IV->Prop)}{V:SS}{d f0:Nat}{o:Oper}{k:PV SE->SS->ak}{L:List (LO SE)}{Γ:Gm SE}{rd:Option Nat}{df:List Df}
def XR(P:Program)(ν:List IV)(R:Rs)(φ:Ph)(L:List (LO SE))(σ:St):zw->Ex->Prop
 |.normal,x=>x=.normal
 |.exit i,x=>x=.exit i
 |.ret,x=>x=.ret
 |.bY t pv,x=>∃v,x=.bY (.di t v)/\VR (au P ν) R φ L σ v pv
structure v7(P:Program)(d:Nat)(E:Nat->Env)(K:List (List IV->Prop))(ν:List IV)(nt:Nat)(V':SS)(μ:List IV)(K':List (List IV->Prop))(R':Rs)(aL:Ph)(E':Nat->Env)(ao:St):Prop where
 hK:K<+:K'
 fP:K'.length=V'.lv
 cn:V'.nt=nt
 hJ:J (au P (ν++μ)) R' aL V'.g V'.l E' ao
 hn:(ν++μ).length=V'.n
 hE:∀j,j<d->E' j=E j
 I8:(E' d).n=(E d).n
def KW(P:Program)(C:Cr)(Q:IV->Prop)(d:Nat)(E:Nat->Env)(K:List (List IV->Prop))(ν:List IV)(nt:Nat)(k:zw->SS->ak)(CW:Nat->jS):Prop:=
 ∀ex (V':SS) μ K' R' aL E' ao x,v7 P d E K ν nt V' μ K' R' aL E' ao->XR P (ν++μ) R' aL V'.l ao ex x->(k ex V').sat P C Q K' (ν++μ)->∃b,∀N,b<=N->ao.n<=N/\CW N x (E' d) ao
def KP(P:Program)(C:Cr)(Q:IV->Prop)(d:Nat)(E:Nat->Env)(K:List (List IV->Prop))(ν:List IV)(nt:Nat)(kx:Kx)(CW:Nat->IV->Env->St->Prop):Prop:=
 ∀t pv (V':SS) μ K' R' aL E' ao v,v7 P d E K ν nt V' μ K' R' aL E' ao->VR (au P (ν++μ)) R' aL V'.l ao v pv->(kx t pv V').sat P C Q K' (ν++μ)->∃b,∀N,b<=N->ao.n<=N/\CW N (.di t v) (E' d) ao
def KS(P:Program)(C:Cr)(Q:IV->Prop)(d:Nat)(E:Nat->Env)(K:List (List IV->Prop))(ν:List IV)(nt:Nat)(k:SS->ak)(CW:Nat->Env->St->Prop):Prop:=
 ∀(V':SS) μ K' R' aL E' ao,v7 P d E K ν nt V' μ K' R' aL E' ao->(k V').sat P C Q K' (ν++μ)->∃b,∀N,b<=N->ao.n<=N/\CW N (E' d) ao
def oY(P:Program)(C:Cr)(Q:IV->Prop)(self:nB):Prop:=
 ∀d f c (V:SS) k ν K R φ E σ CW rd df,(self d f c V k).sat P C Q K ν->J (au P ν) R φ V.g V.l E σ->ν.length=V.n->K.length=V.lv->(E d).n=V.nt->KW P C Q d E K ν V.nt k CW->∃b,∀N,b<=N->dF P N rd c (E d) df σ (CW N)
theorem v7.trans{nt:Nat}{V1 V2:SS}{zT μ2:List IV}{K1 K2:List (List IV->Prop)}{R1 R2:Rs}{dA Dc:Ph}{E1 E2:Nat->Env}{aq dm:St}(h1:K<+:K1)(h2:∀j,j<d->E1 j=E j)(h3:(E1 d).n=(E d).n)
 (h:v7 P d E1 K1 (ν++zT) nt V2 μ2 K2 R2 Dc E2 dm):v7 P d E K ν nt V2 (zT++μ2) K2 R2 Dc E2 dm where
 hK:=h1.trans h.hK
 fP:=h.fP
 cn:=h.cn
 hJ:=by rw[<-ast];exact h.hJ
 hn:=by rw[<-ast];exact h.hn
 hE:=λj hj=>(h.hE j hj).trans (h2 j hj)
 I8:=h.I8.trans h3
theorem KW.fwd{nt:Nat}{kk:zw->SS->ak}{CW:Nat->jS}{zT:List IV}{K1:List (List IV->Prop)}{E1:Nat->Env}(h:KW P C Q d E K ν nt kk CW)(h1:K<+:K1)(h2:∀j,j<d->E1 j=E j)(h3:(E1 d).n=(E d).n):KW P C Q d E1 K1 (ν++zT) nt kk CW:=
 λex V' μ K' R' aL E' ao x hf hx hs=>h ex V' (zT++μ) K' R' aL E' ao x (v7.trans (V1:=V') (R1:=R') (dA:=aL) (aq:=ao) h1 h2 h3 hf) (by rw[<-ast];exact hx) (by rw[<-ast];exact hs)
theorem KP.fwd{nt:Nat}{kk:Kx}{CW:Nat->IV->Env->St->Prop}{zT:List IV}{K1:List (List IV->Prop)}{E1:Nat->Env}(h:KP P C Q d E K ν nt kk CW)(h1:K<+:K1)(h2:∀j,j<d->E1 j=E j)(h3:(E1 d).n=(E d).n):KP P C Q d E1 K1 (ν++zT) nt kk CW:=
 λt pv V' μ K' R' aL E' ao v hf hv hs=>h t pv V' (zT++μ) K' R' aL E' ao v (v7.trans (V1:=V') (R1:=R') (dA:=aL) (aq:=ao) h1 h2 h3 hf) (by rw[<-ast];exact hv) (by rw[<-ast];exact hs)
theorem KW.kp{nt:Nat}{kk:zw->SS->ak}{CW:Nat->jS}(h:KW P C Q d E K ν nt kk CW):KP P C Q d E K ν nt (λt pv V=>kk (.bY t pv) V) (λN v e σ=>CW N (.bY v) e σ):=
 λt pv V' μ K' R' aL E' ao v hf hv hs=>h (.bY t pv) V' μ K' R' aL E' ao _ hf ⟨v,rfl,hv⟩ hs
theorem KS.fwd{nt:Nat}{kk:SS->ak}{CW:Nat->Env->St->Prop}{zT:List IV}{K1:List (List IV->Prop)}{E1:Nat->Env}(h:KS P C Q d E K ν nt kk CW)(h1:K<+:K1)(h2:∀j,j<d->E1 j=E j)(h3:(E1 d).n=(E d).n):KS P C Q d E1 K1 (ν++zT) nt kk CW:=
 λV' μ K' R' aL E' ao hf hs=>h V' (zT++μ) K' R' aL E' ao (v7.trans (V1:=V') (R1:=R') (dA:=aL) (aq:=ao) h1 h2 h3 hf) (by rw[<-ast];exact hs)
theorem v7.here(hJ:J (au P ν) R φ V.g V.l E σ)(hn:ν.length=V.n)(hK:K.length=V.lv):v7 P d E K ν V.nt V [] K R φ E σ:=
 ⟨List.prefix_refl _,hK,rfl,by rw[asm];exact hJ,by rw[asm];exact hn,λ_ _=>rfl,rfl⟩
theorem KS.now{kk:SS->ak}{CW:Nat->Env->St->Prop}(h:KS P C Q d E K ν V.nt kk CW)(hJ:J (au P ν) R φ V.g V.l E σ)(hn:ν.length=V.n)(hK:K.length=V.lv)(hs:(kk V).sat P C Q K ν):∃b,∀N,b<=N->σ.n<=N/\CW N (E d) σ:=
 h V [] K R φ E σ (.here hJ hn hK) (by rw[asm];exact hs)
theorem KW.now{kk:zw->SS->ak}{CW:Nat->jS}(h:KW P C Q d E K ν V.nt kk CW)(hJ:J (au P ν) R φ V.g V.l E σ)(hn:ν.length=V.n)(hK:K.length=V.lv){ex:zw}{x:Ex}(hx:XR P ν R φ V.l σ ex x)(hs:(kk ex V).sat P C Q K ν):∃b,∀N,b<=N->σ.n<=N/\CW N x (E d) σ:=
 h ex V [] K R φ E σ x (.here hJ hn hK) (by rw[asm];exact hx) (by rw[asm];exact hs)
theorem YG(hJ:J (au P ν) R φ V.g V.l E σ){t:TypeId}{pa pv:PV SE}{x:IV}(hx:VR (au P ν) R φ V.l σ x pa)(hl:O6 P t pa V=aa pv):
 ∃id off ext s cE v,x=.ptr id off 0 ext/\aN P t=aa s/\σ.at id=aa (.cells cE 0 0)/\s<=ext/\partOf P t cE off=aa v/\VR (au P ν) R φ V.l σ v pv:=by
 unfold O6 at hl;split at hl<;>first|(cases hl;done)|skip
 rename_i s b j off ext aT Dg;split at hl<;>first|(cases hl;done)|skip
 rename_i cs hj;split at hl<;>first|(cases hl;done)|skip
 rename_i hle;simp only[ar4,atJ]at hle;obtain⟨id,qt,h1,h2,rfl⟩:=hx;obtain⟨bA,cE,h3,h4,h5,h6⟩:=hJ.obj j _ hj;rw[h1]at h3;cases h3
 have qy:if isAgg P t=ab then pv=.ag ((cs.drop off).take s)else∃c,(cs.drop off).take s=[c]/\pv=.one c:=by
  split at hl
  ·rename_i ha;cases hl;rw[if_pos ha]
  ·rename_i ha;rw[if_neg ha];split at hl
   ·rename_i c hc;cases hl;exact⟨c,hc,rfl⟩
   ·cases hl
 obtain⟨v,hv,hr⟩:=sG aT Dg h6 hle.2 qy;exact⟨id,off,ext,s,cE,v,rfl,aT,h5,hle.1,hv,hr⟩
def wq(P:Program)(e:Env)(σ:St)(r:ResultVar):Option IV:=
 match r with
 |.tmp t=>aa (e.at t)
 |.cell a t=>match e.at a with
  |.ptr id off ep ext=>match aN P t,σ.at id with
   |some s,aa (.cells cs ay mn)=>if s<=ext/\mn<=ep/\ep<=ay then partOf P t cs off else ah
   |_,_=>ah
  |_=>ah
theorem lA(hJ:J (au P ν) R φ V.g V.l E σ):∀{rs:List ResultVar} {da:List (PV SE)},lx P d V rs=aa da->∃vs,rs.mapM (wq P (E d) σ)=aa vs/\All2 (VR (au P ν) R φ V.l σ) vs da
 |[],da,h=>by
  simp only[lx,ar6]at h;subst h;exact⟨[],rfl,trivial⟩
 |.tmp t::rs,da,h=>by
  simp only[lx]at h;split at h
  ·rename_i ju hp;cases h;obtain⟨vs,h1,h2⟩:=lA hJ hp;refine⟨(E d).at t::vs,by simp[at6,wq,h1],?_,h2⟩;exact bo hJ d 0 (.tmp t)
  ·cases h
 |.cell a t::rs,da,h=>by
  simp only[lx]at h;split at h
  ·rename_i pa IQ;split at h
   ·rename_i pv ju hl hp;cases h;obtain⟨vs,h1,h2⟩:=lA hJ hp;obtain⟨id,off,ext,s,cE,v,g1,g2,g3,g4,g5,g6⟩:=YG hJ (hJ.slot d a pa IQ) hl;refine⟨v::vs,?_,g6,h2⟩;have:wq P (E d) σ (.cell a t)=aa v:=by simp[wq,g1,g2,g3,g4,g5]
    simp[at6,this,h1]
   ·cases h
  ·cases h
def EA:List IV->IV
 |[v]=>v
 |l=>.az l
theorem KN{vs:List IV}{da:List (PV SE)}(h:All2 (VR (au P ν) R φ L σ) vs da):VR (au P ν) R φ L σ (EA vs) (Ee da):=by
 have conv:∀{x:IV} {pv:PV SE},VR (au P ν) R φ L σ x pv->tq (au P ν) R φ L σ x (match pv with|.one c=>(af,[c])|.ag cs=>(ab,cs)|.tu _=>(af,[.un])):=by
  intro x pv hx;cases pv with
  |one c=>exact⟨c,rfl,hx⟩
  |ag cs=>exact hx
  |tu vs=>exact⟨.un,rfl,trivial⟩
 match vs,da,h with
 |[],[],_=>trivial
 |[v],[pv],h=>exact h.1
 |v::v'::vs,pv::C_::da,h=>exact⟨_,rfl,h.map λ_ _ bR=>conv bR⟩
theorem kB{fn:Func}{e:Env}{vs:List IV}(h:fn.results.toList.mapM (wq P e σ)=aa vs):bJ P fn e σ=aa (EA vs):=by
 unfold bJ;simp only
 have arU:∀r,(match r with
  |axT t=>aa (e.at t)
  |axU a t=>match e.at a with
   |.ptr id off ep ext=>match aN P t,σ.at id with
    |some s,aa (.cells cs ay mn)=>if s<=ext/\mn<=ep/\ep<=ay then partOf P t cs off else ah
    |_,_=>ah
   |_=>ah)=wq P e σ r:=λr=>rfl
 generalize hl:fn.results.toList=l at h⊢
 match l,h with
 |[],h=>simp[av3]at h;subst h;rfl
 |[r],h=>
  simp only[at6,av3]at h;cases ho:wq P e σ r with
  |none=>rw[ho]at h;simp at h
  |some v=>rw[ho]at h;simp at h;subst h;exact ho
 |r::r'::rs,h=>
  have hlen:∃v v' wy,vs=v::v'::wy:=by
   simp only[at6]at h;cases h1:wq P e σ r with
   |none=>rw[h1]at h;simp at h
   |some v=>
    cases h2:wq P e σ r' with
    |none=>rw[h1,h2]at h;simp at h
    |some v'=>
     cases h3:rs.mapM (wq P e σ)with
     |none=>rw[h1,h2,h3]at h;simp at h
     |some wy=>rw[h1,h2,h3]at h;simp at h;exact⟨v,v',wy,h.symm⟩
  obtain⟨v,v',wy,rfl⟩:=hlen;have h':(r::r'::rs).mapM (wq P e σ)=aa (v::v'::wy):=h;have e2:(match(r::r'::rs).mapM (wq P e σ)with|some vs=>aa (IV.az vs)|none=>ah)=aa (EA (v::v'::wy)):=by rw[h'];rfl
  exact e2
end Go.Ev
namespace Go.Ev
variable{P:Program}{N:Nat}{σ ao:St}{R R':Rs}{φ aL:Ph}{E:Nat->Env}{ν:List IV}{ro:Nat}{ι:Io}{w:World}{cfg:bg}{self:nB}
variable{C:Cr}{Q:IV->Prop}{K:List (List IV->Prop)}{V:SS}{d f0:Nat}{o:Oper}{k:PV SE->SS->ak}{L:List (LO SE)}{Γ:Gm SE}{rd:Option Nat}{df:List Df}
theorem gE(E:Nat->Env)(d:Nat)(e:Env){j:Nat}(h:j≠d):qJ E d e j=E j:=by simp[qJ,h]
theorem GL{α:Type}{d t:Nat}{pv:PV α}:∀{g h:List (Nat×Nat×PV α)},cy d t (g++h)=aa pv->cy d t g=aa pv\/cy d t h=aa pv
 |[],h,hg=>.inr hg
 |(a,b,q)::g,h,hg=>by
  simp only[List.cons_append,cy]at hg⊢;split at hg
  ·rename_i hc;rw[if_pos hc];exact .inl hg
  ·rename_i hc;rw[if_neg hc];exact GL hg
theorem fw{α:Type}{d d' t:Nat}{pv:PV SE}:∀{da:List (PV SE)} {j:Nat},cy d' t (setArgs d j da)=aa pv->d'=d/\j<=t/\da[t- j]?=aa pv
 |[],j,h=>by cases h
 |q::da,j,h=>by
  simp only[setArgs]at h;rcases m_ h with⟨rfl,rfl,rfl⟩|⟨aZ,h2⟩
  ·simp
  ·obtain⟨rfl,h3,h4⟩:=fw (α:=α) h2;refine⟨rfl,by omega,?_⟩;rw[show t- j=(t-(j+1))+1 by omega];simpa using h4
theorem tY{d d' t:Nat}{pv:PV SE}:∀{g:List (Nat×Nat×PV SE)},cy d' t (jF d g)=aa pv->d'≠d/\cy d' t g=aa pv
 |[],h=>by cases h
 |(a,b,q)::g,h=>by
  simp only[jF]at h;split at h
  ·rename_i hc;have xQ:=asb hc;obtain⟨h1,h2⟩:=tY h;refine⟨h1,?_⟩;unfold cy;rw[if_neg]
   ·exact h2
   ·simp only[ar4,asK];rintro⟨rfl,_⟩;exact h1 xQ
  ·rename_i hc;have xQ:a≠d:=by intro h;subst h;simp at hc
   rcases m_ h with⟨rfl,rfl,rfl⟩|⟨aZ,h2⟩
   ·exact⟨xQ,by simp[cy]⟩
   ·obtain⟨h3,h4⟩:=tY h2;refine⟨h3,?_⟩;unfold cy;rw[if_neg (by simpa only[ar4,asK]using aZ)];exact h4
theorem I9:∀(args:List IV) (j:Nat) (e:Env) (t:Nat),j+args.length<=e.n->((args.zipIdx j).foldl (λe (p:IV×Nat)=>e.put (aa p.2) p.1) e).n=e.n/\
 (((args.zipIdx j).foldl (λe (p:IV×Nat)=>e.put (aa p.2) p.1) e).at t=if j<=t/\t<j+args.length then(args[t- j]?).getD .undef else e.at t)
 |[],j,e,t,_=>by simp;intro h1 h2;omega
 |a::args,j,e,t,h=>by
  simp only[asV]at h;simp only[List.zipIdx_cons,List.foldl_cons];obtain⟨h1,h2⟩:=I9 args (j+1) (e.put (aa j) a) t (by rw[eP];omega);refine⟨by rw[h1,eP],?_⟩;rw[h2];by_cases hc:j+1<=t/\t<j+1+args.length
  ·rw[if_pos hc,if_pos ⟨by omega,by simp;omega⟩,show t- j=(t-(j+1))+1 by omega];simp
  ·rw[if_neg hc];by_cases ht:t=j
   ·subst ht;rw[if_pos ⟨ar8 _,by simp⟩,Env.cV,if_pos ⟨by omega,rfl⟩];simp
   ·rw[if_neg (by simp;omega),C9 _ _ _ _ (by simpa using λh=>ht h.symm)]
theorem cP{args:List IV}{n t:Nat}(h:args.length<=n):(cJ args n).n=n/\(t<args.length->(cJ args n).at t=(args[t]?).getD .undef):=by
 obtain⟨h1,h2⟩:=I9 args 0 ⟨n,.lf⟩ t (by simpa using h);refine⟨h1,λht=>?_⟩;have:=h2;rw[if_pos ⟨asT _,by omega⟩]at this;exact this
theorem YH(hJ:J (au P ν) R φ V.g V.l E σ){args:List IV}{da:List (PV SE)}{n:Nat}(h:All2 (VR (au P ν) R φ V.l σ) args da)(hl:args.length<=n):
 J (au P ν) R φ (setArgs (d+1) 0 da++jF (d+1) V.g) V.l (qJ E (d+1) (cJ args n)) σ:=by
 refine{hJ with slot:=λd' t pv hg=>?_};rcases GL hg with hg|hg
 ·obtain⟨rfl,_,h3⟩:=fw (α:=IV) hg;have ht:t<args.length:=by rw[h.len];have:=(ar3.1 h3).1;simpa using this
  rw[cg,(cP hl).2 ht,ar2 ht];exact h.get (ar2 ht) (by simpa using h3)
 ·obtain⟨h1,h2⟩:=tY hg;rw[gE _ _ _ h1];exact hJ.slot d' t pv h2
theorem zU(hJ:J (au P ν) R φ V.g V.l E σ)(d:Nat):J (au P ν) R φ (jF d V.g) V.l E σ:=hJ.less λ_ _ _ h=>(tY h).2
theorem Cx(bf:oY P C Q self)(hJ:J (au P ν) R φ V.g V.l E σ)(hn:ν.length=V.n)(hK:K.length=V.lv)(cn:(E d).n=V.nt){g:FuncId}{dst:Option Nat}{args:List IV}{da:List (PV SE)}(br:All2 (VR (au P ν) R φ V.l σ) args da)
 {kx:Kx}(hs:(sB P cfg self kx d f0 dst g da V k).sat P C Q K ν){RW PW:Nat->IV->St->Prop}
 (hk:∀(pv:PV SE) (V':SS) μ K' R' aL E' ao v,v7 P d E K ν V.nt V' μ K' R' aL E' ao->E' d=E d->VR (au P (ν++μ)) R' aL V'.l ao v pv->(k pv V').sat P C Q K' (ν++μ)->∃b,∀N,b<=N->ao.n<=N/\RW N v ao)
 (YI:∀t (pv:PV SE) (V':SS) μ K' R' aL E' ao v,v7 P d E K ν V.nt V' μ K' R' aL E' ao->E' d=E d->VR (au P (ν++μ)) R' aL V'.l ao v pv->(kx t pv V').sat P C Q K' (ν++μ)->∃b,∀N,b<=N->ao.n<=N/\PW N (.di t v) ao):
 ∃fn,P.funcs[g]?=aa fn/\fn.body.isSome=ab/\(fn.name != "runtime.NumGoroutine")=ab/\∃b,∀N,b<=N->wP P N g args σ (RW N) (PW N):=by
 unfold sB at hs;split at hs<;>first|(exact hs.elim)|skip
 rename_i fn bT;split at hs<;>first|(exact hs.elim)|skip
 rename_i body hb;split at hs<;>first|(exact hs.elim)|skip
 split at hs<;>first|(exact hs.elim)|skip
 rename_i hc;simp only[ar4,atJ]at hc;have hl:args.length<=fn.ntmps:=by rw[br.len];exact hc.1
 refine⟨fn,bT,by simp[hb],hc.2,?_⟩;have bD:=YH (d:=d) hJ br hl
 obtain⟨b,si⟩:=bf (d+1) _ body {V with g:=setArgs (d+1) 0 da++jF (d+1) V.g,nt:=fn.ntmps} _ ν K R φ (qJ E (d+1) (cJ args fn.ntmps)) σ
  (λN ex e1 aq=>aq.n<=N/\(((ex=.normal\/ex=.ret)/\∃v,bJ P fn e1 aq=aa v/\RW N v aq)\/∃v,ex=.bY v/\PW N v aq)) ah [] hs bD hn hK (by rw[cg,(cP (t:=0) hl).1]) (by
   intro ex V' μ K' R' aL E' ao x hf hx bt;have nb:E' d=E d:=by rw[hf.hE d (by omega),gE _ _ _ (by omega)]
   have main:∀ju,lx P (d+1) V' fn.results.toList=aa ju->(k (Ee ju) {V' with g:=jF (d+1) V'.g,nt:=V.nt}).sat P C Q K' (ν++μ)->∃b,∀N,b<=N->ao.n<=N/\ao.n<=N/\∃v,bJ P fn (E' (d+1)) ao=aa v/\RW N v ao:=by
    intro ju hr dK;obtain⟨vs,h1,h2⟩:=lA hf.hJ hr;have hv:=KN h2
    obtain⟨b,hb⟩:=hk (Ee ju) {V' with g:=jF (d+1) V'.g,nt:=V.nt} μ K' R' aL E' ao (EA vs)
     ⟨hf.hK,hf.fP,rfl,zU hf.hJ (d+1),hf.hn,λj hj=>by rw[hf.hE j (by omega),gE _ _ _ (by omega)],by rw[nb]⟩ nb hv dK
    exact⟨b,λN hN=>⟨(hb N hN).1,(hb N hN).1,EA vs,kB h1,(hb N hN).2⟩⟩
   cases ex with
   |exit i=>exact bt.elim
   |bY t pv=>
    obtain⟨v,rfl,hv⟩:=hx
    obtain⟨b,hb⟩:=YI t pv {V' with g:=jF (d+1) V'.g,nt:=V.nt} μ K' R' aL E' ao v
     ⟨hf.hK,hf.fP,rfl,zU hf.hJ (d+1),hf.hn,λj hj=>by rw[hf.hE j (by omega),gE _ _ _ (by omega)],by rw[nb]⟩ nb hv bt
    exact⟨b,λN hN=>⟨(hb N hN).1,(hb N hN).1,.inr ⟨_,rfl,(hb N hN).2⟩⟩⟩
   |normal=>
    obtain rfl:=hx;simp only at bt;split at bt
    ·rename_i ju hr;obtain⟨b,hb⟩:=main ju hr bt;exact⟨b,λN hN=>⟨(hb N hN).1,(hb N hN).2.1,.inl ⟨.inl rfl,(hb N hN).2.2⟩⟩⟩
    ·exact bt.elim
   |ret=>
    obtain rfl:=hx;simp only at bt;split at bt
    ·rename_i ju hr;obtain⟨b,hb⟩:=main ju hr bt;exact⟨b,λN hN=>⟨(hb N hN).1,(hb N hN).2.1,.inl ⟨.inr rfl,(hb N hN).2.2⟩⟩⟩
    ·exact bt.elim)
 refine⟨b,λN hN=>?_⟩;have:=si N hN;rw[cg]at this;exact wP.body bT hb hl this
end Go.Ev
namespace Go.Ev
variable{P:Program}{N:Nat}{σ ao:St}{R R':Rs}{φ aL:Ph}{E:Nat->Env}{ν qC vs:List IV}{n:Nat}{args:List SE}{dU:List (Nat×Nat)}
theorem aex{qC a b:List IV}:∀(e:SE),e.wE qC.length=ab->e.den P (qC++a)=e.den P (qC++b):=by
 intro e;induction e with
 |var x=>
  intro h;simp only[SE.wE]at h;have hx:x<qC.length:=by simpa using h
  simp[SE.den,asd hx]
 |i|k|b|s|raw|an=>intro _;rfl
 |ok e ih|sx _ e ih|bS e _ ih|len e ih|rW e ih|tr _ e ih|tp e ih|proj e _ ih|un _ e ih|cv _ _ e ih|rw e ih|rws e ih=>intro h;simp only[SE.wE]at h;simp only[SE.den,ih h]
 |idx _ e f fv eN|Ea _ e f _ fv eN|ac e f fv eN|cat _ _ e f fv eN|bin _ _ e f fv eN|mx _ e f fv eN|GF e f fv eN|has _ e f fv eN|dec _ e f fv eN=>
  intro h;simp only[SE.wE,ar4]at h;simp only[SE.den,fv h.1,eN h.2]
 |Eb _ e f g fv eN A5|sub _ e f g fv eN A5|OV _ e f g fv eN A5|Hl e f g fv eN A5|ins _ e f g fv eN A5|get _ e f g fv eN A5=>
  intro h;simp only[SE.wE,ar4]at h;simp only[SE.den,fv h.1.1,eN h.1.2,A5 h.2]
structure Ins(P:Program)(n:Nat)(args:List SE)(ν qC vs:List IV):Prop where
 len:qC.length=n
 pre:∃μ,ν=qC++μ
 args:All2 (λ(e:SE) y=>e.den P ν=aa y) args vs
theorem kR(hI:Ins P n args ν qC vs){h e:SE}(hc:uZ n args h e=ab){y:IV}(hy:e.den P ν=aa y):h.den P (qC++vs)=aa y:=by
 obtain⟨hl,⟨μ,rfl⟩,ha⟩:=hI;unfold uZ at hc;split at hc
 ·rename_i x;split at hc
  ·rename_i hx;have il:x<qC.length:=by rw[hl];simpa using hx
   have:=SE.eq_eq hc;subst this;simp only[SE.den,asd il]at hy⊢;exact hy
  ·rename_i hx;have il:n<=x:=by simpa using hx
   split at hc
   ·rename_i a hax;have:=SE.eq_eq hc;subst this;have ai:x- n<vs.length:=by rw[<-ha.len];exact(ar3.1 hax).1
    have hv:=ha.get hax (ar2 ai);rw[hy]at hv;simp only[SE.den];rw[List.getElem?_append_right (by omega),hl,ar2 ai];exact hv.symm
   ·cases hc
 ·simp only[ar4]at hc;obtain⟨h1,h2⟩:=hc;have:=SE.eq_eq h2;subst this;rw[<-hl]at h1;rw[aex (b:=μ) h h1];exact hy
variable{H V:SS}
def kO(φ:Ph)(H:SS)(dU:List (Nat×Nat)):Ph:=λk=>if isLive H.l k=ab then(rY dU k).bind φ else ah
theorem PN{α:Type}{l:List (Nat×α)}{k:Nat}{a:α}(h:rY l k=aa a):(k,a)∈l:=by
 induction l with
 |nil=>cases h
 |cons p l ih=>
  obtain⟨x,y⟩:=p;simp only[rY]at h;split at h
  ·rename_i hc;cases h;rw[asb hc];simp
  ·exact atm _ (ih h)
theorem agy(h:aaZ dU=ab){k k' e:Nat}(h1:rY dU k=aa e)(h2:rY dU k'=aa e):k=k':=by
 unfold aaZ at h;rw[asl]at h;have:=h _ (PN h1);rw[asl]at this;have:=this _ (PN h2);simpa using this
theorem KO{l:List (LO SE)}:∀{os:List (LO SE)} {k:Nat},O5 n args dU l k os=ab->∀{j:Nat} {o:LO SE},os[j]?=aa o->o≠.dead->∃k' o',rY dU (k+j)=aa k'/\l[k']?=aa o'/\Am n args dU o o'=ab
 |[],k,_,j,o,h,_=>by simp at h
 |a::os,k,hc,j,o,h,hd=>by
  simp only[O5,ar4]at hc;cases j with
  |zero=>
   simp at h;subst h;have bL:=hc.1;split at bL
   ·exact absurd rfl hd
   ·split at bL
    ·rename_i k' hk;split at bL
     ·rename_i o' ho;exact⟨k',o',hk,ho,bL⟩
     ·cases bL
    ·cases bL
  |succ j=>
   simp at h;obtain⟨k',o',h1,h2,h3⟩:=KO hc.2 h hd;exact⟨k',o',by rw[show k+(j+1)=k+1+j by omega];exact h1,h2,h3⟩
theorem PO{l:List (LO SE)}{k:Nat}(h:isLive l k=ab):∃o,l[k]?=aa o/\o≠.dead:=by
 unfold isLive at h;split at h
 ·cases h
 ·cases h
 ·rename_i h1 h2;cases hk:l[k]? with
  |none=>exact absurd hk h2
  |some o=>exact⟨o,rfl,λhc=>h1 (by rw[hk,hc])⟩
theorem l7{α β:Type}{f:α->α->Bool}{r:β->α->Prop}{r':β->α->Prop}:∀{xs:List β} {as bs:List α},(∀x a b,a∈as->f a b=ab->r x b->r' x a)->lK f as bs=ab->All2 r xs bs->All2 r' xs as
 |[],[],[],_,_,_=>trivial
 |x::xs,a::as,b::bs,hf,h,hx=>by
  simp only[lK,ar4]at h;exact⟨hf x a b (by simp) h.1 hx.1,l7 (λx a b ha=>hf x a b (by simp[ha])) h.2 hx.2⟩
 |[],a::as,[],_,h,_=>by cases h
 |[],[],b::bs,_,h,_=>by cases h
 |[],_::_,_::_,_,_,hx=>hx.elim
 |_::_,[],[],_,_,hx=>hx.elim
 |_::_,_::_,[],_,h,_=>by cases h
 |_::_,[],_::_,_,h,_=>by cases h
variable(hI:Ins P n args ν qC vs)(hJ:J (au P ν) R φ V.g V.l E σ)(hL:O5 n args dU V.l 0 H.l=ab)
include hI hJ hL
theorem Bc{h e:Cl SE}{x:IV}(zV:∀k∈tC h,isLive H.l k=ab)(hc:qK n args dU h e=ab)(hx:cD (au P ν) R φ V.l σ x e):cD (au P (qC++vs)) R (kO φ H dU) H.l σ x h:=by
 have key:∀k k',Ed dU k k'=ab->isLive H.l k=ab->∃o o',H.l[k]?=aa o/\V.l[k']?=aa o'/\Am n args dU o o'=ab/\kO φ H dU k=φ k':=by
  intro k k' hk hl;obtain⟨o,h1,h2⟩:=PO hl;obtain⟨k2,o',h3,h4,h5⟩:=KO hL h1 h2;rw[atv]at h3;unfold Ed at hk;rw[h3]at hk;have:=asb hk;subst this;exact⟨o,o',h1,h4,h5,by simp[kO,hl,h3]⟩
 cases h with
 |un=>trivial
 |v a=>
  cases e<;>simp only[qK]at hc<;>first|(cases hc;done)|skip
  ·obtain⟨y,h1,h2⟩:=hx;exact⟨y,kR hI hc h1,h2⟩
  ·rename_i b s;obtain⟨h1,h2⟩:=hx;refine⟨.tree s [],kR hI hc (by simp[SE.den,h1]),?_,rfl⟩;subst h2;cases b
   ·exact .emp s h1
   ·exact .nil s h1
 |w f a=>
  cases e<;>simp only[qK,ar4]at hc<;>first|(cases hc;done)|skip
  ·obtain⟨hf,hc⟩:=hc;obtain⟨y,h1,h2,h3⟩:=hx;subst hf;exact⟨y,kR hI hc h1,h2.mono hJ.A7,h3⟩
  ·rename_i f' b;obtain⟨hf,hc⟩:=hc;obtain⟨y,h1,h2,h3⟩:=hx;exact⟨y,kR hI hc h1,h2.wide (λh=>by subst h;simpa using hf),h3⟩
  ·rename_i b s;obtain⟨h1,h2⟩:=hx;refine⟨.tree s [],kR hI hc (by simp[SE.den,h1]),?_,rfl⟩;subst h2;cases b
   ·exact .emp s h1
   ·exact .nil s h1
 |nl a s=>
  cases e<;>simp only[qK,ar4,asK,beq_iff_eq]at hc<;>first|(cases hc;done)|skip
  obtain⟨rfl,rfl⟩:=hc;exact hx
 |pt k o x'=>
  cases e<;>simp only[qK,ar4,asK]at hc<;>first|(cases hc;done)|skip
  obtain⟨⟨rfl,rfl⟩,hk⟩:=hc;obtain⟨id,cs,h1,h2,h3⟩:=hx;obtain⟨o1,o2,g1,g2,g3,g4⟩:=key _ _ hk (zV k (by simp[tC]));rw[h2]at g2;cases g2;cases o1<;>simp only[Am]at g3<;>first|(cases g3;done)|skip
  exact⟨id,_,by rw[g4];exact h1,g1,h3⟩
 |tp a=>
  cases e<;>simp only[qK]at hc<;>first|(cases hc;done)|skip
  obtain⟨ds,h1,h2⟩:=hx;exact⟨ds,h1,l7 (λd a b _ bR ⟨y,h3,h4⟩=>⟨y,kR hI bR h3,h4⟩) hc h2⟩
 |tw f a=>cases e<;>simp[qK]at hc
 |sr k=>
  cases e<;>simp only[qK]at hc<;>first|(cases hc;done)|skip
  obtain⟨s,st,cut,fr,z,es,h1,h2,h3⟩:=hx;obtain⟨o1,o2,g1,g2,g3,g4⟩:=key _ _ hc (zV k (by simp[tC]));rw[h1]at g2;cases g2;cases o1<;>simp only[Am,ar4,asK,beq_iff_eq]at g3<;>first|(cases g3;done)|skip
  obtain⟨⟨⟨⟨rfl,rfl⟩,Py⟩,uj⟩,hz⟩:=g3;refine⟨_,_,_,_,_,es,g1,kR hI hz h2,?_⟩;rcases h3 with⟨a1,a2,a3⟩|⟨id,cs,ay,mn,cap,a1,a2,a3,a4,a5,a6⟩
  ·exact .inl ⟨by rw[g4];exact a1,a2,a3⟩
  ·exact .inr ⟨id,cs,ay,mn,cap,by rw[g4];exact a1,a2,a3,a4,λhn xQ=>a5 hn (by subst xQ;simpa using Py),a6⟩
 |sv k lo=>cases e<;>simp[qK]at hc
 |pr k i off ext=>cases e<;>simp[qK]at hc
 |mp k=>
  cases e<;>simp only[qK]at hc<;>first|(cases hc;done)|skip
  obtain⟨id,kt,es,h1,h2,h3⟩:=hx;obtain⟨o1,o2,g1,g2,g3,g4⟩:=key _ _ hc (zV k (by simp[tC]));rw[h2]at g2;cases g2;cases o1<;>simp only[Am,ar4,asK]at g3<;>first|(cases g3;done)|skip
  obtain⟨⟨rfl,_⟩,_⟩:=g3;exact⟨id,_,_,by rw[g4];exact h1,g1,h3⟩
 |fn f a=>
  cases e<;>simp only[qK,ar4,asK]at hc<;>first|(cases hc;done)|skip
  obtain⟨rfl,hl⟩:=hc;rcases hx with⟨rfl,h2⟩|⟨ys,h1,h2⟩
  ·have:a=[]:=by cases a with|nil=>rfl|cons=>cases hl
   subst this;exact .inl ⟨rfl,h2⟩
  ·refine .inr ⟨ys,h1,?_⟩;refine l7 (λy p q hp ye ⟨id,cs,h3,h4,h5⟩=>?_) hl h2;simp only[ar4,asK]at ye;obtain⟨o1,o2,g1,g2,g3,g4⟩:=key _ _ ye.2 (zV p.1 (by simp only[tC];exact List.mem_map_of_mem hp));rw[h4]at g2;cases g2;cases o1<;>simp only[Am]at g3<;>first|(cases g3;done)|skip
   exact⟨id,_,by rw[g4];exact h3,g1,by rw[ye.1];exact h5⟩
theorem abz{h e:PV SE}{x:IV}(zV:∀k∈O1 h,isLive H.l k=ab)(hc:IB n args dU h e=ab)(hx:VR (au P ν) R φ V.l σ x e):VR (au P (qC++vs)) R (kO φ H dU) H.l σ x h:=by
 cases h with
 |one c=>
  cases e<;>simp only[IB]at hc<;>first|(cases hc;done)|skip
  exact Bc hI hJ hL zV hc hx
 |ag cs=>
  cases e<;>simp only[IB]at hc<;>first|(cases hc;done)|skip
  obtain⟨xs,h1,h2⟩:=hx;exact⟨xs,h1,l7 (r:=cD (au P ν) R φ V.l σ) (λx a b ha bR hx=>Bc hI hJ hL (λk hk=>zV k (aud.2 ⟨a,ha,hk⟩)) bR hx) hc h2⟩
 |tu us=>
  cases e<;>simp only[IB]at hc<;>first|(cases hc;done)|skip
  obtain⟨xs,h1,h2⟩:=hx;refine⟨xs,h1,l7 (λx a b ha bR hx=>?_) hc h2⟩;simp only[ar4,beq_iff_eq]at bR;have zW:∀c∈a.2,∀k∈tC c,isLive H.l k=ab:=λc hc k hk=>zV k (aud.2 ⟨a,ha,aud.2 ⟨c,hc,hk⟩⟩);unfold tq at hx⊢;rw[bR.1];split at hx
  ·rename_i hb;rw[if_pos hb];obtain⟨ys,h3,h4⟩:=hx;exact⟨ys,h3,l7 (r:=cD (au P ν) R φ V.l σ) (λx c c' hca kK hx=>Bc hI hJ hL (zW c hca) kK hx) bR.2 h4⟩
  ·rename_i hb;rw[if_neg hb];obtain⟨c,h3,h4⟩:=hx;have eR:=bR.2;rw[h3]at eR;obtain⟨a1,a2⟩:=a;cases a2 with
   |nil=>cases eR
   |cons c' r=>
    cases r with
    |cons=>simp[lK]at eR
    |nil=>
     simp only[lK,Bool.and_true]at eR;exact⟨c',rfl,Bc hI hJ hL (zW c' (by simp)) eR h4⟩
omit hI hJ hL in
theorem KQ{m:Nat}(hJ:J (au P ν) R φ V.g V.l E σ)(hl:qC.length=n)(hp:∃μ,ν=qC++μ)(h:inst n m H V=aa (args,dU)){vs:List IV}(hv:All2 (λ(e:SE) y=>e.den P ν=aa y) args vs):
 vs.length=m/\J (au P (qC++vs)) R (kO φ H dU) H.g H.l E σ:=by
 unfold inst at h;split at h
 ·cases h
 ·rename_i hlr;have abA:Hp H=ab:=by simpa using hlr
  split at h<;>first|(cases h;done)|skip
  split at h<;>first|(cases h;done)|skip
  split at h<;>first|(cases h;done)|skip
  split at h<;>first|(cases h;done)|skip
  rename_i hc;simp only[ar6,asu]at h;obtain⟨e1,e2⟩:=h;rw[e1,e2]at hc;simp only[ar4,asK]at hc;obtain⟨⟨⟨c1,c2⟩,c3⟩,c4⟩:=hc;have hI:Ins P n args ν qC vs:=⟨hl,hp,hv⟩;unfold Hp at abA;simp only[ar4,asl]at abA;obtain⟨l1,l2⟩:=abA
  have KK:∀{k id},kO φ H dU k=aa id->isLive H.l k=ab/\∃k',rY dU k=aa k'/\φ k'=aa id:=by
   intro k id hk;unfold kO at hk;split at hk
   ·rename_i fP;obtain⟨k',h1,h2⟩:=aso.1 hk;exact⟨fP,k',h1,h2⟩
   ·cases hk
  refine⟨by rw[<-hv.len];exact c4,λd t pv hg=>?_,λk o ho=>?_,λk k' id h1 h2=>?_,λk id hk=>?_,hJ.qw,hJ.fits,hJ.wf,hJ.top⟩
  ·have eg:(d,t,pv)∈H.g:=by
    have:∀{g:List (Nat×Nat×PV SE)},cy d t g=aa pv->(d,t,pv)∈g:=by
     intro g;induction g with
     |nil=>intro h;cases h
     |cons p g ih=>
      obtain⟨a,b,q⟩:=p;intro h;rcases m_ h with⟨rfl,rfl,rfl⟩|⟨_,h2⟩
      ·simp
      ·exact atm _ (ih h2)
    exact this hg
   unfold af_ at c1;rw[asl]at c1;have:=c1 _ eg;simp only at this;split at this
   ·rename_i C_ qy;exact abz hI hJ c2 (λk hk=>l1 _ eg k hk) this (hJ.slot d t C_ qy)
   ·cases this
  ·by_cases hd:o=.dead
   ·subst hd;trivial
   ·obtain⟨k',o',h1,h2,h3⟩:=KO c2 ho hd;rw[atv]at h1
    have fP:isLive H.l k=ab:=by
     unfold isLive;rw[ho];cases o<;>first|rfl|exact absurd rfl hd
    have tX:kO φ H dU k=φ k':=by simp[kO,fP,h1]
    have dz:=hJ.obj k' o' h2;cases o with
    |dead=>exact absurd rfl hd
    |var cs=>
     cases o'<;>simp only[Am]at h3<;>first|(cases h3;done)|skip
     obtain⟨id,cE,g1,g2,g3,g4⟩:=dz;have hrefs:=l2 _ (ash ho);simp only at hrefs;rw[asl]at hrefs;exact⟨id,cE,by rw[tX];exact g1,g2,g3,l7 (r:=cD (au P ν) R φ V.l σ) (λx a b ha bR hx=>Bc hI hJ c2 (λk hk=>hrefs k (aud.2 ⟨a,ha,hk⟩)) bR hx) h3 g4⟩
    |row s st cut fr z=>
     cases o'<;>simp only[Am,ar4,asK,beq_iff_eq]at h3<;>first|(cases h3;done)|skip
     obtain⟨⟨⟨⟨rfl,rfl⟩,Py⟩,uj⟩,hz⟩:=h3;obtain⟨bE,es,g1,g2,g3⟩:=dz;refine⟨bE,es,kR hI hz g1,g2,?_⟩;rcases g3 with⟨a1,a2⟩|⟨id,cs,ay,mn,a1,a2,a3,a4,a5,a6,a7⟩
     ·exact .inl ⟨by rw[tX];exact a1,a2⟩
     ·exact .inr ⟨id,cs,ay,mn,by rw[tX];exact a1,a2,a3,a4,a5,a6,λj x y hx hy=>(a7 j x y hx hy).wide (λh=>by subst h;simpa using uj)⟩
    |mp kt z=>
     cases o'<;>simp only[Am,ar4,asK]at h3<;>first|(cases h3;done)|skip
     obtain⟨⟨rfl,hz⟩,S1⟩:=h3;rw[gL]at dz⊢;split at dz
     ·rename_i dW;rw[if_pos dW];rcases dz with⟨h0,id,ba,p,g1,g2,g3,g4⟩|⟨h0,id,m,ds,seen,rem,rest,g1,g2,g3,_,g5,g6⟩
      ·exact .inl ⟨h0,id,ba,p,kR hI hz g1,by rw[tX];exact g2,g3,g4⟩
      ·have LA:as7 kt 1000000=af:=by
        cases hb:as7 kt 1000000 with
        |false=>rfl
        |true=>exact absurd (show kt<1000000 by simpa using hb) (Nat.not_lt.2 h0)
       have zS:=l2 _ (ash ho);simp only[LA,auj]at zS;rw[LA,auj]at S1;unfold af9 at zS;split at zS<;>first|(cases zS;done)|skip
       rename_i lL z2 agz;refine .inr ⟨h0,id,m,ds,seen,rem,rest,kR hI hz g1,by rw[tX];exact g2,g3,⟨lL,z2,agz⟩,?_,g6⟩;unfold kO;rw[if_pos (by unfold isLive;rw[agz])];unfold Ed at S1;split at S1<;>first|(cases S1;done)|skip
       rename_i e' gV;have:=asb S1;rw[gV,<-this];exact g5
     ·rename_i dW;rw[if_neg dW];obtain⟨id,es,clock,ds,g1,g2,g3,g4,g5⟩:=dz;exact⟨id,es,clock,ds,kR hI hz g1,by rw[tX];exact g2,g3,g4,g5⟩
  ·obtain⟨_,a,TB,I_⟩:=KK h1;obtain⟨_,b,cI,fg⟩:=KK h2;have:=hJ.inj a b id I_ fg;subst this;exact agy c3 TB cI
  ·obtain⟨fP,a,TB,I_⟩:=KK hk;obtain⟨o,ho,_⟩:=PO fP;exact⟨c_ ho,(hJ.lt a id I_).2⟩
end Go.Ev
