/- Lemmas over the model, without conditions of their own: the ideal machine, and code run on expressions. -/
import Derived.Test.YtabefplkfkfdfaaGreatPAe
import Derived.Test.YtabefplkfkfdfaaGreatPAc
import Derived.KernelRfl
import Derived.Test.YtabefplkfkfdfaaGreatProg
import Derived.Shelf.Strings.Search3
import Derived.Test.YtabefplkfkfdfaaGreatPAb
import Derived.Laws.RangeAny
open Prod renaming fst->aBg
open List renaming prefix_refl->azH,isEmpty_iff->az8,map_cons->azs,any_eq_true->aB_,mem_filter->azC,append_assoc->ayJ,getElem?_append_right->ay0,getElem?_cons_zero->aAt,drop_of_length_le->ay3,getElem_mem->ayy,drop_eq_getElem_cons->ay5,drop_zero->aAT,getElem?_eq_some_iff->ayw,getElem?_eq_getElem->ayv,mem_of_getElem?->ayM,eq_nil_of_length_eq_zero->ayZ,getElem?_cons_succ->aAs,length->azg,getElem?_map->ayR,getElem?_append_left->ayK,length_map->aAq,mem_map->azb,sizeOf_lt_of_mem->azB,all_eq_false->aC4,mem_cons->ayN
open Bool renaming not_true->az4,false_and->aAf,false_eq_true->ayW,and_eq_true->ayz,not_eq_true'->azn
open Nat renaming blt->azp,eq_of_beq_eq_true->ayH,rec->aBO,le_refl->ayA,ble->azD,beq->ayI,zero_add->azP,add_zero->aBu
open Option.some renaming injEq->ayB
open Prod.mk renaming injEq->ay7
open Option renaming map_some->ay_,bind_some->ayx,map_eq_some_iff->ayG,bind_eq_some_iff->ayV
open Array renaming getD_eq_getD_getElem?->azm
open List.cons renaming injEq->aAa
open Iff renaming rfl->aBX
open Go.IntKind renaming i64->ay1,wrap->aC2,bits->aC3,signed->aCL,u8->aDK
open Go.Op renaming bytesLess->aAF,equalIn->azG
open Go.Proofs.Tryz renaming prog->ayu
open LT renaming lt->aDS
open ByteArray renaming size->aBl,getElem_eq_getElem_data->aD1
open Go.Proofs.Lays renaming n144->aDT
open Go.Lib renaming indexByte->aBK
open Go.Utf8 renaming decode->az_
open Ne renaming symm->aCs
open Classical renaming em->aD4
open Option renaming some->aa,none->ah
open Bool renaming true->ab,false->af
set_option linter.all false
namespace Go.Ev
section
variable{Cx:Cs}
variable{P:Program}{N:Nat}{Y al:St}{R R':Rs}{X aN:Ph}{E:Nat->Env}{G:List IV}{ro:Nat}{Z:Io}{w:World}{cfg:eS}{self:m8}
variable{C:Cr}{Q:IV->Prop}{K:List (List IV->Prop)}{V:SS}{d f0:Nat}{o:Oper}{k:PV SE->SS->ak}{L:List (LO SE)}{Γ:Gm SE}{rd:Option Nat}{df:List Df}
variable{fr:Bool}{kx:Kx}{sk:List Nat}{ops:Array Oper}{pl:eJ}{l:List (Oper×Nat)}{kk:SS->ak}{CX:Nat->lP}
def Rx(Cx:Cs)(fr:Bool)(P:Program)(C:Cr)(Q:IV->Prop)(cfg:eS)(self:m8)(kx:Kx)(d f0:Nat)(ops:Array Oper)(pl:eJ)(kk:SS->ak)(CX:Nat->lP)(sk:List Nat)(l:List (Oper×Nat)):Prop:=
 ∀(V:SS) G K R X E Y,mC (E d) sk->(gY P cfg self kx Cx d f0 ab ops sk (l.map aBg) V kk).sat P C Q K G->J Cx (ay P G) R X V.g V.l E Y->G.length=V.n->K.length=V.lv->(E d).n=V.nt->KS Cx P C Q d E K G V.nt kk (λN e Y=>CX N .normal e Y)->
  ∃e' al,gE P 0 ops pl fr l (E d) Y e' al/\∃b,∀N,b<=N->al.n<=N/\CX N .normal e' al
theorem Fy(ih:Rx Cx fr P C Q cfg self kx d f0 ops pl kk CX sk l){dst:Option Nat}(su:∀x,mC ((E d).put dst x) sk)(hd:∀t,dst=aa t->t<(E d).n){nt:Nat}(cD:(E d).n=nt)(eh:KS Cx P C Q d E K G nt kk (λN e Y=>CX N .normal e Y))
 {V1:SS}{I:List IV}{R1:Rs}{dV:Ph}{au:St}{x:IV}{pv:PV SE}
 (hJ:J Cx (ay P (G++I)) R1 dV V1.g V1.l E au)(hn:(G++I).length=V1.n)(fX:K.length=V1.lv)(lR:V1.nt=nt)
 (hx:VR (ay P (G++I)) R1 dV V1.l au x pv)(hs:(gY P cfg self kx Cx d f0 ab ops sk (l.map aBg) (V1.cy d dst pv) kk).sat P C Q K (G++I)):
 ∃e' al,gE P 0 ops pl fr l ((E d).put dst x) au e' al/\∃b,∀N,b<=N->al.n<=N/\CX N .normal e' al:=by
 have bR:=Fq (d:=d) (dst:=dst) hJ hx hd;have N3:(V1.cy d dst pv).nt=nt:=by cases dst<;>exact lR
 have ae5:(V1.cy d dst pv).lv=V1.lv:=by cases dst<;>rfl
 have:=ih (V1.cy d dst pv) (G++I) K R1 dV _ au (by rw[bO];exact su x) hs bR (by rw[HL];exact hn) (by rw[ae5];exact fX) (by rw[bO,fc,cD,N3]) (by
  rw[N3];exact eh.fwd (azH K) (λj hj=>by rw[fi _ _ _ ai]) (by rw[bO,fc]))
 rw[bO]at this;exact this
theorem afj{j:Nat}(hC:jK P C)(hq:∀g,wW cfg g=ab->fr=ab)(ih:Rx Cx fr P C Q cfg self kx d f0 ops pl kk CX sk l)(hJ:J Cx (ay P G) R X V.g V.l E Y)(hn:G.length=V.n)(hK:K.length=V.lv)(cD:(E d).n=V.nt)
 (hd:∀t,o.dst=aa t->t<(E d).n)(su:∀x,mC ((E d).put o.dst x) sk)(eh:KS Cx P C Q d E K G V.nt kk (λN e Y=>CX N .normal e Y))(hw:aT o ops (E d)=ab)
 (hs:(E_ P cfg self kx Cx d f0 ab o V λpv V=>gY P cfg self kx Cx d f0 ab ops sk (l.map aBg) (V.cy d o.dst pv) kk).sat P C Q K G):
 ∃e' al,gE P 0 ops pl fr ((o,j)::l) (E d) Y e' al/\∃b,∀N,b<=N->al.n<=N/\CX N .normal e' al:=by
 have Mn:(gF P d o V λpv V=>gY P cfg self kx Cx d f0 ab ops sk (l.map aBg) (V.cy d o.dst pv) kk).sat P C Q K G->∃e' al,gE P 0 ops pl fr ((o,j)::l) (E d) Y e' al/\∃b,∀N,b<=N->al.n<=N/\CX N .normal e' al:=by
  intro hs;obtain⟨x,au,R1,dV,pv,V1,I,h1,h2,h3,h4,h5,h6⟩:=aci hJ hn hs;obtain⟨e',al,g1,g2⟩:=Fy ih su hd cD eh h2 h4 (by rw[(lS h5).1];exact hK) (lS h5).2 h3 h6;exact⟨e',al,.val hw h1 g1,g2⟩
 unfold E_ at hs;simp only[az4,aAf,ayW,if_false]at hs;unfold LV at hs;split at hs
 .rename_i c ho;unfold ZW at hs;split at hs
  .exact Mn hs
  .rename_i f hc;split at hs
   rotate_left
   .simp only[if_true]at hs;exact hs.elim
   .exact hs.elim
   rename_i g bs hf;simp only at hs;split at hs
   .split at hs
    .simp only[az4,aAf,ayW,if_false]at hs;exact hs.elim
    .exact hs.elim
   split at hs
   .rename_i hp;simp only[ayz,az8]at hp;obtain⟨jA,pU⟩:=hp;subst jA
    have auC:∃(args:List IV) (v:IV) (au:St) (R1:Rs) (dV:Ph) (pv:PV SE) (V1:SS) (I:List IV),aA P 0 (aC (E d)) o Y=aa (.enter g args)/\(∀ro,jN P ro g args Y v au)/\(au=Y\/∃ob,au=Y.add ob)/\J Cx (ay P (G++I)) R1 dV V1.g V1.l E au/\VR (ay P (G++I)) R1 dV V1.l au v pv/\(G++I).length=V1.n/\V1.ln=V.ln/\
     (gY P cfg self kx Cx d f0 ab ops sk (l.map aBg) (V1.cy d o.dst pv) kk).sat P C Q K (G++I):=by
     exact Qe hC hJ hn ho hc hf hs
    obtain⟨args,v,au,R1,dV,pv,V1,I,fD,uR,vd,g1,g2,g3,g4,g5⟩:=auC;obtain⟨e',al,r1,r2⟩:=Fy ih su hd cD eh g1 g3 (by rw[(lS g4).1];exact hK) (lS g4).2 g2 g5;rcases vd with rfl|⟨ob,rfl⟩
    .exact⟨e',al,.Re hw fD uR r1,r2⟩
    .exact⟨e',al,.ZC (hq g pU) hw fD uR r1,r2⟩
   split at hs
   .split at hs<;>exact hs.elim
   split at hs
   .rename_i hp;simp only[ayz,az8]at hp;have jA:=hp.1;subst jA;split at hs<;>try exact hs.elim
    rename_i zs V' fn hr cL;split at hs<;>try exact hs.elim
    rename_i cF;simp only[ayz]at cF;obtain⟨g',args,z,R1,pv,V1,I,h1,h2,h3,h4,h5,h6,h7⟩:=TF hC hJ hn ho hc hf hr cL cF.1.2 cF.2 cF.1.1 hs;obtain⟨e',al,g1,g2⟩:=Fy ih su hd cD eh h3 h5 (by rw[(lS h6).1];exact hK) (lS h6).2 h4 h7;exact⟨e',al,.Re hw h1 h2 g1,g2⟩
   .exact hs.elim
  .exact hs.elim
 .exact Mn hs
theorem BL(hC:jK P C)(hq:∀g,wW cfg g=ab->fr=ab):∀(l:List (Oper×Nat)) (sk:List Nat),Rx Cx fr P C Q cfg self kx d f0 ops pl kk CX sk l
 |[],sk=>by
  intro V G K R X E Y _ hs hJ hn hK cD eh;exact⟨E d,Y,.nil _ _,eh.now hJ hn hK hs⟩
 |(o,j)::l,sk=>by
  intro V G K R X E Y HR hs hJ hn hK cD eh;have ih:∀sk,Rx Cx fr P C Q cfg self kx d f0 ops pl kk CX sk l:=λsk=>BL hC hq l sk;simp only[azs,gY,if_true]at hs
  have XB:∀t,o.dst=aa t->t<V.nt:=by
   intro t ht;rw[ht]at hs;by_cases aj:t<V.nt
   .exact aj
   .have:azp t V.nt=af:=by
     cases h:azp t V.nt
     .rfl
     .exact absurd (by simpa using h) aj
    simp only[this,Bool.not_false,if_true]at hs;exact hs.elim
  rw[if_neg]at hs
  rotate_left
  .cases hh:o.dst with
   |none=>simp
   |some t=>simp[XB t hh]
  .have hd:∀t,o.dst=aa t->t<(E d).n:=by rw[cD];exact XB
   have kb:∀(V1:SS),J Cx (ay P G) R X V1.g V1.l E Y->V1.n=V.n->V1.ln=V.ln->aT o ops (E d)=ab->
    (match AJ P cfg d ab o V1 with
     |some (g,args)=>IH P cfg self kx d f0 o.dst g args V1 λV=>gY P cfg self kx Cx d f0 ab ops (vA sk o.dst) (l.map aBg) V kk
     |none=>E_ P cfg self kx Cx d f0 ab o V1 λpv V=>gY P cfg self kx Cx d f0 ab ops (vA sk o.dst) (l.map aBg) (V.cy d o.dst pv) kk).sat P C Q K G->
    ∃e' al,gE P 0 ops pl fr ((o,j)::l) (E d) Y e' al/\∃b,∀N,b<=N->al.n<=N/\CX N .normal e' al:=by
    intro V1 bR eC GC hw fq;obtain⟨fX,lR⟩:=lS GC;have:AJ P cfg d ab o V1=ah:=by simp[AJ]
    rw[this]at fq;exact afj hC hq (ih (vA sk o.dst)) bR (by rw[eC];exact hn) (by rw[fX];exact hK) (by rw[lR];exact cD) hd (λx=>HR.put o.dst x) (by rw[lR];exact eh) hw fq
   have Fx:∀(V1:SS),J Cx (ay P G) R X V1.g V1.l E Y->V1.n=V.n->V1.ln=V.ln->aT o ops (E d)=af->
    (gY P cfg self kx Cx d f0 ab ops (IL sk o.dst) (l.map aBg) (V1.lj d o.dst) kk).sat P C Q K G->∃e' al,gE P 0 ops pl fr ((o,j)::l) (E d) Y e' al/\∃b,∀N,b<=N->al.n<=N/\CX N .normal e' al:=by
    intro V1 bR eC GC hw fq;have Ng:(V1.lj d o.dst).ln=V.ln:=by rw[Ft,GC]
    obtain⟨fX,lR⟩:=lS Ng
    obtain⟨e',al,g1,g2⟩:=ih (IL sk o.dst) (V1.lj d o.dst) G K R X _ Y (by rw[bO];exact HR.add hd) fq (Fs (x:=.undef) bR) (by rw[HM,eC];exact hn) (by rw[fX];exact hK) (by rw[bO,fc,lR];exact cD) (by
     rw[lR];have:=eh.fwd (BJ:=[]) (E1:=ly E d ((E d).put o.dst .undef)) (azH K) (λj hj=>fi _ _ _ ai) (by rw[bO,fc]);rw[List.append_nil]at this;exact this)
    rw[bO]at g1;exact⟨e',al,.skip hw g1,g2⟩
   obtain⟨w1,w2,w3⟩:=TG (o:=o) hJ cD (ops:=ops)
   have w2':(if oU sk ops o=ab then Want.skip else vz ops d V o)=.skip->aT o ops (E d)=af:=λh=>by
    by_cases hq:oU sk ops o=ab
    .exact HR.agD hq
    .rw[if_neg hq]at h;exact w2 h
   have w0:∀w,w≠.skip->(if oU sk ops o=ab then Want.skip else vz ops d V o)=w->vz ops d V o=w:=λw hw h=>by
    by_cases hq:oU sk ops o=ab
    .rw[if_pos hq]at h;exact absurd h.symm hw
    .rw[if_neg hq]at h;exact h
   split at hs
   .rename_i hh;exact kb V hJ rfl rfl (w1 (w0 _ ax hh)) hs
   .rename_i hh;exact Fx V hJ rfl rfl (w2' hh) hs
   .rename_i t e want hh;replace hh:=w0 _ ax hh;obtain⟨hg,hb⟩:=w3 _ _ _ hh;rcases hs with⟨h1,hs⟩|⟨h1,hs⟩
    .obtain⟨aK,bR⟩:=J.refine hJ hg h1;have hw:=hb _ aK;cases want
     .exact Fx _ bR rfl rfl (by rw[hw];rfl) hs
     .exact kb _ bR rfl rfl (by rw[hw];rfl) hs
    .obtain⟨aK,bR⟩:=J.refine hJ hg h1;have hw:=hb _ aK;cases want
     .exact kb _ bR rfl rfl (by rw[hw];rfl) hs
     .exact Fx _ bR rfl rfl (by rw[hw];rfl) hs
   .exact hs.elim
theorem XD(hJ:J Cx (ay P G) R X V.g V.l E Y)(cD:(E d).n=V.nt):m7 Y.n (E d) (Dg d V):=by
 refine⟨cD,λt ht=>?_,λt ht=>by cases ht⟩;unfold yL Dg at ht;rw[aB_]at ht;obtain⟨t',ht',hb⟩:=ht;have:=ayH hb;subst this;have h2:=(azC.1 ht').2;split at h2
 .rename_i k off ext hg;obtain⟨id,cs,h3,_,h5⟩:=hJ.slot d t _ hg;exact .inl ⟨id,off,0,ext,h5,(hJ.lt k id h3).2⟩
 .rename_i cs hg;obtain⟨ds,h3,_⟩:=hJ.slot d t _ hg;exact .inr (.inl ⟨ds,h3⟩)
 .cases h2
theorem TV(hJ:J Cx (ay P G) R X V.g V.l E Y){ops:Array Oper}:uc P ops X (E d) Y (Dg d V):=by
 refine⟨λt h ht=>?_,λi a d h hm=>by cases hm⟩;obtain⟨⟨d',t',pv⟩,_,h2⟩:=List.mem_filterMap.1 (show(t,h)∈V.g.filterMap _ from ht);simp only at h2;split at h2<;>try (cases h2;done)
 split at h2<;>try (cases h2;done)
 rename_i k off ext hg;cases h2;obtain⟨id,cs,h3,_,h5⟩:=hJ.slot d _ _ hg;exact⟨id,off,0,ext,h3,h5⟩
theorem aas(cfg:eS)(g:FuncId):wW (D_ cfg) g=af:=by
 cases h:wW (D_ cfg) g with
 |false=>rfl
 |true=>
  unfold wW D_ at h;simp only[ayz]at h;obtain⟨aj,h⟩:=h;obtain⟨n,hn,hg⟩:=aB_.1 h;have:=ayH hg;have h2:=(azC.1 hn).2;simp at h2 aj;omega
theorem afk(e_:P.follows .mixedOrders=ab)(hC:jK P C){fn:FuncId}{id:Nat}(ir:((cR ops).ok&&(Iz ops (cR ops)||lI P (cR ops) ops.toList.zipIdx (Dg d V)))=ab)(hs:(gY P (if lI P (cR ops) ops.toList.zipIdx (Dg d V)then cfg else D_ cfg) self kx Cx d f0 ab ops [] ops.toList V kk).sat P C Q K G)
 (hJ:J Cx (ay P G) R X V.g V.l E Y)(hn:G.length=V.n)(hK:K.length=V.lv)(cD:(E d).n=V.nt)(eh:KS Cx P C Q d E K G V.nt kk (λN e Y=>CX N .normal e Y)):
 ∃b,∀N,b<=N->dg P N rd (.region id ops ab) (E d) df Y (CX N):=by
 simp only[ayz,Bool.or_eq_true]at ir;have bf:ops.toList.zipIdx.map (·.1)=ops.toList:=by simp
 by_cases hq:lI P (cR ops) ops.toList.zipIdx (Dg d V)=ab
 .rw[if_pos hq]at hs;obtain⟨e',al,h1,b,hb⟩:=BL (fr:=ab) (pl:=cR ops) (CX:=CX) hC (λ_ _=>rfl) ops.toList.zipIdx [] V G K R X E Y (mC.nil _) (by rw[bf];exact hs) hJ hn hK cD eh;exact⟨b,λN hN=>dg.W7 (fn:=fn) (λ_=>gu.ZK e_ ir.1 hq (XD hJ cD) hJ.inj (TV hJ) hJ.wf h1) (hb N hN).1 (hb N hN).2⟩
 .rw[if_neg hq]at hs;obtain⟨e',al,h1,b,hb⟩:=BL (fr:=af) (pl:=cR ops) (CX:=CX) hC (λg hg=>by rw[aas]at hg;cases hg) ops.toList.zipIdx [] V G K R X E Y (mC.nil _) (by rw[bf];exact hs) hJ hn hK cD eh;exact⟨b,λN hN=>dg.W7 (fn:=fn) (λ_=>gu.draw e_ ir.1 (ir.2.resolve_right hq) hJ.wf h1) (hb N hN).1 (hb N hN).2⟩
theorem TX(e_:P.follows .mixedOrders=ab)(hC:jK P C)(bG:oE Cx P C Q self){id j:Nat}(ir:(Rh ops j&&(cR (ops.extract 0 j)).ok&&lI P (cR (ops.extract 0 j)) (ops.extract 0 j).toList.zipIdx (Dg d V))=ab)
 (hs:(gY P cfg self kx Cx d f0 ab (ops.extract 0 j) [] (ops.extract 0 j).toList V λV=>gY P cfg self kx Cx d f0 af ops [] (ops.toList.drop j) V kk).sat P C Q K G)
 (hJ:J Cx (ay P G) R X V.g V.l E Y)(hn:G.length=V.n)(hK:K.length=V.lv)(cD:(E d).n=V.nt)(eh:KS Cx P C Q d E K G V.nt kk (λN e Y=>CX N .normal e Y))(kT:KP Cx P C Q d E K G V.nt kx (λN v e Y=>CX N (.cw v) e Y)):
 ∃b,∀N,b<=N->dg P N rd (.region id ops ab) (E d) df Y (CX N):=by
 simp only[ayz]at ir;obtain⟨⟨ht,wy⟩,hq0⟩:=ir;have bf:(ops.extract 0 j).toList.zipIdx.map (·.1)=(ops.extract 0 j).toList:=by simp
 have auD:KS Cx P C Q d E K G V.nt (λV=>gY P cfg self kx Cx d f0 af ops [] (ops.toList.drop j) V kk) (λN e Y=>(λN (_:Ex) e Y=>eU P N rd ops (ops.toList.drop j) e df Y (CX N)) N .normal e Y):=by
  intro V' I K' R' aN E' al hf br;obtain⟨b,hb⟩:=N7 (CX:=CX) (rd:=rd) (df:=df) hC bG (ops.toList.drop j) [] V' (G++I) K' R' aN E' al (mC.nil _) br hf.hJ hf.hn hf.fX (by rw[hf.GS,cD,hf.cD]) (by rw[hf.cD];exact eh.fwd hf.hK hf.hE hf.GS) (by rw[hf.cD];exact kT.fwd hf.hK hf.hE hf.GS);exact⟨max b al.n,λN hN=>⟨by omega,hb N ai⟩⟩
 obtain⟨e',al,h1,b,hb⟩:=BL (fr:=ab) (pl:=cR (ops.extract 0 j)) (CX:=λN _ e Y=>eU P N rd ops (ops.toList.drop j) e df Y (CX N)) hC (λ_ _=>rfl) (ops.extract 0 j).toList.zipIdx [] V G K R X E Y (mC.nil _) (by rw[bf];exact hs) hJ hn hK cD auD;exact⟨b,λN hN=>dg.aew e_ ht wy (λ_=>ZL.ZK wy hq0 (XD hJ cD) hJ.inj (TV hJ) hJ.wf h1) (hb N hN).1 (hb N hN).2⟩
end
section
variable{Cx:Cs}
variable{P:Program}{N:Nat}{Y al:St}{R R':Rs}{X aN:Ph}{E:Nat->Env}{G:List IV}{ro:Nat}{Z:Io}{w:World}{cfg:eS}{self:m8}
variable{C:Cr}{Q:IV->Prop}{K:List (List IV->Prop)}{V:SS}{d f0:Nat}{o:Oper}{k:PV SE->SS->ak}{L:List (LO SE)}{Γ:Gm SE}{rd:Option Nat}{df:List Df}
theorem XR.goto{ex:yp}{x:Ex}(h:XR P G R X L Y ex x)(l:Nat):x≠.goto l:=by
 cases ex with
 |cw t pv=>obtain⟨v,rfl,_⟩:=h;simp
 |_=>rw[show x=_ from h];simp
theorem XR.norm{ex:yp}{x:Ex}(h:XR P G R X L Y ex x)(bt:ex≠.normal):x≠.normal:=by
 cases ex with
 |normal=>exact absurd rfl bt
 |cw t pv=>obtain⟨v,rfl,_⟩:=h;simp
 |_=>rw[show x=_ from h];simp
theorem XE{t:Nat}{c:Cl SE}(hc:c≠.un)(h:cg P d V 0 (.tmp t)=.one c):cN d t V.g=aa (.one c):=by
 simp only[cg]at h;cases hg:cN d t V.g with
 |none=>rw[hg]at h;cases h;exact absurd rfl hc
 |some pv=>rw[hg]at h;simpa using h
theorem KW.ks{kk:yp->SS->ak}{nt:Nat}{CW:Nat->lP}(h:KW Cx P C Q d E K G nt kk CW):KS Cx P C Q d E K G nt (kk .normal) (λN e Y=>CW N .normal e Y):=
 λV' I K' R' aN E' al hf hs=>h .normal V' I K' R' aN E' al _ hf rfl hs
theorem Qi{a:Code}{k:yp->SS->ak}{CW:Nat->lP}{H:SS}{n mm f:Nat}{ws:List (Nat×Nat×Nat)}{bad:SS->ak}{lv:Nat}(hKl:K.length=lv){jC:Bool}(fg:jC=af->rd=ah)(bG:oE Cx P C Q self)(ak9:∀W K G,¬(bad W).sat P C Q K G)
 (hK:K.length+1=H.lv)(hHn:H.n=n+mm)(hn:G.length=n)(jE:KW Cx P C Q d E K G H.nt k CW):∀(m:Nat) {vs:List IV} {R:Rs} {X:Ph} {E1:Nat->Env} {Y:St},J Cx (ay P (G++vs)) R X H.g H.l E1 Y->vs.length=mm->(∀j,j<d->E1 j=E j)->(E1 d).n=(E d).n->(E d).n=H.nt->
  (aBO (motive:=λ_=>List IV->Prop) (λ_=>False) (λ_ ih vs=>(self jC d f a H λex W=>match ex with
   |.normal=>match inst n mm H (ID ws H W)with
    |some (args,_)=>.next lv (fa args)
    |none=>bad W
   |ex=>k ex W).sat P C Q (K++[ih]) (G++vs)) m) vs->∃b,∀N,b<=N->qe P N rd m a (E1 d) df Y (CW N)
 |0,_,_,_,_,_,_,_,_,_,_,h=>h.elim
 |m+1,vs,R,X,E1,Y,hJ,db,hE,TO,hE2,h=>by
  obtain⟨b,hb⟩:=bG jC d f a H _ (G++vs) _ R X E1 Y (λN=>ym N (λe1 au=>qe P N rd m a e1 df au (CW N)) (CW N)) rd df fg h hJ (by rw[List.length_append,hn,db,hHn]) (by simp[hK]) (by rw[TO,hE2]) (by
   intro ex V' I K' R' aN E' al x hf hx hs
   have other:∀yy,yy≠.normal->XR P (G++vs++I) R' aN V'.l al yy x->(k yy V').sat P C Q K' (G++vs++I)->∃b,∀N,b<=N->al.n<=N/\ym N (λe1 au=>qe P N rd m a e1 df au (CW N)) (CW N) x (E' d) al:=by
    intro yy bt hx hs;have auE:∀x,KW Cx P C Q d E1 (K++[x]) (G++vs) H.nt k CW:=λx=>jE.fwd (List.prefix_append K [x]) hE TO;obtain⟨b,hb⟩:=auE _ yy V' I K' R' aN E' al x hf hx hs;exact⟨b,λN hN=>⟨(hb N hN).1,(hb N hN).1,λh=>absurd h (hx.norm bt),λ_=>(hb N hN).2⟩⟩
   cases ex with
   |normal=>
    obtain rfl:=hx;simp only at hs;split at hs
    .rename_i es eH hi;obtain⟨R2,fE,yb,_⟩:=ae3 ws H hf.hJ;obtain⟨us,p,h1,h2,h3⟩:=hs;obtain⟨hlen,vG⟩:=N2 (ss:=G) fE hn ⟨vs++I,by rw[ayJ]⟩ hi (KM h1);obtain⟨t,ht⟩:=hf.hK;rw[<-ht,ayJ,ay0 ai,hKl,Nat.sub_self]at h2;simp only[List.singleton_append,aAt,ayB]at h2;subst h2;obtain⟨b,hb⟩:=Qi hKl fg bG ak9 hK hHn hn jE m vG hlen (λj hj=>by rw[hf.hE j hj,hE j hj]) (by rw[hf.GS,TO]) hE2 h3;exact⟨max b al.n,λN hN=>⟨by omega,by omega,λ_=>hb N ai,λh=>absurd rfl h⟩⟩
    .exact(ak9 _ _ _ hs).elim
   |exit i=>exact other (.exit i) ax hx hs
   |ret=>exact other .ret ax hx hs
   |cw t pv=>exact other (.cw t pv) ax hx hs)
  exact⟨b,λN hN=>.succ (hb N hN)⟩
theorem Qj{a:Code}{k:yp->SS->ak}{CW:Nat->lP}{f:Nat}{jC:Bool}(fg:jC=af->rd=ah)(bG:oE Cx P C Q self):∀(n:Nat) (V:SS) G K R X E Y,(NL self jC d f a k n V).sat P C Q K G->J Cx (ay P G) R X V.g V.l E Y->G.length=V.n->K.length=V.lv->(E d).n=V.nt->KW Cx P C Q d E K G V.nt k CW->
 ∃b,∀N,b<=N->qe P N rd n a (E d) df Y (CW N)
 |0,_,_,_,_,_,_,_,hs,_,_,_,_,_=>hs.elim
 |n+1,V,G,K,R,X,E,Y,hs,hJ,hn,hK,cD,jE=>by
  obtain⟨b,hb⟩:=bG jC d f a V _ G K R X E Y (λN=>ym N (λe1 au=>qe P N rd n a e1 df au (CW N)) (CW N)) rd df fg hs hJ hn hK cD (by
   intro ex V' I K' R' aN E' al x0 hf hx br
   have other:∀yy,yy≠.normal->XR P (G++I) R' aN V'.l al yy x0->(k yy V').sat P C Q K' (G++I)->∃b,∀N,b<=N->al.n<=N/\ym N (λe1 au=>qe P N rd n a e1 df au (CW N)) (CW N) x0 (E' d) al:=by
    intro yy bt hx hs;obtain⟨b,hb⟩:=jE yy V' I K' R' aN E' al x0 hf hx hs;exact⟨b,λN hN=>⟨(hb N hN).1,(hb N hN).1,λh=>absurd h (hx.norm bt),λ_=>(hb N hN).2⟩⟩
   cases ex with
   |normal=>
    obtain rfl:=hx
    obtain⟨b,hb⟩:=Qj fg bG n V' (G++I) K' R' aN E' al br hf.hJ hf.hn hf.fX (by rw[hf.GS,cD,hf.cD]) (by
     rw[hf.cD];exact jE.fwd hf.hK hf.hE hf.GS)
    exact⟨max b al.n,λN hN=>⟨by omega,by omega,λ_=>hb N ai,λh=>absurd rfl h⟩⟩
   |exit i=>exact other (.exit i) ax hx br
   |ret=>exact other .ret ax hx br
   |cw t pv=>exact other (.cw t pv) ax hx br)
  exact⟨b,λN hN=>.succ (hb N hN)⟩
theorem Wx(e_:P.follows .mixedOrders=ab)(hC:jK P C){jk:Cs->m8}(Mm:∀Cx Q,oE Cx P C Q (jk Cx)):oE Cx P C Q (nW P cfg Cx jk):=by
 have bG:=Mm Cx Q;intro jC d f c V k G K R X E Y CW rd df fg hs hJ hn hK cD jE;cases c with
 |skip=>
  obtain⟨b,hb⟩:=jE.now hJ hn hK (ex:=.normal) rfl hs;exact⟨b,λN hN=>.skip (hb N hN).2⟩
 |label l=>
  obtain⟨b,hb⟩:=jE.now hJ hn hK (ex:=.normal) rfl hs;exact⟨b,λN hN=>.label (hb N hN).2⟩
 |exit id=>
  obtain⟨b,hb⟩:=jE.now hJ hn hK (ex:=.exit id) rfl hs;exact⟨b,λN hN=>.exit (hb N hN).2⟩
 |ret=>
  obtain⟨b,hb⟩:=jE.now hJ hn hK (ex:=.ret) rfl hs;exact⟨b,λN hN=>.ret (hb N hN).2⟩
 |region id ops draw=>
  cases draw with
  |true=>
   simp only[nW,if_true]at hs;split at hs
   .split at hs
    .rename_i ir;exact TX e_ hC bG ir hs hJ hn hK cD jE.ks jE.kp
    .exact hs.elim
   split at hs
   .rename_i ir;exact afk (fn:=0) e_ hC ir hs hJ hn hK cD jE.ks
   .exact hs.elim
  |false=>
   simp only[nW,ayW,if_false]at hs;obtain⟨b,hb⟩:=N7 (CX:=CW) (rd:=rd) (df:=df) hC bG ops.toList [] V G K R X E Y (mC.nil _) hs hJ hn hK cD jE.ks jE.kp;exact⟨b,λN hN=>.region (hb N hN)⟩
 |seq x y=>
  simp only[nW]at hs
  obtain⟨b,hb⟩:=bG jC d f x V _ G K R X E Y (λN=>ym N (λe1 au=>dg P N rd y e1 df au (CW N)) (CW N)) rd df fg hs hJ hn hK cD (by
   intro ex V' I K' R' aN E' al x0 hf hx br
   have other:∀yy,yy≠.normal->XR P (G++I) R' aN V'.l al yy x0->(k yy V').sat P C Q K' (G++I)->∃b,∀N,b<=N->al.n<=N/\ym N (λe1 au=>dg P N rd y e1 df au (CW N)) (CW N) x0 (E' d) al:=by
    intro yy bt hx hs;obtain⟨b,hb⟩:=jE yy V' I K' R' aN E' al x0 hf hx hs;exact⟨b,λN hN=>⟨(hb N hN).1,(hb N hN).1,λh=>absurd h (hx.norm bt),λ_=>(hb N hN).2⟩⟩
   cases ex with
   |normal=>
    obtain rfl:=hx
    obtain⟨b,hb⟩:=bG jC d f y V' k (G++I) K' R' aN E' al CW rd df fg br hf.hJ hf.hn hf.fX (by rw[hf.GS,cD,hf.cD]) (by
     rw[hf.cD];exact jE.fwd hf.hK hf.hE hf.GS)
    exact⟨max b al.n,λN hN=>⟨by omega,by omega,λ_=>hb N ai,λh=>absurd rfl h⟩⟩
   |exit i=>exact other (.exit i) ax hx br
   |ret=>exact other .ret ax hx br
   |cw t pv=>exact other (.cw t pv) ax hx br)
  exact⟨b,λN hN=>.seq (hb N hN)⟩
 |cond c x y=>
  simp only[nW]at hs;have hc:=bF hJ d 0 c;split at hs
  .rename_i hh;rw[hh]at hc;obtain⟨u,h1,h2,_⟩:=hc;simp only[ay,SE.den,ayB]at h1;subst h1;obtain⟨b,hb⟩:=bG jC d f x V k G K R X E Y CW rd df fg hs hJ hn hK cD jE;exact⟨b,λN hN=>.cond (cQ h2) (by rw[if_pos rfl];exact hb N hN)⟩
  .rename_i hh;rw[hh]at hc;obtain⟨u,h1,h2,_⟩:=hc;simp only[ay,SE.den,ayB]at h1;subst h1;obtain⟨b,hb⟩:=bG jC d f y V k G K R X E Y CW rd df fg hs hJ hn hK cD jE;exact⟨b,λN hN=>.cond (cQ h2) (by rw[if_neg ax];exact hb N hN)⟩
  .rename_i e _ _ hh;split at hs
   .rename_i t;split at hs
    .exact hs.elim
    .have hg:=XE ax hh;rcases hs with⟨h1,hs⟩|⟨h1,hs⟩
     .obtain⟨aK,bR⟩:=J.refine hJ (.inl hg) h1;obtain⟨b,hb⟩:=bG jC d f x _ k G K R X E Y CW rd df fg hs bR hn hK cD jE;exact⟨b,λN hN=>.cond (t:=ab) aK (by rw[if_pos rfl];exact hb N hN)⟩
     .obtain⟨aK,bR⟩:=J.refine hJ (.inl hg) h1;obtain⟨b,hb⟩:=bG jC d f y _ k G K R X E Y CW rd df fg hs bR hn hK cD jE;exact⟨b,λN hN=>.cond (t:=af) aK (by rw[if_neg ax];exact hb N hN)⟩
   .exact hs.elim
  .rename_i e hh;split at hs
   .rename_i t;split at hs
    .exact hs.elim
    .have hg:=XE ax hh;rcases hs with⟨h1,hs⟩|⟨h1,hs⟩
     .obtain⟨aK,bR⟩:=J.refine hJ (.inr ⟨_,hg⟩) h1;obtain⟨b,hb⟩:=bG jC d f x _ k G K R X E Y CW rd df fg hs bR hn hK cD jE;exact⟨b,λN hN=>.cond (t:=ab) aK (by rw[if_pos rfl];exact hb N hN)⟩
     .obtain⟨aK,bR⟩:=J.refine hJ (.inr ⟨_,hg⟩) h1;obtain⟨b,hb⟩:=bG jC d f y _ k G K R X E Y CW rd df fg hs bR hn hK cD jE;exact⟨b,λN hN=>.cond (t:=af) aK (by rw[if_neg ax];exact hb N hN)⟩
   .exact hs.elim
  .exact hs.elim
 |block id x=>
  simp only[nW]at hs
  obtain⟨b,hb⟩:=bG jC d f x V _ G K R X E Y (λN ex e1 au=>CW N (match ex with|.exit i=>if i=id then .normal else .exit i|ex=>ex) e1 au) rd df fg hs hJ hn hK cD (by
   intro ex V' I K' R' aN E' al x0 hf hx br;cases ex with
   |normal=>obtain rfl:=hx;exact jE .normal V' I K' R' aN E' al _ hf rfl br
   |ret=>obtain rfl:=hx;exact jE .ret V' I K' R' aN E' al _ hf rfl br
   |cw t pv=>obtain⟨v,rfl,hv⟩:=hx;exact jE (.cw t pv) V' I K' R' aN E' al _ hf ⟨v,rfl,hv⟩ br
   |exit i=>
    obtain rfl:=hx;simp only at br;split at br
    .rename_i hh;have:=ayH hh;subst this;simpa using jE .normal V' I K' R' aN E' al _ hf rfl br
    .rename_i hh;have bt:i≠id:=by rintro rfl;simp at hh
     simpa[bt]using jE (.exit i) V' I K' R' aN E' al _ hf rfl br)
  exact⟨b,λN hN=>.block (hb N hN)⟩
 |scope x=>
  simp only[nW]at hs
  obtain⟨b,hb⟩:=bG jC d f x V k G K R X E Y (λN ex e1 au=>(∀l,ex≠.goto l)/\CW N ex e1 au) rd df fg hs hJ hn hK cD (by
   intro ex V' I K' R' aN E' al x0 hf hx br;obtain⟨b,hb⟩:=jE ex V' I K' R' aN E' al x0 hf hx br;exact⟨b,λN hN=>⟨(hb N hN).1,hx.goto,(hb N hN).2⟩⟩)
  exact⟨b,λN hN=>.scope (hb N hN)⟩
 |loop x=>
  simp only[nW]at hs;split at hs
  .rename_i nn _;obtain⟨b,hb⟩:=Qj (rd:=rd) (df:=df) fg bG nn V G K R X E Y hs hJ hn hK cD jE;exact⟨b,λN hN=>.loop (hb N hN)⟩
  split at hs
  .rename_i es eH hi;obtain⟨vs,h1,m,h2⟩:=hs;obtain⟨R2,fE,yb,_⟩:=TM _ hJ;obtain⟨hlen,vG⟩:=N2 (ss:=G) fE (by rw[yb];exact hn) ⟨[],by simp⟩ hi (KM h1);obtain⟨b,hb⟩:=Qi (rd:=rd) (df:=df) (CW:=CW) (E:=E) (bad:=λW=>.bad _ _ _ _ _ _ _ W.g W.l) hK fg bG (λ_ _ _ h=>h) (by exact congrArg Nat.succ hK) (by rfl) (hn.trans yb.symm) (by exact jE) m vG hlen (λ_ _=>rfl) rfl (by exact cD) h2;exact⟨b,λN hN=>.loop (hb N hN)⟩
  .exact hs.elim
 |rangeFunc g params assign body=>
  simp only[nW]at hs;split at hs
  .exact hs.elim
  .rename_i hr;obtain rfl:=fg (by simpa using hr);split at hs<;>try exact hs.elim
   rename_i F bs hg;exact acx (λCx=>Mm Cx Q) hJ hn hK cD jE hg hs
 |_=>exact hs.elim
theorem TY(e_:P.follows .mixedOrders=ab)(hC:jK P C):∀n Cx Q,oE Cx P C Q (exec P cfg n Cx)
 |0,_,_=>λ_ _ _ _ _ _ _ _ _ _ _ _ _ _ _ _ hs _ _ _ _ _=>hs.elim
 |n+1,_,_=>Wx e_ hC (TY e_ hC n)
theorem Ae(e_:P.follows .mixedOrders=ab)(hC:jK P C)(n:Nat)(Cx:Cs):oE Cx P C Q (exec P cfg n Cx):=TY e_ hC n Cx Q
end
section
variable{Cx:Cs}
variable{P:Program}{N:Nat}{Y al:St}{R R':Rs}{X aN:Ph}{E:Nat->Env}{G:List IV}{ro:Nat}{Z:Io}{w:World}{cfg:eS}{self:m8}
variable{C:Cr}{Q:IV->Prop}{K:List (List IV->Prop)}{V:SS}{d f0:Nat}{L:List (LO SE)}{Γ:Gm SE}{rd:Option Nat}{df:List Df}
theorem jO.vr1{V V1:SS}{R1:Rs}(h:jO P G R X V Y R1 V1){x:IV}{p:Bool×List (Cl SE)}(hx:wA (ay P G) R X V.l Y x p):wA (ay P G) R1 X V1.l Y x p:=by
 unfold wA at hx⊢;split
 .rename_i hp;rw[if_pos hp]at hx;obtain⟨xs,h1,h2⟩:=hx;exact⟨xs,h1,h2.mono λ_ _ cn=>h.Tc cn⟩
 .rename_i hp;rw[if_neg hp]at hx;obtain⟨c,h1,h2⟩:=hx;exact⟨c,h1,h.Tc h2⟩
theorem XF:∀{vs:List (Bool×List (Cl SE))} {V V':SS} {R:Rs} {fr:Bool} {zs:List SE},J Cx (ay P G) R X V.g V.l E Y->vy.SY V vs=aa (fr,zs,V')->
 ∃R',jO P G R X V Y R' V'/\J Cx (ay P G) R' X V'.g V'.l E Y/\∀xs,All2 (wA (ay P G) R X V.l Y) xs vs->∃ys,All2 (λ(z:SE) y=>z.den P G=aa y) zs ys/\All2 (bD fr R' Y) xs ys
 |[],V,V',R,fr,zs,h,hr=>by
  simp only[vy.SY,ayB,ay7]at hr;obtain⟨rfl,rfl,rfl⟩:=hr;refine⟨R,.refl h,h,λxs hx=>?_⟩;cases xs with
  |nil=>exact⟨[],trivial,trivial⟩
  |cons=>exact hx.elim
 |(a,cs)::vs,V,V',R,fr,zs,h,hr=>by
  simp only[vy.SY]at hr;split at hr
  .rename_i f1 z1 V1 h1;split at hr
   .rename_i f2 ys2 V2 h2;obtain⟨R1,a1,a2,_,a3⟩:=z_ h h1;obtain⟨R2,b1,b2,b3⟩:=XF a2 h2
    have key:∀z,(a=ab->z=fa z1)->(a=af->z1=[z])->(f1||f2,z::ys2,V2)=(fr,zs,V')->∃R',jO P G R X V Y R' V'/\J Cx (ay P G) R' X V'.g V'.l E Y/\∀xs,All2 (wA (ay P G) R X V.l Y) xs ((a,cs)::vs)->∃ys,All2 (λ(z:SE) y=>z.den P G=aa y) zs ys/\All2 (bD fr R' Y) xs ys:=by
     intro z vI LZ he;simp only[ay7]at he;obtain⟨rfl,rfl,rfl⟩:=he;refine⟨R2,a1.trans b1,b2,λxs hx=>?_⟩;cases xs with
     |nil=>exact hx.elim
     |cons x xs=>
      obtain⟨ys,d1,d2⟩:=b3 xs (hx.2.mono λ_ _ cn=>a1.vr1 cn);have yV:=hx.1;unfold wA at yV;cases a with
      |true=>
       simp only[if_true]at yV;obtain⟨us,rfl,h5⟩:=yV;obtain⟨ws,e1,e2,_⟩:=a3 us h5;refine⟨.agg ws::ys,⟨by rw[vI rfl];exact fJ e1,d1⟩,⟨?_,d2.mono λ_ _ cn=>cn.wide (λh=>by simp[h])⟩⟩;exact .agg us ws e2.len λi c e g1 g2=>((e2.get g1 g2).mono b1.2.2.2.grow).wide (λh=>by simp[h])
      |false=>
       simp only[ayW,if_false]at yV;obtain⟨c,hc,h5⟩:=yV;obtain⟨ws,e1,e2,_⟩:=a3 [x] (by rw[hc];exact⟨h5,trivial⟩);rw[LZ rfl]at e1;cases ws with
       |nil=>exact e1.elim
       |cons y ws=>
        exact⟨y::ys,⟨e1.1,d1⟩,⟨(e2.1.mono b1.2.2.2.grow).wide (λh=>by simp[h]),d2.mono λ_ _ cn=>cn.wide (λh=>by simp[h])⟩⟩
    cases a with
    |true=>
     simp only[ayB]at hr;exact key _ (λ_=>rfl) (λh=>by cases h) hr
    |false=>
     split at hr<;>try (cases hr;done)
     .exact absurd ‹af=ab› ax
     .simp only[ayB]at hr;exact key _ (λh=>by cases h) (λ_=>rfl) hr
   .cases hr
  .cases hr
theorem TZ{V':SS}{pv:PV SE}{fr:Bool}{z:SE}(h:J Cx (ay P G) R X V.g V.l E Y)(hr:vy V pv=aa (fr,z,V')){x:IV}(hx:VR (ay P G) R X V.l Y x pv):
 ∃R' y,z.den P G=aa y/\bD fr R' Y x y:=by
 cases pv with
 |one c=>
  obtain⟨R',_,_,h3⟩:=NY h hr (λ_ h=>by cases h);obtain⟨y,h4,h5⟩:=h3 x hx;exact⟨R',y,h4,h5⟩
 |ag cs=>
  obtain⟨R',_,_,h3⟩:=NY h hr (λ_ h=>by cases h);obtain⟨y,h4,h5⟩:=h3 x hx;exact⟨R',y,h4,h5⟩
 |tu vs=>
  simp only[vy]at hr;split at hr
  .rename_i f zs V1 vK;simp only[ayB,ay7]at hr;obtain⟨rfl,rfl,rfl⟩:=hr;obtain⟨R',_,_,h3⟩:=XF h vK;obtain⟨xs,rfl,sb⟩:=hx;obtain⟨ys,a,b⟩:=h3 xs sb;exact⟨R',.aL ys,by simp[SE.den,fJ a],.aL xs ys b.len λi c e h1 h2=>b.get h1 h2⟩
  .cases hr
theorem BM{args:List IV}{f:ak}(hp:∀v∈args,Pure v):∀{ts:List TypeId} {j:Nat},(sY P j ts f).sat P C Q K args->j+ts.length=args.length->f.sat P C Q K args/\All2 (VR (ay P args) R X L Y) (args.drop j) (eI P j ts)
 |[],j,hs,hl=>by
  simp at hl;rw[ay3 ai];exact⟨hs,trivial⟩
 |t::ts,j,hs,hl=>by
  simp at hl;have hj:j<args.length:=ai;have hd:(SE.var j).den P args=aa args[j]:=by simp[SE.den,hj]
  obtain⟨h1,h2,_⟩:=HJ (R:=R) (X:=X) (L:=L) (Y:=Y) hd (hp _ (ayy hj)) hs;obtain⟨h4,h5⟩:=BM hp h1 ai;refine⟨h4,?_⟩;rw[ay5 hj];exact⟨h2,h5⟩
theorem Mo{x z:IV}{fr:Bool}(h:aF z=ab)(hc:bD fr R Y x z):bD af R Y x z:=by
 cases z<;>simp only[aF]at h<;>try (cases h;done)
 rw[cQ hc];exact .raw _
theorem dX.lT(e_:P.follows .mixedOrders=ab)(hC:jK P C){n:Nat}{new:Bool}{f:FuncId}{c9:ak}{args:List IV}{z:IV}(he:aE P cfg n new f=c9)(hl:(P.funcs[f]?).map (·.params.size)=aa args.length)(hp:∀x∈args,Pure x)
 (hs:c9.sat P C (·=z) [] args):dX P af new f args z:=by
 subst he;unfold aE at hs;split at hs<;>try exact hs.elim
 rename_i fn cL;split at hs<;>try exact hs.elim
 rename_i c hb;split at hs<;>try exact hs.elim
 rename_i hle;have R_:fn.params.size<=fn.ntmps:=by simpa using hle
 rw[cL]at hl;simp only[ay_,ayB]at hl;obtain⟨hs,cb⟩:=BM (R:=λ_=>ah) (X:=λ_=>ah) (L:=[]) (Y:=⟨0,.lf⟩) hp hs (by simpa using hl);have hlen:args.length<=fn.ntmps:=ai
 have hJ:J [] (ay P args) (λ_=>ah) (λ_=>ah) (setArgs 0 0 (eI P 0 fn.params.toList)) [] (λ_=>dL args fn.ntmps) ⟨0,.lf⟩:=by
  refine⟨λd t pv hg=>?_,λk ob h=>(by simp at h),λk k' id h=>(by cases h),λk id h=>(by cases h),λid m h=>(by cases h),λid m cs aB mn h=>(by cases h),T.WF.lf,λid _=>rfl⟩;obtain⟨rfl,_,h3⟩:=jn (O:=IV) hg;rw[aAT]at cb;have ht:t<args.length:=by rw[cb.len];have:=(ayw.1 h3).1;simpa using this
  show VR _ _ _ _ _ ((dL args fn.ntmps).at t) pv;rw[(ej hlen).2 ht,ayv ht];exact cb.get (ayv ht) (by simpa using h3)
 obtain⟨b,rA⟩:=Ae e_ hC n [] af 0 f c ⟨setArgs 0 0 (eI P 0 fn.params.toList),[],fn.params.size,0,fn.ntmps⟩ _ args [] _ _ _ _
  (λN ex e1 au=>(ex=.normal\/ex=.ret)/\au.n<=N/\∃v,cC P fn e1 au=aa v/\Can (!new) au v z) ah [] (λ_=>rfl) hs hJ hl.symm rfl (ej (t:=0) hlen).1 (by
   intro ex V' I K' R' aN E' al x0 hf mA br
   have main:∀kS,oS P 0 V' fn.results.toList=aa kS->(match vy V' (Hv kS)with|some (fr,z,_)=>ak.ret (if new&&fr then .rw z else z)|none=>.fail 142).sat P C (·=z) K' (args++I)->∃b,∀N,b<=N->al.n<=N/\al.n<=N/\∃v,cC P fn (E' 0) al=aa v/\Can (!new) al v z:=by
    intro kS hr eY;obtain⟨vs,h1,h2⟩:=oW hf.hJ hr;have hv:=N0 h2;split at eY<;>try exact eY.elim
    rename_i fr e _ fg;obtain⟨R2,y,h3,h4⟩:=TZ hf.hJ fg hv;obtain⟨z',h5,rfl⟩:=eY;refine⟨al.n,λN hN=>⟨hN,hN,HO vs,ny h1,?_⟩⟩;cases new with
    |false=>
     simp only[aAf,ayW,if_false]at h5;rw[h3]at h5;cases h5;exact h4.cP.can
    |true=>
     cases fr with
     |false=>
      simp only[Bool.and_false,ayW,if_false]at h5;rw[h3]at h5;cases h5;exact h4.can
     |true=>
      simp only[Bool.and_self,if_true,SE.den,h3,ayx]at h5;split at h5
      .rename_i ki;cases h5;exact(Mo ki h4).can
      .cases h5
   cases ex with
   |exit i=>exact br.elim
   |cw t pv=>exact br.elim
   |normal=>
    obtain rfl:=mA;simp only at br;split at br
    .rename_i kS hr;obtain⟨b,hb⟩:=main kS hr br;exact⟨b,λN hN=>⟨(hb N hN).1,.inl rfl,(hb N hN).2⟩⟩
    .exact br.elim
   |ret=>
    obtain rfl:=mA;simp only at br;split at br
    .rename_i kS hr;obtain⟨b,hb⟩:=main kS hr br;exact⟨b,λN hN=>⟨(hb N hN).1,.inr rfl,(hb N hN).2⟩⟩
    .exact br.elim)
 exact dX.Jz (dM.body (RW:=λv au=>Can (!new) au v z) cL hb hlen (rA b (ayA _))) λv al h=>h
end
section
variable{Cx:Cs}
section run
variable(P:Program)(cfg:eS)
def Af(n s:Nat)(f:FuncId):ak:=
 match P.funcs[f]? with
 |some fn=>match fn.body,fn.params.toList with
  |some c,_::ts=>
   if azD fn.params.size fn.ntmps then
    sY P 1 ts<|exec P cfg n [] af 0 f c ⟨setArgs 0 0 (.one (.sr 0)::eI P 1 ts),[.row s af af ab (.var 0)],fn.params.size,0,fn.ntmps⟩ λex V=>match ex with
     |.exit _=>.fail 141
     |.cw _ _=>.fail 146
     |_=>match oS P 0 V fn.results.toList with
      |some [.one (.sr k)]=>match V.l[k]? with
       |some (.row s' af af fr z)=>if ayI s s' then .ret (if fr then .rws z else z)else .fail 146
       |_=>.fail 147
      |_=>.fail 148
   else .fail 143
  |_,_=>.fail 144
 |none=>.fail 145
end run
variable{P:Program}{N:Nat}{Y al:St}{R R':Rs}{X aN:Ph}{E:Nat->Env}{G:List IV}{cfg:eS}{self:m8}
variable{C:Cr}{Q:IV->Prop}{K:List (List IV->Prop)}{V:SS}{d f0:Nat}{L:List (LO SE)}{Γ:Gm SE}
theorem FA{xs args:List IV}{x z:IV}{f:ak}(hp:All2 jj args xs):∀{ts:List TypeId} {j:Nat},(sY P (j+1) ts f).sat P C Q K (z::xs)->j+ts.length=xs.length->f.sat P C Q K (z::xs)/\All2 (VR (ay P (z::xs)) R X L Y) (args.drop j) (eI P (j+1) ts)
 |[],j,hs,hl=>by
  simp at hl;rw[ay3 (by have:=hp.len;omega)];exact⟨hs,trivial⟩
 |t::ts,j,hs,hl=>by
  simp at hl;have hj:j<xs.length:=ai;have ni:j<args.length:=by have:=hp.len;omega
  have hd:(SE.var (j+1)).den P (z::xs)=aa xs[j]:=by simp[SE.den,hj]
  obtain⟨h1,h2⟩:=Fv (R:=R) (X:=X) (L:=L) (Y:=Y) hd (hp.get (ayv ni) (ayv hj)) hs;obtain⟨h4,h5⟩:=FA (x:=x) hp h1 ai;refine⟨h4,?_⟩;rw[ay5 ni];exact⟨h2,h5⟩
theorem Fo.lT(e_:P.follows .mixedOrders=ab)(hC:jK P C){n s:Nat}{f:FuncId}{c9:ak}{es aQ xs:List IV}(he:Af P cfg n s f=c9)(hl:(P.funcs[f]?).map (·.params.size)=aa (xs.length+1))
 (hs:c9.sat P C (·=.tree s aQ) [] (.tree s es::xs)):Fo P s f es xs aQ:=by
 subst he;unfold Af at hs;split at hs<;>try exact hs.elim
 rename_i fn cL;split at hs<;>try exact hs.elim
 rename_i c t0 ts hb jZ;split at hs<;>try exact hs.elim
 rename_i hle;have R_:fn.params.size<=fn.ntmps:=by simpa using hle
 rw[cL]at hl;simp only[ay_,ayB]at hl
 have bf:ts.length=xs.length:=by
  have:fn.params.toList.length=fn.params.size:=by simp
  rw[jZ]at this;simp at this;omega
 intro R X E Y x args l_ hX0 bE KW TC;have fF:args.length=xs.length:=bE.len;obtain⟨cm,so,k1,k2,k3⟩:=l_.obj 0 _ rfl;have y9:aa (IV.tree s es)=aa (.tree s so):=k1;cases y9;obtain⟨fq,cb⟩:=FA (x:=x) (j:=0) (R:=R) (X:=X) (L:=[.row s af af ab (.var 0)]) (Y:=Y) bE hs ai;rw[aAT]at cb;have mz:(SE.var 0).den P (.tree s es::xs)=aa (.tree s es):=by simp[SE.den]
 have hX:cZ (ay P (.tree s es::xs)) R X [.row s af af ab (.var 0)] Y x (.sr 0):=by
  obtain⟨s1,mX,vE,vD,z1,gg,b1,b2,b3⟩:=hX0;have y8:aa (LO.row s af af af ())=aa (.row s1 mX vE vD z1):=b1;cases y8;have s5:aa (IV.tree s es)=aa (.tree s gg):=b2;cases s5;exact⟨s,af,af,ab,.var 0,es,rfl,mz,b3⟩
 have BN:All2 (VR (ay P (.tree s es::xs)) R X [.row s af af ab (.var 0)] Y) (x::args) (.one (.sr 0)::eI P 1 ts):=⟨hX,cb⟩;have hlen:(x::args).length<=fn.ntmps:=by simp;omega
 have hJ:J [] (ay P (.tree s es::xs)) R X (setArgs 0 0 (.one (.sr 0)::eI P 1 ts)) [.row s af af ab (.var 0)] (λ_=>dL (x::args) fn.ntmps) Y:=by
  refine⟨λd t pv hg=>?_,λj ob hj=>?_,l_.inj,λj id hj=>?_,l_.qO,l_.fits,l_.wf,l_.top⟩
  .obtain⟨rfl,_,h3⟩:=jn (O:=IV) hg;have ht:t<(x::args).length:=by rw[BN.len];have:=(ayw.1 h3).1;simpa using this
   show VR _ _ _ _ _ ((dL (x::args) fn.ntmps).at t) pv;rw[(ej hlen).2 ht,ayv ht];exact BN.get (ayv ht) (by simpa using h3)
  .cases j with
   |succ j=>simp at hj
   |zero=>
    simp at hj;subst hj;refine⟨cm,es,mz,k2,?_⟩;rcases k3 with⟨a,b⟩|⟨id,cs,aB,mn,a1,a2,a3,a4,a5,a6,a7⟩
    .exact .inl ⟨a,b⟩
    .exact .inr ⟨id,cs,aB,mn,a1,a2,a3,a4,a5,a6,λq u v hu hv=>(a7 q u v hu hv).wide (λh=>by cases h)⟩
  .have:=l_.lt j id hj;simpa using this
 obtain⟨b,rA⟩:=Ae e_ hC n [] af 0 f c ⟨setArgs 0 0 (.one (.sr 0)::eI P 1 ts),[.row s af af ab (.var 0)],fn.params.size,0,fn.ntmps⟩ _ (.tree s es::xs) [] _ _ _ _
  (λN ex e1 au=>(ex=.normal\/ex=.ret)/\au.n<=N/\∃v,cC P fn e1 au=aa v/\KW N v au) ah [] (λ_=>rfl) fq hJ (by simp;omega) rfl (ej (t:=0) hlen).1 (by
   intro ex V' I K' R' aN E' al x0 hf mA br
   have main:(match oS P 0 V' fn.results.toList with
    |some [.one (.sr k)]=>match V'.l[k]? with
     |some (.row s' af af fr z)=>if ayI s s' then ak.ret (if fr then .rws z else z)else .fail 146
     |_=>.fail 147
    |_=>.fail 148).sat P C (·=IV.tree s aQ) K' (IV.tree s es::xs++I)->∃b,∀N,b<=N->al.n<=N/\al.n<=N/\∃v,cC P fn (E' 0) al=aa v/\KW N v al:=by
    intro eY;split at eY<;>try exact eY.elim
    rename_i k hr;obtain⟨vs,h1,h2⟩:=oW hf.hJ hr;split at eY<;>try exact eY.elim
    rename_i s' fr z hk;split at eY<;>try exact eY.elim
    rename_i je;have wZ:=ayH je;subst wZ;obtain⟨z',h5,rfl⟩:=eY;obtain⟨v,rfl,hv⟩:=px h2;have gr:cC P fn (E' 0) al=aa v:=ny h1;obtain⟨m0,JT,m1,m2,m3⟩:=hf.hJ.obj k _ hk;have Mp:z.den P (IV.tree s es::xs++I)=aa (.tree s JT):=m1
    have pU:JT=aQ/\(fr=ab->∀e∈JT,∀c∈cellsOf e,aF c=ab):=by
     cases fr with
     |false=>
      simp only[ayW,if_false]at h5;rw[Mp]at h5;cases h5;exact⟨rfl,λh=>by cases h⟩
     |true=>
      simp only[if_true]at h5;obtain⟨s1,gg,c1,c2,c3⟩:=N4 h5;rw[Mp]at c1;cases c1;cases c2;exact⟨rfl,λ_=>c3⟩
    obtain⟨rfl,ki⟩:=pU
    have T2:∀{u w:IV} {q:Nat},(flat JT)[q]?=aa w->bD fr R' al u w->bD af R' al u w:=by
     intro u w q hw hc;cases fr with
     |false=>exact hc
     |true=>
      obtain⟨e,he,sM⟩:=List.mem_flatMap.1 (ayM hw);exact Mo (ki rfl e he w sM) hc
    obtain⟨b,hb⟩:=TC R' (λj=>if j=0 then aN k else ah) al v (by
     refine⟨λd t pv hg=>(by cases hg),λj ob hj=>?_,λj j' id h1 h2=>?_,λj id hj=>?_,hf.hJ.qO,hf.hJ.fits,hf.hJ.wf,hf.hJ.top⟩
     .cases j with
      |succ j=>simp at hj
      |zero=>
       simp at hj;subst hj;refine⟨m0,JT,rfl,m2,?_⟩;rcases m3 with⟨a,b⟩|⟨id,cs,aB,mn,a1,a2,a3,a4,a5,a6,a7⟩
       .exact .inl ⟨by simp[a],b⟩
       .exact .inr ⟨id,cs,aB,mn,by simp[a1],a2,a3,a4,a5,a6,λq u w hu hw=>T2 hw (a7 q u w hu hw)⟩
     .split at h1<;>try (cases h1;done)
      split at h2<;>try (cases h2;done)
      omega
     .split at hj<;>try (cases hj;done)
      rename_i hj0;subst hj0;exact⟨by simp,(hf.hJ.lt k id hj).2⟩) (by
     obtain⟨s1,mX,vE,vD,z1,gg,b1,b2,b3⟩:=hv;rw[hk]at b1;cases b1;have s5:z.den P (IV.tree s es::xs++I)=aa (.tree s gg):=b2;rw[Mp]at s5;cases s5;refine⟨s,af,af,af,(),JT,rfl,rfl,?_⟩;rcases b3 with⟨c1,c2,c3⟩|⟨id,cs,aB,mn,cap,c1,c2,c3,c4,c5,c6⟩
     .exact .inl ⟨by simp[c1],c2,c3⟩
     .exact .inr ⟨id,cs,aB,mn,cap,by simp[c1],c2,c3,c4,c5,c6⟩)
    exact⟨max b al.n,λN hN=>⟨by omega,by omega,v,gr,hb N ai⟩⟩
   cases ex with
   |exit i=>exact br.elim
   |cw t pv=>exact br.elim
   |normal=>
    obtain rfl:=mA;obtain⟨b,hb⟩:=main br;exact⟨b,λN hN=>⟨(hb N hN).1,.inl rfl,(hb N hN).2⟩⟩
   |ret=>
    obtain rfl:=mA;obtain⟨b,hb⟩:=main br;exact⟨b,λN hN=>⟨(hb N hN).1,.inr rfl,(hb N hN).2⟩⟩)
 exact⟨b,λN hN=>dM.body (RW:=KW N) cL hb hlen (rA N hN)⟩
end
section
variable{Cx:Cs}
section run
variable(P:Program)(cfg:eS)
def ma(n:Nat)(nm:Bool)(f:FuncId):ak:=
 match P.funcs[f]? with
 |some fn=>match fn.body with
  |some c=>
   if azD fn.params.size fn.ntmps&&azp 0 (bY P f)then
    sY P 0 fn.params.toList<|exec P cfg n [] af 0 f c ⟨setArgs 0 0 (eI P 0 fn.params.toList),[],fn.params.size,0,fn.ntmps⟩ λex V=>match ex with
     |.exit _=>.fail 141
     |.cw _ _=>.fail 146
     |_=>match oS P 0 V fn.results.toList with
      |some [.one (.sr k)]=>match V.l[k]? with
       |some (.row s' af af _ z)=>if !nm&&ayI (bY P f) s' then .ret (.rws z)else .fail 146
       |_=>.fail 147
      |some [.one (.nl ab s')]=>if ayI (bY P f) s' then .ret (.tr s' .an)else .fail 146
      |_=>.fail 148
   else .fail 143
  |none=>.fail 144
 |none=>.fail 145
end run
variable{P:Program}{N:Nat}{Y al:St}{R R':Rs}{X aN:Ph}{E:Nat->Env}{G:List IV}{cfg:eS}{self:m8}
variable{C:Cr}{Q:IV->Prop}{K:List (List IV->Prop)}{V:SS}{d f0:Nat}{L:List (LO SE)}{Γ:Gm SE}
theorem oC.lT(e_:P.follows .mixedOrders=ab)(hC:jK P C){n:Nat}{nm:Bool}{f:FuncId}{c9:ak}{args es:List IV}(he:ma P cfg n nm f=c9)(hl:(P.funcs[f]?).map (·.params.size)=aa args.length)(hp:∀x∈args,Pure x)
 (bQ:∀e∈es,(cellsOf e).length=bY P f)(bu:∀c∈flat es,(∃v,c=.raw v)/\ao c=ab)(bt:nm=af->es≠[])
 (hs:c9.sat P C (·=.tree (bY P f) es) [] args):oC P (bY P f) f args es:=by
 subst he;unfold ma at hs;split at hs<;>try exact hs.elim
 rename_i fn cL;split at hs<;>try exact hs.elim
 rename_i c hb;split at hs<;>try exact hs.elim
 rename_i hle;simp only[ayz]at hle;have R_:fn.params.size<=fn.ntmps:=by simpa using hle.1
 have cm:0<bY P f:=by simpa using hle.2
 rw[cL]at hl;simp only[ay_,ayB]at hl;obtain⟨hs,cb⟩:=BM (R:=λ_=>ah) (X:=λ_=>ah) (L:=[]) (Y:=⟨0,.lf⟩) hp hs (by simpa using hl);have hlen:args.length<=fn.ntmps:=ai
 have hJ:J [] (ay P args) (λ_=>ah) (λ_=>ah) (setArgs 0 0 (eI P 0 fn.params.toList)) [] (λ_=>dL args fn.ntmps) ⟨0,.lf⟩:=by
  refine⟨λd t pv hg=>?_,λk ob h=>(by simp at h),λk k' id h=>(by cases h),λk id h=>(by cases h),λid m h=>(by cases h),λid m cs aB mn h=>(by cases h),T.WF.lf,λid _=>rfl⟩;obtain⟨rfl,_,h3⟩:=jn (O:=IV) hg;rw[aAT]at cb;have ht:t<args.length:=by rw[cb.len];have:=(ayw.1 h3).1;simpa using this
  show VR _ _ _ _ _ ((dL args fn.ntmps).at t) pv;rw[(ej hlen).2 ht,ayv ht];exact cb.get (ayv ht) (by simpa using h3)
 obtain⟨b,rA⟩:=Ae e_ hC n [] af 0 f c ⟨setArgs 0 0 (eI P 0 fn.params.toList),[],fn.params.size,0,fn.ntmps⟩ _ args [] _ _ _ _
  (λN ex e1 au=>(ex=.normal\/ex=.ret)/\au.n<=N/\∃v,cC P fn e1 au=aa v/\aak (bY P f) es v au) ah [] (λ_=>rfl) hs hJ hl.symm rfl (ej (t:=0) hlen).1 (by
   intro ex V' I K' R' aN E' al x0 hf mA br
   have main:(match oS P 0 V' fn.results.toList with
    |some [.one (.sr k)]=>match V'.l[k]? with
     |some (.row s' af af _ z)=>if !nm&&ayI (bY P f) s' then ak.ret (.rws z)else .fail 146
     |_=>.fail 147
    |some [.one (.nl ab s')]=>if ayI (bY P f) s' then .ret (.tr s' .an)else .fail 146
    |_=>.fail 148).sat P C (·=IV.tree (bY P f) es) K' (args++I)->∃b,∀N,b<=N->al.n<=N/\al.n<=N/\∃v,cC P fn (E' 0) al=aa v/\aak (bY P f) es v al:=by
    intro eY;split at eY<;>try exact eY.elim
    .rename_i k hr;obtain⟨vs,h1,h2⟩:=oW hf.hJ hr;split at eY<;>try exact eY.elim
     rename_i s' fr z hk;split at eY<;>try exact eY.elim
     rename_i je;simp only[ayz,azn]at je;obtain⟨gB,je⟩:=je;have wZ:=ayH je;subst wZ;obtain⟨z',h5,rfl⟩:=eY;obtain⟨v,rfl,hv⟩:=px h2;have gr:cC P fn (E' 0) al=aa v:=ny h1;obtain⟨s1,gg,c1,c2,c3⟩:=N4 h5;cases c2;obtain⟨m0,JT,m1,m2,m3⟩:=hf.hJ.obj k _ hk;have Mp:z.den P (args++I)=aa (.tree (bY P f) JT):=m1;rw[c1]at Mp;cases Mp;refine⟨al.n,λN hN=>⟨hN,hN,v,gr,.inr ⟨bt gB,?_⟩⟩⟩;obtain⟨s2,mX,vE,vD,z1,lk,b1,b2,b3⟩:=hv;rw[hk]at b1;cases b1;have s5:z.den P (args++I)=aa (.tree (bY P f) lk):=b2;rw[c1]at s5;cases s5;rcases b3 with⟨_,b4,_⟩|⟨id,cs,aB,mn,cap,d1,d2,d3,d4,d5,d6⟩
     .exact absurd (ayZ b4) (bt gB)
     .rcases m3 with⟨e1,_⟩|⟨bz,cY,kg,si,e1,e2,e3,e4,e5,e6,e7⟩
      .rw[d1]at e1;cases e1
      .rw[d1]at e1;cases e1;rw[d2]at e2;cases e2;refine⟨id,cs,aB,mn,cap,d2,e3,by simpa using d3,e4,λq x hx=>?_⟩
       have hq:q<cs.length:=by
        have:=(ayw.1 hx).1;rw[pd bQ]at this;omega
       obtain⟨u,rfl⟩:=(bu x (ayM hx)).1;have:=e7 q _ _ (ayv hq) hx;exact⟨u,rfl,by rw[ayv hq,cQ this]⟩
    .rename_i s' hr;obtain⟨vs,h1,h2⟩:=oW hf.hJ hr;split at eY<;>try exact eY.elim
     rename_i je;have wZ:=ayH je;obtain⟨z',h5,rfl⟩:=eY;obtain⟨v,rfl,hv⟩:=px h2;have gr:cC P fn (E' 0) al=aa v:=ny h1;obtain⟨_,rfl⟩:=hv;simp only[SE.den,ayx]at h5;split at h5<;>cases h5;exact⟨al.n,λN hN=>⟨hN,hN,_,gr,.inl ⟨rfl,rfl⟩⟩⟩
   cases ex with
   |exit i=>exact br.elim
   |cw t pv=>exact br.elim
   |normal=>
    obtain rfl:=mA;obtain⟨b,hb⟩:=main br;exact⟨b,λN hN=>⟨(hb N hN).1,.inl rfl,(hb N hN).2⟩⟩
   |ret=>
    obtain rfl:=mA;obtain⟨b,hb⟩:=main br;exact⟨b,λN hN=>⟨(hb N hN).1,.inr rfl,(hb N hN).2⟩⟩)
 exact oC.Jz cm bQ bu (dM.body (RW:=λv au=>aak (bY P f) es v au) cL hb hlen (rA b (ayA _))) λv al h=>h
end
section
variable{P:Program}{C:Cr}
def ak.ll:ak->ak
 |.test e a b=>.test e a.ll b.ll
 |.bind e k=>.bind e k.ll
 |.aV e k=>.aV e k.ll
 |.call f n a k=>.call f n a k.ll
 |.loop i b=>.loop i b.ll
 |.BC b m c=>.BC b.ll m c.ll
 |.bad .. =>.fail 0
 |f=>f
theorem ak.mb:∀(f:ak) (Q:IV->Prop) (K:List (List IV->Prop)) (G:List IV),f.ll.sat P C Q K G=f.sat P C Q K G
 |.fail _,_,_,_=>rfl
 |.ret _,_,_,_=>rfl
 |.next _ _,_,_,_=>rfl
 |.bad ..,_,_,_=>rfl
 |.test e a b,_,_,_=>by simp only[ll,sat,mb a,mb b]
 |.bind e k,_,_,_=>by simp only[ll,sat,mb k]
 |.aV e k,_,_,_=>by simp only[ll,sat,mb k]
 |.call f n a k,_,_,_=>by simp only[ll,sat,mb k]
 |.loop i b,_,_,_=>by simp only[ll,sat,mb b]
 |.BC b m c,_,_,_=>by simp only[ll,sat,mb b,mb c]
end
section
variable{Cx:Cs}
section run
variable(P:Program)(cfg:eS)
def nA(n:Nat)(nm:Bool)(f:FuncId):ak:=
 match P.funcs[f]? with
 |some fn=>match fn.body with
  |some c=>
   if azD fn.params.size fn.ntmps&&azp 0 (bY P f)then
    sY P 0 fn.params.toList<|exec P cfg n [] af 0 f c ⟨setArgs 0 0 (eI P 0 fn.params.toList),[],fn.params.size,0,fn.ntmps⟩ λex V=>match ex with
     |.exit _=>.fail 141
     |.cw _ _=>.fail 146
     |_=>match oS P 0 V fn.results.toList with
      |some [.one (.sr k)]=>match V.l[k]? with
       |some (.row s' af _ _ z)=>if !nm&&ayI (bY P f) s' then .ret z else .fail 146
       |_=>.fail 147
      |some [.one (.nl ab s')]=>if ayI (bY P f) s' then .ret (.tr s' .an)else .fail 146
      |_=>.fail 148
   else .fail 143
  |none=>.fail 144
 |none=>.fail 145
end run
variable{P:Program}{N:Nat}{Y al:St}{R R':Rs}{X aN:Ph}{E:Nat->Env}{G:List IV}{cfg:eS}{self:m8}
variable{C:Cr}{Q:IV->Prop}{K:List (List IV->Prop)}{V:SS}{d f0:Nat}{L:List (LO SE)}{Γ:Gm SE}
theorem bD.rvN{M:Fz}{fr:Bool}{R:Rs}{x z:IV}{Z:Io}{w:World}(hi:Inv N Z Y w)(hM:∀id b c el,R id≠ah->w.heap[b]?=aa (.cells c el (0,0))->Own Z id b->M b=aa c)(hm:fr=ab->∀b c,Z.m b=aa c->M b=aa c)
 (h:bD fr R Y x z):∀{u:Value},Rv Z x u->Rv (fW M) z u:=by
 induction h with
 |raw v=>intro u h;cases h;exact .raw v
 |nil s hs=>intro u h;cases h;exact .eu s ah 0 hs (λ_=>rfl)
 |emp s hs=>intro u h;cases h;exact .eu s _ 0 hs (λ_=>rfl)
 |dR t x y _ ih=>intro u h;cases h with|dR _ _ v hh=>exact .dR t y v (ih hh)
 |agg cs ds hl _ ih=>
  intro u h;cases h with
  |agg _ vs cH hh=>
   refine .agg ds vs (hl▸cH) λi d v h1 h2=>?_;have cX:i<cs.length:=by have:=(ayw.1 h1).1;omega
   exact ih i _ d (ayv cX) h1 (hh i _ v (ayv cX) h2)
 |aL cs ds hl _ ih=>
  intro u h;cases h with
  |aL _ vs cH hh=>
   refine .aL ds vs (hl▸cH) λi d v h1 h2=>?_;have cX:i<cs.length:=by have:=(ayw.1 h1).1;omega
   exact ih i _ d (ayv cX) h1 (hh i _ v (ayv cX) h2)
 |pure x hf hp=>intro u h;exact hp.rv h (hm hf)
 |sl id off len cap ep s m cs aB mn es hR aK h1 h2 cm hl hb hmm bQ _ ih=>
  intro u h;cases h with
  |sl _ _ _ _ _ _ l c a cH hn jH hs hle i_ ha=>
   obtain⟨⟨_,_⟩,_,Np⟩:=hi.obj id _ aK;obtain⟨l',ca,el,fC,GC,Zy,aoI,gN⟩:=Np ep h1 h2;rw[cH]at fC;cases fC;have hMb:M l.b=aa ca:=hM id _ _ _ (by rw[hR];simp) Zy ⟨ep,l,cH,rfl⟩;subst hl;by_cases he:es=[]
   .subst he;exact .eu s (aa a) c hs ax
   .have tX:0<es.length:=by cases es with|nil=>exact absurd rfl he|cons=>simp
    have G2:=ha ai;subst G2;refine .tree s es l.b off c (λk=>ca.getD (off+k) Go.undef) hs hle bQ (λk hk=>?_) (λi e j d dk yg=>?_)
    .obtain⟨x,hx⟩:∃x,cs[off+k]?=aa x:=⟨_,ayv ai⟩;obtain⟨v,hv,_⟩:=gN (off+k) x ai hx;show(M l.b).bind _=_;rw[hMb];simp[azm,hv]
    .have cX:=(ayw.1 dk).1;have ni:j<s:=by have:=(ayw.1 yg).1;rw[bQ e (ayM dk)]at this;exact this
     have hmul:i*s+s<=es.length*s:=by
      have:(i+1)*s<=es.length*s:=Nat.mul_le_mul_right s cX;rw[Nat.add_mul]at this;omega
     obtain⟨x,hx⟩:∃x,cs[off+i*s+j]?=aa x:=⟨_,ayv ai⟩;obtain⟨v,hv,hr⟩:=gN (off+i*s+j) x ai hx;have:=ih i e j x d dk yg hx hr;simp only[azm];rw[show off+(i*s+j)=off+i*s+j by omega,hv];exact this
theorem jY.Jz{s:Nat}{f:FuncId}{xs es:List IV}{RW:IV->St->Prop}(hs:0<s)(bQ:∀e∈es,(cellsOf e).length=s)(bu:∀c∈flat es,Pure c/\ao c=ab)(h:dM P N f xs ⟨0,.lf⟩ RW)(hc:∀v al,RW v al->Rt s es v al):jY P s f xs es:=by
 refine⟨hs,bQ,bu,λM w us hM hr=>?_⟩;refine(h (fW M) us w (Iy hM) hr).mono λe w' hR=>?_;obtain⟨v,al,sW,hR⟩:=hR;cases e with
 |panicked ch=>exact hR.elim
 |outgrown=>exact hR.elim
 |returned u=>
  obtain⟨aJ,h1,h2,h3⟩:=hR;have sR:∀b,b<w.heap.size->w'.heap[b]?=w.heap[b]? :=λb hb=>h3.frame b hb λid ho=>(by obtain⟨_,_,h,_⟩:=ho;cases h);refine⟨⟨h3.os,h3.tape,h3.output,h3.size,sR⟩,?_⟩;rcases hc v al sW with⟨rfl,rfl⟩|⟨bt,R,id,cs,aB,mn,cap,hRn,a1,a2,rfl,a3,a4⟩
  .cases h1;exact .inl ⟨rfl,rfl⟩
  .obtain⟨_,_,o3⟩:=h2.obj id _ a1;obtain⟨l,c,el,b1,b2,b3,b4,b5⟩:=o3 aB a2 (ayA _);cases h1 with
   |sl _ _ _ _ _ _ l' Fl a hl hn jH br hle i_ ha=>
    rw[b1]at hl;cases hl;have tX:0<es.length:=List.length_pos_iff.2 bt
    have jI:∀bz b,Own aJ bz b->w.heap.size<=b:=λbz b ho=>by
     rcases h3.own bz b ho with ho|ho
     .obtain⟨_,_,h,_⟩:=ho;cases h
     .exact ho
    have pV:Own aJ id l.b:=⟨aB,l,b1,rfl⟩;have hb:w.heap.size<=l.b:=jI id l.b pV;rw[ha ai]
    refine .inr ⟨bt,λb=>if b<w.heap.size then M b else if b=l.b then ah else(match w'.heap[b]? with
     |some (.cells c _ _)=>aa c
     |_=>ah),l.b,c,el,Fl,λb c hh=>?_,λb c hh=>?_,λb c hh=>?_,?_,hb,rfl,b3,hle,by rw[<-b4];omega,λk x hx=>?_⟩
    .simp only at hh;split at hh
     .rename_i aj;rw[sR b aj];exact hM b c hh
     .split at hh
      .cases hh
      .split at hh
       .rename_i c' e f h5;cases hh;exact⟨e,f,h5⟩
       .cases hh
    .simp only at hh;split at hh
     .exact .inl hh
     .exact .inr ai
    .simp only;rw[if_pos (hM.lt hh)];exact hh
    .simp only;rw[if_neg ai,if_pos trivial]
    .obtain⟨y,hy,T2⟩:=a4 k x hx
     have hk:k<l.n:=by
      have:=(ayw.1 hx).1;rw[pd bQ]at this;omega
     obtain⟨u,hu,hr⟩:=b5 k _ hk hy;refine⟨u,T2.rvN h2 (λbz b c el SO hh ho=>?_) (λ_ b c o8=>?_) hr,hu⟩
     .have u_:=jI bz b ho
      have afl:b≠l.b:=by
       rintro rfl;exact SO (by rw[h2.inj bz id _ ho pV];exact hRn)
      show(if _ then _ else _)=_;rw[if_neg ai,if_neg afl,hh]
     .rcases h3.wK b c o8 with eR|u_
      .have eg:M b=aa c:=eR;show(if _ then _ else _)=_;rw[if_pos (hM.lt eg)];exact eg
      .obtain⟨e,f,hh⟩:=h2.mem b c o8
       have afl:b≠l.b:=by
        rintro rfl;exact h2.sep _ c id o8 pV
       show(if _ then _ else _)=_;rw[if_neg ai,if_neg afl,hh]
theorem jY.lT(e_:P.follows .mixedOrders=ab)(hC:jK P C){n:Nat}{nm:Bool}{f:FuncId}{c9:ak}{args es:List IV}(he:nA P cfg n nm f=c9)(hl:(P.funcs[f]?).map (·.params.size)=aa args.length)(hp:∀x∈args,Pure x)
 (bQ:∀e∈es,(cellsOf e).length=bY P f)(bu:∀c∈flat es,Pure c/\ao c=ab)(bt:nm=af->es≠[])
 (hs:c9.sat P C (·=.tree (bY P f) es) [] args):jY P (bY P f) f args es:=by
 subst he;unfold nA at hs;split at hs<;>try exact hs.elim
 rename_i fn cL;split at hs<;>try exact hs.elim
 rename_i c hb;split at hs<;>try exact hs.elim
 rename_i hle;simp only[ayz]at hle;have R_:fn.params.size<=fn.ntmps:=by simpa using hle.1
 have cm:0<bY P f:=by simpa using hle.2
 rw[cL]at hl;simp only[ay_,ayB]at hl;obtain⟨hs,cb⟩:=BM (R:=λ_=>ah) (X:=λ_=>ah) (L:=[]) (Y:=⟨0,.lf⟩) hp hs (by simpa using hl);have hlen:args.length<=fn.ntmps:=ai
 have hJ:J [] (ay P args) (λ_=>ah) (λ_=>ah) (setArgs 0 0 (eI P 0 fn.params.toList)) [] (λ_=>dL args fn.ntmps) ⟨0,.lf⟩:=by
  refine⟨λd t pv hg=>?_,λk ob h=>(by simp at h),λk k' id h=>(by cases h),λk id h=>(by cases h),λid m h=>(by cases h),λid m cs aB mn h=>(by cases h),T.WF.lf,λid _=>rfl⟩;obtain⟨rfl,_,h3⟩:=jn (O:=IV) hg;rw[aAT]at cb;have ht:t<args.length:=by rw[cb.len];have:=(ayw.1 h3).1;simpa using this
  show VR _ _ _ _ _ ((dL args fn.ntmps).at t) pv;rw[(ej hlen).2 ht,ayv ht];exact cb.get (ayv ht) (by simpa using h3)
 obtain⟨b,rA⟩:=Ae e_ hC n [] af 0 f c ⟨setArgs 0 0 (eI P 0 fn.params.toList),[],fn.params.size,0,fn.ntmps⟩ _ args [] _ _ _ _
  (λN ex e1 au=>(ex=.normal\/ex=.ret)/\au.n<=N/\∃v,cC P fn e1 au=aa v/\Rt (bY P f) es v au) ah [] (λ_=>rfl) hs hJ hl.symm rfl (ej (t:=0) hlen).1 (by
   intro ex V' I K' R' aN E' al x0 hf mA br
   have main:(match oS P 0 V' fn.results.toList with
    |some [.one (.sr k)]=>match V'.l[k]? with
     |some (.row s' af _ _ z)=>if !nm&&ayI (bY P f) s' then ak.ret z else .fail 146
     |_=>.fail 147
    |some [.one (.nl ab s')]=>if ayI (bY P f) s' then .ret (.tr s' .an)else .fail 146
    |_=>.fail 148).sat P C (·=IV.tree (bY P f) es) K' (args++I)->∃b,∀N,b<=N->al.n<=N/\al.n<=N/\∃v,cC P fn (E' 0) al=aa v/\Rt (bY P f) es v al:=by
    intro eY;split at eY<;>try exact eY.elim
    .rename_i k hr;obtain⟨vs,h1,h2⟩:=oW hf.hJ hr;split at eY<;>try exact eY.elim
     rename_i s' cut fr z hk;split at eY<;>try exact eY.elim
     rename_i je;simp only[ayz,azn]at je;obtain⟨gB,je⟩:=je;have wZ:=ayH je;subst wZ;obtain⟨z',h5,rfl⟩:=eY;obtain⟨v,rfl,hv⟩:=px h2;have gr:cC P fn (E' 0) al=aa v:=ny h1;have c1:=h5;obtain⟨m0,JT,m1,m2,m3⟩:=hf.hJ.obj k _ hk;have Mp:z.den P (args++I)=aa (.tree (bY P f) JT):=m1;rw[c1]at Mp;cases Mp;refine⟨al.n,λN hN=>⟨hN,hN,v,gr,.inr ⟨bt gB,?_⟩⟩⟩;obtain⟨s2,mX,vE,vD,z1,lk,b1,b2,b3⟩:=hv;rw[hk]at b1;cases b1;have s5:z.den P (args++I)=aa (.tree (bY P f) lk):=b2;rw[c1]at s5;cases s5;rcases b3 with⟨_,b4,_⟩|⟨id,cs,aB,mn,cap,d1,d2,d3,d4,d5,d6⟩
     .exact absurd (ayZ b4) (bt gB)
     .rcases m3 with⟨e1,_⟩|⟨bz,cY,kg,si,e1,e2,e3,e4,e5,e6,e7⟩
      .rw[d1]at e1;cases e1
      .rw[d1]at e1;cases e1;rw[d2]at e2;cases e2;refine⟨R',id,cs,aB,mn,cap,e5,d2,e3,by simpa using d3,e4,λq x hx=>?_⟩
       have hq:q<cs.length:=by
        have:=(ayw.1 hx).1;rw[pd bQ]at this;omega
       exact⟨_,ayv hq,(e7 q _ _ (ayv hq) hx).cP⟩
    .rename_i s' hr;obtain⟨vs,h1,h2⟩:=oW hf.hJ hr;split at eY<;>try exact eY.elim
     rename_i je;have wZ:=ayH je;obtain⟨z',h5,rfl⟩:=eY;obtain⟨v,rfl,hv⟩:=px h2;have gr:cC P fn (E' 0) al=aa v:=ny h1;obtain⟨_,rfl⟩:=hv;simp only[SE.den,ayx]at h5;split at h5<;>cases h5;exact⟨al.n,λN hN=>⟨hN,hN,_,gr,.inl ⟨rfl,rfl⟩⟩⟩
   cases ex with
   |exit i=>exact br.elim
   |cw t pv=>exact br.elim
   |normal=>
    obtain rfl:=mA;obtain⟨b,hb⟩:=main br;exact⟨b,λN hN=>⟨(hb N hN).1,.inl rfl,(hb N hN).2⟩⟩
   |ret=>
    obtain rfl:=mA;obtain⟨b,hb⟩:=main br;exact⟨b,λN hN=>⟨(hb N hN).1,.inr rfl,(hb N hN).2⟩⟩)
 exact jY.Jz cm bQ bu (dM.body (RW:=λv au=>Rt (bY P f) es v au) cL hb hlen (rA b (ayA _))) λv al h=>h
theorem jY.acz{n:Nat}{nm:Bool}{f:FuncId}{c9:ak}{args es:List IV}(e_:P.follows .mixedOrders=ab)(hC:jK P C)(he:(nA P cfg n nm f).ll=c9)(hl:(P.funcs[f]?).map (·.params.size)=aa args.length)(hp:∀x∈args,Pure x)
 (bQ:∀e∈es,(cellsOf e).length=bY P f)(bu:∀c∈flat es,Pure c/\ao c=ab)(bt:nm=af->es≠[])
 (hs:c9.sat P C (·=.tree (bY P f) es) [] args):jY P (bY P f) f args es:=
 jY.lT e_ hC (cfg:=cfg) (n:=n) (nm:=nm) rfl hl hp bQ bu bt (by rw[<-ak.mb,he];exact hs)
end
section
section run
variable(P:Program)(cfg:eS)
def N8(n s:Nat)(f:FuncId):ak:=
 match P.funcs[f]? with
 |some fn=>match fn.body,fn.params.toList with
  |some c,_::ts=>
   if azD fn.params.size fn.ntmps&&azp 0 s then
    sY P 1 ts<|exec P cfg n [] af 0 f c ⟨setArgs 0 0 (.one (.nl ab s)::eI P 1 ts),[],fn.params.size,0,fn.ntmps⟩ λex V=>match ex with
     |.exit _=>.fail 141
     |.cw _ _=>.fail 146
     |_=>match oS P 0 V fn.results.toList with
      |some [.one (.nl ab _)]=>.ret (.raw (.slice ah 0 0))
      |_=>.fail 148
   else .fail 143
  |_,_=>.fail 144
 |none=>.fail 145
end run
variable{P:Program}{N:Nat}{Y al:St}{R R':Rs}{X aN:Ph}{E:Nat->Env}{G:List IV}{cfg:eS}
variable{C:Cr}
theorem dX.ao3(e_:P.follows .mixedOrders=ab)(hC:jK P C){n s:Nat}{new:Bool}{f:FuncId}{c9:ak}{xs:List IV}(he:(N8 P cfg n s f).ll=c9)(hl:(P.funcs[f]?).map (·.params.size)=aa (xs.length+1))(hp:∀x∈xs,Pure x)
 (hs:c9.sat P C (·=.raw (.slice ah 0 0)) [] (.raw (.slice ah 0 0)::xs)):dX P af new f (.raw (.slice ah 0 0)::xs) (.raw (.slice ah 0 0)):=by
 subst he;rw[ak.mb]at hs;unfold N8 at hs;split at hs<;>try exact hs.elim
 rename_i fn cL;split at hs<;>try exact hs.elim
 rename_i c t0 ts hb jZ;split at hs<;>try exact hs.elim
 rename_i hle;simp only[ayz]at hle;have R_:fn.params.size<=fn.ntmps:=by simpa using hle.1
 have cm:0<s:=by simpa using hle.2
 rw[cL]at hl;simp only[ay_,ayB]at hl
 have bf:ts.length=xs.length:=by
  have:fn.params.toList.length=fn.params.size:=by simp
  rw[jZ]at this;simp at this;omega
 have T2:All2 jj xs xs:=.mk rfl λi a b h1 h2=>by
  rw[h1]at h2;cases h2;exact .pure a rfl (hp a (ayM h1))
 obtain⟨fq,cb⟩:=FA (x:=.raw (.slice ah 0 0)) (j:=0) (R:=λ_=>ah) (X:=λ_=>ah) (L:=[]) (Y:=⟨0,.lf⟩) T2 hs ai;rw[aAT]at cb;have BN:All2 (VR (ay P (.raw (.slice ah 0 0)::xs)) (λ_=>ah) (λ_=>ah) [] ⟨0,.lf⟩) (.raw (.slice ah 0 0)::xs) (.one (.nl ab s)::eI P 1 ts):=⟨⟨cm,rfl⟩,cb⟩;have hlen:(IV.raw (.slice ah 0 0)::xs).length<=fn.ntmps:=by simp;omega
 have hJ:J [] (ay P (.raw (.slice ah 0 0)::xs)) (λ_=>ah) (λ_=>ah) (setArgs 0 0 (.one (.nl ab s)::eI P 1 ts)) [] (λ_=>dL (.raw (.slice ah 0 0)::xs) fn.ntmps) ⟨0,.lf⟩:=by
  refine⟨λd t pv hg=>?_,λk ob h=>(by simp at h),λk k' id h=>(by cases h),λk id h=>(by cases h),λid m h=>(by cases h),λid m cs aB mn h=>(by cases h),T.WF.lf,λid _=>rfl⟩;obtain⟨rfl,_,h3⟩:=jn (O:=IV) hg;have ht:t<(IV.raw (.slice ah 0 0)::xs).length:=by rw[BN.len];have:=(ayw.1 h3).1;simpa using this
  show VR _ _ _ _ _ ((dL (IV.raw (.slice ah 0 0)::xs) fn.ntmps).at t) pv;rw[(ej hlen).2 ht,ayv ht];exact BN.get (ayv ht) (by simpa using h3)
 obtain⟨b,rA⟩:=Ae e_ hC n [] af 0 f c ⟨setArgs 0 0 (.one (.nl ab s)::eI P 1 ts),[],fn.params.size,0,fn.ntmps⟩ _ (.raw (.slice ah 0 0)::xs) [] _ _ _ _
  (λN ex e1 au=>(ex=.normal\/ex=.ret)/\au.n<=N/\∃v,cC P fn e1 au=aa v/\v=.raw (.slice ah 0 0)) ah [] (λ_=>rfl) fq hJ (by simp;omega) rfl (ej (t:=0) hlen).1 (by
   intro ex V' I K' R' aN E' al x0 hf mA br
   have main:(match oS P 0 V' fn.results.toList with
    |some [.one (.nl ab _)]=>ak.ret (.raw (.slice ah 0 0))
    |_=>.fail 148).sat P C (·=IV.raw (.slice ah 0 0)) K' (IV.raw (.slice ah 0 0)::xs++I)->∃b,∀N,b<=N->al.n<=N/\al.n<=N/\∃v,cC P fn (E' 0) al=aa v/\v=.raw (.slice ah 0 0):=by
    intro eY;split at eY<;>try exact eY.elim
    rename_i s' hr;obtain⟨vs,h1,h2⟩:=oW hf.hJ hr;obtain⟨v,rfl,hv⟩:=px h2;obtain⟨_,rfl⟩:=hv;exact⟨al.n,λN hN=>⟨hN,hN,_,ny h1,rfl⟩⟩
   cases ex with
   |exit i=>exact br.elim
   |cw t pv=>exact br.elim
   |normal=>
    obtain rfl:=mA;obtain⟨b,hb⟩:=main br;exact⟨b,λN hN=>⟨(hb N hN).1,.inl rfl,(hb N hN).2⟩⟩
   |ret=>
    obtain rfl:=mA;obtain⟨b,hb⟩:=main br;exact⟨b,λN hN=>⟨(hb N hN).1,.inr rfl,(hb N hN).2⟩⟩)
 refine dX.Jz (dM.body (RW:=λv au=>v=.raw (.slice ah 0 0)) cL hb hlen (rA b (ayA _))) λv al h=>?_;subst h;exact .raw _
end
section
def N9:List Nat->Nat
 |[]=>0
 |n::ns=>n+N9 ns
def nB:Nat->List Nat->List (LO SE)
 |_,[]=>[]
 |j,n::ns=>.var ((List.range n).map λq=>.v (.var (j+q)))::nB (j+n) ns
def lJ:Nat->List Nat->List (PV SE)
 |_,[]=>[]
 |k,n::ns=>.one (.pt k 0 n)::lJ (k+1) ns
def Ei(V:SS):Nat->List Nat->Option (List SE)
 |_,[]=>aa []
 |k,n::ns=>match V.l[k]?,cN 0 k V.g with
  |some (.var ds),aa (.one (.pt k' 0 n'))=>if ayI k' k&&ayI n' n&&ayI ds.length n then(match IC ds,Ei V (k+1) ns with
    |some es,aa r=>aa (fa es::r)
    |_,_=>ah)else ah
  |_,_=>ah
section run
variable(P:Program)(cfg:eS)
def Ag(n:Nat)(ns:List Nat)(f:FuncId):ak:=
 match P.funcs[f]? with
 |some fn=>match fn.body with
  |some c=>
   if azD fn.params.size fn.ntmps&&azD ns.length fn.params.size then
    sY P (N9 ns) (fn.params.toList.drop ns.length)<|exec P cfg n [] af 1 f c
     ⟨setArgs 1 0 (lJ 0 ns++eI P (N9 ns) (fn.params.toList.drop ns.length))++setArgs 0 0 (lJ 0 ns),nB 0 ns,N9 ns+(fn.params.size- ns.length),0,fn.ntmps⟩ λex V=>match ex with
     |.exit _=>.fail 151
     |.cw _ _=>.fail 146
     |_=>match oS P 1 V fn.results.toList with
      |some c8=>match vy V (Hv c8),Ei V 0 ns with
       |some (_,z,_),aa os=>.ret (.tp (.ac (.rw z) (fa os)))
       |_,_=>.fail 152
      |none=>.fail 153
   else .fail 154
  |none=>.fail 155
 |none=>.fail 156
end run
variable{P:Program}{N:Nat}{Y al:St}{R R':Rs}{X aN:Ph}{E:Nat->Env}{G:List IV}{cfg:eS}
variable{C:Cr}{Q:IV->Prop}{K:List (List IV->Prop)}{V:SS}{L:List (LO SE)}
theorem Qk:∀{ns:List Nat} {k:Nat} {os:List SE},Ei V k ns=aa os->os.length=ns.length/\∀(i n:Nat),ns[i]?=aa n->
 ∃es:List SE,V.l[k+i]?=aa (.var (es.map .v))/\cN 0 (k+i) V.g=aa (.one (.pt (k+i) 0 n))/\es.length=n/\os[i]?=aa (fa es)
 |[],k,os,h=>by
  simp only[Ei,ayB]at h;subst h;exact⟨rfl,λi n hi=>by simp at hi⟩
 |m::ns,k,os,h=>by
  simp only[Ei]at h;split at h<;>try (cases h;done)
  rename_i ds k' n' hk hg;split at h<;>try (cases h;done)
  rename_i hc;simp only[ayz]at hc;have e1:=ayH hc.1.1;have e2:=ayH hc.1.2;have e3:=ayH hc.2;subst e1 e2;split at h<;>try (cases h;done)
  rename_i es r jV hr;simp only[ayB]at h;subst h;have SP:=KI jV;subst SP;obtain⟨h1,h2⟩:=Qk hr;refine⟨by simp[h1],λi n hi=>?_⟩;cases i with
  |zero=>
   simp at hi;subst hi;exact⟨es,hk,hg,by simpa using e3,rfl⟩
  |succ i=>
   obtain⟨aQ,a1,a2,a3,a4⟩:=h2 i n (by simpa using hi);have:k'+1+i=k'+(i+1):=ai;rw[this]at a1 a2;exact⟨aQ,a1,a2,a3,by simpa using a4⟩
theorem Mq:∀{ns:List Nat} {k i:Nat} {pv:PV SE},(lJ k ns)[i]?=aa pv->∃n,ns[i]?=aa n/\pv=.one (.pt (k+i) 0 n)
 |[],k,i,pv,h=>by simp[lJ]at h
 |n::ns,k,0,pv,h=>by
  simp[lJ]at h;exact⟨n,rfl,by simp[h]⟩
 |n::ns,k,i+1,pv,h=>by
  simp only[lJ,aAs]at h;obtain⟨m,h1,h2⟩:=Mq h;exact⟨m,by simpa using h1,by rw[h2];congr 2;omega⟩
theorem FB:∀{ns:List Nat} {k:Nat},(lJ k ns).length=ns.length
 |[],_=>rfl
 |_::ns,k=>by simp[lJ,FB (ns:=ns)]
theorem T3:∀ins:List (List IV),N9 (ins.map azg)=ins.flatten.length
 |[]=>rfl
 |c::ins=>by simp[N9,T3 ins]
theorem Mr:∀{ins:List (List IV)} {pre post:List IV} {i:Nat} {o:LO SE},(nB pre.length (ins.map azg))[i]?=aa o->
 ∃(cs:List IV) (ds:List (Cl SE)),ins[i]?=aa cs/\o=.var ds/\Ad (ay P (pre++ins.flatten++post)) ds cs
 |[],pre,post,i,o,h=>by simp[nB]at h
 |c::ins,pre,post,0,o,h=>by
  simp only[azs,nB,aAt,ayB]at h;refine⟨c,_,rfl,h.symm,.mk ax λq d u hd hu=>?_⟩;have hq:=(ayw.1 hu).1;rw[ayR,List.getElem?_range hq]at hd;simp only[ay_,ayB]at hd;subst hd;refine⟨_,rfl,?_⟩;show(SE.var _).den P _=_;simp only[SE.den];rw[ayJ,ay0 ai,List.flatten_cons,ayJ,ayK ai];rw[show pre.length+q- pre.length=q by omega];exact hu
 |c::ins,pre,post,i+1,o,h=>by
  simp only[azs,nB,aAs]at h;have hl:pre.length+c.length=(pre++c).length:=by simp
  rw[hl]at h;obtain⟨cs,ds,h1,h2,h3⟩:=Mr (pre:=pre++c) (post:=post) h;refine⟨cs,ds,by simpa using h1,h2,?_⟩;have:pre++c++ins.flatten++post=pre++(c::ins).flatten++post:=by simp
  rw[<-this];exact h3
theorem T4{O:Type}{d t:Nat}{pv:PV O}:∀{a b:List (Nat×Nat×PV O)},cN d t (a++b)=aa pv->cN d t a=aa pv\/cN d t b=aa pv
 |[],b,h=>.inr h
 |(d',t',p)::a,b,h=>by
  simp only[List.cons_append,cN]at h⊢;split at h
  .rename_i hc;rw[if_pos hc];exact .inl h
  .rename_i hc;rw[if_neg hc];exact T4 h
theorem Ms{xs args pre:List IV}{f:ak}(hp:All2 jj args xs):∀{ts:List TypeId} {j:Nat},(sY P (pre.length+j) ts f).sat P C Q K (pre++xs)->j+ts.length=xs.length->f.sat P C Q K (pre++xs)/\All2 (VR (ay P (pre++xs)) R X L Y) (args.drop j) (eI P (pre.length+j) ts)
 |[],j,hs,hl=>by
  simp at hl;rw[ay3 (by have:=hp.len;omega)];exact⟨hs,trivial⟩
 |t::ts,j,hs,hl=>by
  simp at hl;have hj:j<xs.length:=ai;have ni:j<args.length:=by have:=hp.len;omega
  have hd:(SE.var (pre.length+j)).den P (pre++xs)=aa xs[j]:=by simp[SE.den,hj]
  obtain⟨h1,h2⟩:=Fv (R:=R) (X:=X) (L:=L) (Y:=Y) hd (hp.get (ayv ni) (ayv hj)) hs;obtain⟨h4,h5⟩:=Ms (j:=j+1) hp h1 ai;refine⟨h4,?_⟩;rw[ay5 ni];exact⟨h2,h5⟩
end
section
variable{Cx:Cs}
variable{P:Program}{N:Nat}{Y al:St}{R R':Rs}{X aN:Ph}{E:Nat->Env}{G:List IV}{cfg:eS}
variable{C:Cr}{Q:IV->Prop}{K:List (List IV->Prop)}{V:SS}{L:List (LO SE)}
theorem zp:∀{ns:List Nat} {j:Nat},(nB j ns).length=ns.length
 |[],_=>rfl
 |_::ns,j=>by simp[nB,zp (ns:=ns)]
theorem Wy{x z:IV}{fr:Bool}(h:aF z=ab)(hc:bD fr R Y x z):jj x z:=by
 cases z<;>simp only[aF]at h<;>try (cases h;done)
 rw[cQ hc];exact .raw _
theorem T5{ins:List (List IV)}{ps:List IV}{ev:SE->Option IV}(hP:HI X ins ps)(hL:∀(i:Nat) (cs:List IV),ins[i]?=aa cs->∃ds:List (Cl SE),L[i]?=aa (LO.var ds)):
 All2 (VR ev R X L Y) ps (lJ 0 (ins.map azg)):=by
 refine .mk (by rw[FB,aAq,hP.1]) λi p pv hp sj=>?_;obtain⟨n,h1,rfl⟩:=Mq sj;rw[ayR]at h1;obtain⟨cs,bQ,rfl⟩:=ayG.1 h1;obtain⟨id,h2,rfl⟩:=hP.2 i cs p bQ hp;obtain⟨ds,SP⟩:=hL i cs bQ;rw[azP];exact⟨id,ds,h2,SP,rfl⟩
theorem Fp.lT(e_:P.follows .mixedOrders=ab)(hC:jK P C){n:Nat}{f:FuncId}{c9:ak}{ins outs:List (List IV)}{xs:List IV}{z:IV}(he:Ag P cfg n (ins.map azg) f=c9)
 (hl:(P.funcs[f]?).map (·.params.size)=aa (ins.length+xs.length))(hs:c9.sat P C (·=.aL (z::outs.map .agg)) [] (ins.flatten++xs)):Fp P f ins xs outs z:=by
 subst he;unfold Ag at hs;split at hs<;>try exact hs.elim
 rename_i fn cL;split at hs<;>try exact hs.elim
 rename_i c hb;split at hs<;>try exact hs.elim
 rename_i hle;simp only[ayz]at hle;have afm:fn.params.size<=fn.ntmps:=by simpa using hle.1
 rw[cL]at hl;simp only[ay_,ayB]at hl;have GF:(ins.map azg).length=ins.length:=by simp
 have auF:=T3 ins;intro R X E Y ps args l_ hP bE KW TC;have fF:args.length=xs.length:=bE.len;have vN:(fn.params.toList.drop (ins.map azg).length).length=xs.length:=by simp;omega
 have ir:ps.length=ins.length:=hP.1;rw[auF]at hs
 have hLV:∀(i:Nat) (cs:List IV),ins[i]?=aa cs->∃ds:List (Cl SE),(nB 0 (ins.map azg))[i]?=aa (LO.var ds)/\Ad (ay P (ins.flatten++xs)) ds cs:=λi cs hi=>by
  have aj:=(ayw.1 hi).1;have iN:i<(nB 0 (ins.map azg)).length:=by rw[zp];simpa using aj
  have hg:=ayv iN;obtain⟨cY,ds,h1,h2,h3⟩:=Mr (P:=P) (pre:=[]) (post:=xs) hg;rw[hi]at h1;cases h1;exact⟨ds,by rw[hg,h2],by simpa using h3⟩
 obtain⟨fq,cb⟩:=Ms (j:=0) (pre:=ins.flatten) (R:=R) (X:=X) (L:=nB 0 (ins.map azg)) (Y:=Y) bE (by rw[aBu];exact hs) (by rw[azP];exact vN);rw[aAT,aBu]at cb
 have BN:All2 (VR (ay P (ins.flatten++xs)) R X (nB 0 (ins.map azg)) Y) (ps++args) (lJ 0 (ins.map azg)++eI P ins.flatten.length (fn.params.toList.drop (ins.map azg).length)):=
  All2.app (T5 hP λi cs hi=>by obtain⟨ds,h1,_⟩:=hLV i cs hi;exact⟨ds,h1⟩) cb
 have hlen:(ps++args).length<=fn.ntmps:=by simp;omega
 let E1:Nat->Env:=λj=>if j=0 then dL ps ps.length else dL (ps++args) fn.ntmps
 have hJ:J [] (ay P (ins.flatten++xs)) R X (setArgs 1 0 (lJ 0 (ins.map azg)++eI P ins.flatten.length (fn.params.toList.drop (ins.map azg).length))++setArgs 0 0 (lJ 0 (ins.map azg))) (nB 0 (ins.map azg)) E1 Y:=by
  refine⟨λd t pv hg=>?_,λj ob hj=>?_,l_.inj,λj id hj=>?_,l_.qO,l_.fits,l_.wf,l_.top⟩
  .rcases T4 hg with hg|hg
   .obtain⟨rfl,_,h3⟩:=jn (O:=IV) hg;have ht:t<(ps++args).length:=by rw[BN.len];have:=(ayw.1 h3).1;simpa using this
    show VR _ _ _ _ _ ((dL (ps++args) fn.ntmps).at t) pv;rw[(ej hlen).2 ht,ayv ht];exact BN.get (ayv ht) (by simpa using h3)
   .obtain⟨rfl,_,h3⟩:=jn (O:=IV) hg;have JG:(lJ 0 (ins.map azg))[t]?=aa pv:=by simpa using h3
    have ht:t<ps.length:=by have:=(ayw.1 JG).1;rw[FB]at this;simp at this;omega
    show VR _ _ _ _ _ ((dL ps ps.length).at t) pv;rw[(ej (ayA _)).2 ht,ayv ht];exact(T5 hP λi cs hi=>by obtain⟨ds,h1,_⟩:=hLV i cs hi;exact⟨ds,h1⟩).get (ayv ht) JG
  .have aj:j<ins.length:=by have:=(ayw.1 hj).1;rw[zp]at this;simpa using this
   have bQ:=ayv aj;obtain⟨ds,h1,h2⟩:=hLV j _ bQ;rw[hj]at h1;cases h1;have fT:(aai ins)[j]?=aa (.var (ins[j].map .v)):=by rw[ayR,bQ];rfl
   obtain⟨id,c7,o1,o2,o3,o4⟩:=l_.obj j _ fT;refine⟨id,c7,o1,o2,o3,.mk (by rw[o4.len,aAq,h2.len]) λq x d hx hd=>?_⟩;have hq:q<ins[j].length:=by rw[<-h2.len];exact(ayw.1 hd).1
   obtain⟨e,rfl,he⟩:=h2.get hd (ayv hq);have hcq:(ins[j].map Cl.v)[q]?=aa (.v ins[j][q]):=by rw[ayR,ayv hq];rfl
   obtain⟨y,y1,y2,y3⟩:=o4.get hx hcq;cases y1;exact⟨_,he,y2,y3⟩
  .have:=l_.lt j id hj;exact⟨by rw[zp];simpa using this.1,this.2⟩
 obtain⟨b,rA⟩:=Ae e_ hC n [] af 1 f c ⟨setArgs 1 0 (lJ 0 (ins.map azg)++eI P ins.flatten.length (fn.params.toList.drop (ins.map azg).length))++setArgs 0 0 (lJ 0 (ins.map azg)),nB 0 (ins.map azg),ins.flatten.length+(fn.params.size-(ins.map azg).length),0,fn.ntmps⟩ _ (ins.flatten++xs) [] R X E1 Y
  (λN ex e1 au=>(ex=.normal\/ex=.ret)/\au.n<=N/\∃v,cC P fn e1 au=aa v/\KW N v au) ah [] (λ_=>rfl) fq hJ (by simp;omega) rfl (ej (t:=0) hlen).1 (by
   intro ex V' I K' R' aN E' al x0 hf mA br
   have main:∀kS,oS P 1 V' fn.results.toList=aa kS->(match vy V' (Hv kS),Ei V' 0 (ins.map azg)with
    |some (_,z,_),aa os=>ak.ret (.tp (.ac (.rw z) (fa os)))
    |_,_=>.fail 152).sat P C (·=IV.aL (z::outs.map IV.agg)) K' (ins.flatten++xs++I)->∃b,∀N,b<=N->al.n<=N/\al.n<=N/\∃v,cC P fn (E' 1) al=aa v/\KW N v al:=by
    intro kS hr eY;obtain⟨vs,h1,h2⟩:=oW hf.hJ hr;have hv:=N0 h2;split at eY<;>try exact eY.elim
    rename_i fr e _ os fg Aj;obtain⟨R2,y,h3,h4⟩:=TZ hf.hJ fg hv;obtain⟨w,h5,rfl⟩:=eY;simp only[SE.den,h3,ayx]at h5;obtain⟨cs,h6,h7⟩:=ayV.1 h5;obtain⟨y',h8,h6⟩:=ayV.1 h6;obtain⟨os',h9,h6⟩:=ayV.1 h6;obtain⟨ys,rfl,uS⟩:=N5 h9;split at h8<;>try (cases h8;done)
    rename_i ki;cases h8;cases h6;simp only[ayB,IV.aL.injEq,aAa]at h7;obtain⟨rfl,rfl⟩:=h7;obtain⟨P6,ho2⟩:=Qk Aj;have Lw:outs.length=ins.length:=by have:=uS.len;rw[P6]at this;simp at this;omega
    have agE:∀(i:Nat) (cs:List IV),outs[i]?=aa cs->∃es:List SE,V'.l[i]?=aa (.var (es.map .v))/\All2 (λ(z:SE) y=>z.den P (ins.flatten++xs++I)=aa y) es cs/\∃id,aN i=aa id/\ps[i]?=aa (.ptr id 0 0 cs.length):=λi cs hi=>by
     have aj:=(ayw.1 hi).1;have iN:i<ins.length:=ai;obtain⟨es,a1,a2,a3,a4⟩:=ho2 i _ (by rw[ayR,ayv iN];rfl);rw[azP]at a1 a2;have hiy:(outs.map IV.agg)[i]?=aa (.agg cs):=by rw[ayR,hi];rfl
     have hd:=uS.get a4 hiy;obtain⟨us,yW,ak_⟩:=N5 hd;cases yW;have pW:=hf.hJ.slot 0 i _ a2;obtain⟨id,ds,s1,s2,s3⟩:=pW;rw[hf.hE 0 ai]at s3;have GM:i<ps.length:=ai
     have:(E1 0).at i=ps[i]:=by
      show(dL ps ps.length).at i=_;rw[(ej (ayA _)).2 GM,ayv GM];rfl
     rw[this]at s3;refine⟨es,a1,ak_,id,s1,?_⟩;rw[ayv GM,s3,<-ak_.len,a3]
    obtain⟨b,hb⟩:=TC (λ_=>ah) (λj=>if j<outs.length then aN j else ah) al (HO vs) (by
     refine⟨λd t pv hg=>(by cases hg),λj ob hj=>?_,λj j' id h1 h2=>?_,λj id hj=>?_,λid m hm=>(by cases hm),λid m cs aB mn hm=>(by cases hm),hf.hJ.wf,hf.hJ.top⟩
     .rw[ayR]at hj;obtain⟨cs,bQ,rfl⟩:=ayG.1 hj;have aj:=(ayw.1 bQ).1;obtain⟨es,a1,a2,id,a3,_⟩:=agE j cs bQ;obtain⟨bz,c7,o1,o2,o3,o4⟩:=hf.hJ.obj j _ a1;refine⟨bz,c7,by simp[aj,o1],rfl,o3,.mk (by rw[o4.len,aAq,aAq,a2.len]) λq x c hx hc=>?_⟩;rw[ayR]at hc;obtain⟨u,hu,rfl⟩:=ayG.1 hc;have hq:q<es.length:=by rw[a2.len];exact(ayw.1 hu).1
      have hcq:(es.map Cl.v)[q]?=aa (.v es[q]):=by rw[ayR,ayv hq];rfl
      obtain⟨y,y1,y2,y3⟩:=o4.get hx hcq;have P7:es[q].den P (ins.flatten++xs++I)=aa y:=y1;rw[a2.get (ayv hq) hu]at P7;cases P7;exact⟨u,rfl,y2,y3⟩
     .split at h1<;>try (cases h1;done)
      split at h2<;>try (cases h2;done)
      exact hf.hJ.inj j j' id h1 h2
     .split at hj<;>try (cases hj;done)
      rename_i aj
      exact⟨by simpa using aj,(hf.hJ.lt j id hj).2⟩) ⟨by omega,λi cs p hi hp=>by
       have aj:=(ayw.1 hi).1;obtain⟨_,_,_,id,a3,a4⟩:=agE i cs hi;rw[hp]at a4;cases a4;exact⟨id,by simp[aj,a3],rfl⟩⟩ (Wy ki h4)
    exact⟨max b al.n,λN hN=>⟨by omega,by omega,HO vs,ny h1,hb N ai⟩⟩
   cases ex with
   |exit i=>exact br.elim
   |cw t pv=>exact br.elim
   |normal=>
    obtain rfl:=mA;simp only at br;split at br
    .rename_i kS hr;obtain⟨b,hb⟩:=main kS hr br;exact⟨b,λN hN=>⟨(hb N hN).1,.inl rfl,(hb N hN).2⟩⟩
    .exact br.elim
   |ret=>
    obtain rfl:=mA;simp only at br;split at br
    .rename_i kS hr;obtain⟨b,hb⟩:=main kS hr br;exact⟨b,λN hN=>⟨(hb N hN).1,.inr rfl,(hb N hN).2⟩⟩
    .exact br.elim)
 exact⟨b,λN hN=>(dM.body (RW:=KW N) cL hb hlen (rA N hN))⟩
end
abbrev ak.nt(e:SE)(a b:ak):ak:=.aV e (.test e a b)
abbrev ak.nr(e:SE):ak:=.aV e (.ret e)
abbrev ak.nx(n:Nat)(e r:SE):ak:=.aV e (.next n (.ac e r))
abbrev mY(a b:Nat):SE:=.bC (.var a) b
abbrev j2(a b c:SE):SE:=.ac a (.ac b c)
abbrev fj(a:Nat):SE:=.ok (.var a)
abbrev uU(a:BinOp)(b:TypeId)(c d:SE):SE:=.ok (.bin a b c d)
abbrev s7(a:BinOp)(b:TypeId)(c:Nat)(d:SE):SE:=uU a b (.var c) d
abbrev gh(a b:SE)(c:ak):ak:=.aV a (.aV b c)
abbrev qW(a:SE):SE:=.ac a .an
abbrev wD(a:SE)(b c:Nat)(d:SE):SE:=j2 a (mY b c) d
abbrev mc(a b:Nat):SE:=.len (mY a b)
abbrev T6(a b c d:Nat)(e:SE):SE:=wD (mY a b) c d e
abbrev HS(a b:SE)(c d:ak):ak:=.aV a (.nt b c d)
abbrev w7(a:Nat)(b c:SE)(d:ak):ak:=.bind (.idx a b c) d
abbrev kj(a b:Nat):SE:=.uM a (.var b)
abbrev fU(a:Nat):SE:=.len (fj a)
abbrev aY:SE:=.i 0
abbrev n_(a:FuncId)(b:SE)(c:ak):ak:=.call a af b c
abbrev aat(a:BinOp)(b:TypeId)(c:Nat)(d:Int):SE:=s7 a b c (.i d)
abbrev ala(a:Nat)(b:BinOp)(c:TypeId)(d:Nat)(e:Int)(f:SE):ak:=.nx a (aat b c d e) f
abbrev jo(a:Nat)(b:SE)(c:Nat)(d:ak):ak:=w7 a b (.var c) d
abbrev oX:SE:=.b af
abbrev vO(a b:SE):SE:=j2 a b .an
abbrev auG(a:Nat)(b:TypeId)(c:Nat)(d:Int)(e:SE):ak:=ala a .add b c d e
abbrev lz(a:Nat):SE:=qW (.var a)
abbrev fm(a b:Nat)(c:ak):ak:=.aV (kj a b) c
abbrev Dn(a b:Nat)(c d:SE)(e:ak):ak:=.bind (.cat a b c d) e
abbrev yP(a:Nat):SE:=.tr a .an
abbrev bT:ak:=.ret oX
abbrev aau(a b:Nat):SE:=.proj (.var a) b
abbrev sC(a:SE)(b:BinOp)(c:TypeId)(d e:SE)(f g:ak):ak:=HS a (uU b c d e) f g
abbrev KN(a b c d e f g h:Nat)(i:SE):SE:=T6 a b c d (T6 e f g h i)
abbrev lU(a b c:Nat)(d:SE)(e:ak):ak:=Dn a b (.var c) d e
abbrev sD(a:TypeId)(b:Nat)(c:SE):SE:=s7 .lss a b c
abbrev HT(a:BinOp)(b:TypeId)(c d:SE)(e f:ak):ak:=.nt (uU a b c d) e f
abbrev uh(a b:SE)(c d:ak):ak:=.loop a (.nt b c d)
abbrev dY(a:Nat)(b:ak):ak:=.aV (fj a) b
abbrev iP(a:FuncId)(b:SE)(c:ak):ak:=n_ a (qW b) c
abbrev fO(a:Nat):SE:=.len (.var a)
abbrev ko(a:SE)(b:Nat):SE:=vO a (.var b)
abbrev bZ:SE:=fj 0
abbrev auH(a b:Nat)(c:Int)(d:SE):ak:=auG a 3 b c d
abbrev T7(a b:Nat)(c:SE):ak:=auH a b 1 c
abbrev iQ(a b c:Nat):ak:=T7 a b (lz c)
abbrev KO:SE:=yP 4
abbrev yQ(a b c:SE):SE:=j2 a b (qW c)
abbrev sE(a:Nat)(b:SE):SE:=.tr a (qW b)
abbrev KQ(a b c d:Nat)(e:SE)(f:ak):ak:=lU a b c (sE d e) f
abbrev T8(a b:SE)(c:Nat)(d:SE)(e:Nat)(f g:ak):ak:=uh a b (jo c d e f) g
abbrev auI(a:TypeId)(b c:Nat):SE:=sD a b (fU c)
abbrev sF(a b c:SE)(d e:ak):ak:=.loop a (HS b c d e)
abbrev auJ(a:UnOp)(b:SE):SE:=.ok (.un a b)
abbrev vP(a:SE):SE:=auJ .not a
abbrev N_(a b:SE)(c d:ak):ak:=HS a (vP b) c d
abbrev bo:SE:=fj 1
abbrev aav(a b c d:Nat):SE:=T6 a b c d .an
abbrev HU(a b:SE):SE:=j2 a aY b
abbrev qo(a b:Nat)(c:SE)(d:ak):ak:=gh (kj a b) c d
abbrev aaw(a:SE):ak:=.ret (.tp a)
abbrev qX(a:SE)(b:ak):ak:=.aV (.rw a) b
abbrev dx:SE:=qW aY
abbrev auK(a:BinOp)(b:TypeId)(c d:Nat)(e:SE):SE:=uU a b (mc c d) e
abbrev KR(a b:SE):ak:=aaw (vO a b)
abbrev jq(a b:Nat)(c:FuncId)(d:SE)(e:ak):ak:=fm a b (iP c d e)
abbrev eA(a b:Nat):ak:=T7 a b .an
abbrev lA:SE:=.b ab
abbrev auL(a b c d e f g h i j k l:Nat):SE:=KN a b c d e f g h (aav i j k l)
abbrev auM(a:Nat)(b:SE)(c d:ak):ak:=N_ (fj a) b c d
abbrev mD(a b:Nat)(c d:ak):ak:=auM a (fj b) c d
abbrev auN(a b c d:SE):SE:=HU a (yQ b c d)
abbrev auO(a:TypeId)(b c d:Nat):SE:=sD a b (mc c d)
abbrev Dp(a:SE)(b:BinOp)(c d:SE)(e f:ak):ak:=sC a b 3 c d e f
abbrev FC(a:BinOp)(b:TypeId)(c d:Nat)(e:SE)(f g:ak):ak:=HT a b (mY c d) e f g
abbrev m9:SE:=.s []
abbrev lV(a:Int):ak:=.ret (.i a)
abbrev HV(a b:Nat):SE:=.rw (mY a b)
abbrev afn(a b c:SE)(d:Nat)(e:SE)(f:Nat)(g h:ak):ak:=sF a b c (jo d e f g) h
abbrev oY(a:FuncId)(b:SE)(c:ak):ak:=.call a ab b c
abbrev HW(a b:Nat):SE:=.ok (aau a b)
abbrev aax(a b c d:Nat)(e:SE):SE:=T6 a b c d (qW e)
abbrev T9(a b c:Nat):SE:=.bC (aau a b) c
abbrev oZ:SE:=yP 1
abbrev eB:SE:=.i 1
abbrev dZ:ak:=.ret lA
abbrev gi(a:Nat)(b:SE)(c:ak):ak:=gh (fj a) b c
abbrev KT(a b:Nat)(c:SE)(d:Nat):SE:=.JD a (.var b) c d
abbrev aay(a b:SE)(c d e f:Nat)(g h:ak):ak:=T8 a b c (mY d e) f g h
abbrev auP(a b c:SE):SE:=auN a m9 b c
abbrev Dq(a b:SE):SE:=auP a KO b
abbrev AU(a b:Nat)(c:SE):SE:=.idx a (.var b) c
abbrev alb(a b c:Nat)(d:SE)(e:ak):ak:=KQ a 96 b c d e
abbrev T_(a b:Nat):SE:=auI 3 a b
abbrev eL(a:FuncId)(b c:SE)(d:ak):ak:=n_ a (vO b c) d
abbrev oa(a:SE):SE:=vO aY a
abbrev afo(a b c d:Nat):SE:=KT a b (.var c) d
abbrev KU(a:SE):SE:=Dq a KO
abbrev cE:SE:=fj 2
abbrev auQ(a:SE)(b:Int):ak:=qX a (lV b)
abbrev qY(a b c:Nat)(d:SE)(e:ak):ak:=w7 a (mY b c) d e
abbrev kq:SE:=fU 0
abbrev FD(a:BinOp)(b c:Nat)(d:SE):SE:=auK a 3 b c d
abbrev AV(a:SE)(b c d:Nat)(e:SE)(f:Nat)(g h:ak):ak:=T8 a (T_ b c) d e f g h
abbrev ek:SE:=fU 6
abbrev aaz(a b:SE)(c d e:Nat)(f:SE)(g:Nat)(h i:ak):ak:=afn a b (T_ c d) e f g h i
abbrev ao4(a:TypeId)(b:Nat)(c:Int):SE:=aat .sub a b c
abbrev nC(a b:Nat):SE:=ko (.var a) b
abbrev bV:SE:=fj 6
abbrev lq(a b:Nat)(c:SE)(d:ak):ak:=gh (mc a b) c d
abbrev ao5(a b:Nat)(c:SE):SE:=FD .sub a b c
abbrev ao6(a b:Nat):SE:=ao5 a b eB
abbrev kH(a b:Nat):ak:=.next a (lz b)
abbrev agF(a b c:Nat):SE:=AU a b (.var c)
abbrev ao7(a b:Nat)(c:SE)(d:ak):ak:=alb 7 a b c d
abbrev qx(a:Nat)(b:SE)(c:ak):ak:=ao7 a 7 b c
abbrev agG(a:Nat)(b:SE)(c d:Nat)(e:SE)(f:ak):ak:=qx a (wD b c d e) f
abbrev BO(a:Nat)(b:SE)(c d:Nat)(e:SE)(f:ak):ak:=agG a b c d (KU e) f
abbrev Mu(a:Nat)(b c:SE)(d:ak):ak:=qx a (HU b c) d
abbrev qy(a b:Nat)(c:ak):ak:=.aV (mc a b) c
abbrev zq(a:BinOp)(b:TypeId)(c:Nat):SE:=s7 a b c aY
abbrev ao8(a:TypeId)(b:Nat):SE:=zq .geq a b
abbrev oF(a:SE)(b:BinOp)(c:SE)(d e:ak):ak:=Dp a b c aY d e
abbrev FE(a b c d e f:Nat):SE:=aax a b c d (mY e f)
abbrev xo(a b:Int):ak:=auQ (.i a) b
abbrev FF(a b:Nat)(c:SE)(d:ak):ak:=gh (HV a b) c d
abbrev ao9(a b:Nat)(c:SE)(d:Nat)(e:SE)(f g:Nat)(h:SE)(i:ak):ak:=FF a b c (BO d e f g h i)
abbrev eD(a:Nat):SE:=mY a 0
abbrev xp(a b c d:Nat)(e:ak):ak:=qo a b (mc c d) e
abbrev BP(a b c:Nat):SE:=auO 3 a b c
abbrev jr(a:SE)(b c d e f g h:Nat)(i j:ak):ak:=aay a (BP b c d) e f g h i j
abbrev lW(a:Nat):ak:=.ret (.var a)
abbrev rB(a:SE)(b:BinOp)(c:SE)(d:Int)(e f:ak):ak:=Dp a b c (.i d) e f
abbrev ao_(a b c:Nat)(d e:SE)(f:ak):ak:=fm a b (Mu c d e f)
abbrev Mv(a:TypeId)(b c:SE)(d e:ak):ak:=HT .eql a b c d e
abbrev Mw(a b c d e f g h:Nat):SE:=KN a b c d e f g h .an
abbrev apa(a:Nat)(b:Int):SE:=ao4 3 a b
abbrev FG(a:Nat):SE:=apa a 1
abbrev dh:SE:=fj 3
abbrev Ry(a b c:Nat):SE:=aav a b c 1
abbrev vQ(a b:Nat):SE:=Ry a 0 b
abbrev apb(a:Nat):SE:=ao6 5 a
abbrev BQ:SE:=apb 4
abbrev mL(a:Nat):SE:=mY a 1
abbrev dp:SE:=fj 5
abbrev kI(a:FuncId)(b:SE)(c:Nat)(d:ak):ak:=iP a b (dY c d)
abbrev Rz(a:SE)(b:ak):ak:=gh bZ a b
abbrev BR(a:Nat):SE:=ao8 3 a
abbrev apc(a b c d e f g h i j k:Nat):SE:=auL a 0 b c d e f g h i j k
abbrev apd(a b c d e f g h i j:Nat):SE:=apc a b 1 c d e f g h i j
abbrev ape(a b c d e f g h i:Nat):SE:=apd a b c 2 d e f g h i
abbrev apf(a b c d e f g h:Nat):SE:=ape a b c d 3 e f g h
abbrev apg(a b c d e f g:Nat):SE:=apf a b c d e 4 f g
abbrev d_(a b c d e f:Nat):SE:=apg a b c d e f 5
abbrev jP(a:Int):SE:=.k .u8 a
abbrev ig(a b:Nat)(c:ak):ak:=gi a (fU b) c
abbrev aph(a b c:Nat)(d e:SE)(f g:Nat)(h:SE)(i:ak):ak:=ao_ a b c d (wD e f g h) i
abbrev api(a b c:Nat)(d e:SE)(f g h i j k:Nat)(l:SE)(m:ak):ak:=aph a b c d e f g (aax h i j k l) m
abbrev IP(a:Nat):ak:=eA 0 a
abbrev dS:SE:=fj 4
abbrev nD(a b:SE)(c:Int)(d e:ak):ak:=rB a .gtr b c d e
abbrev FH(a:BinOp)(b:TypeId)(c d:Nat)(e:SE)(f:BinOp)(g:TypeId)(h i:Nat)(j:SE)(k l m:ak):ak:=FC a b c d e (FC f g h i j k l) m
abbrev BS(a:Nat):SE:=mc 0 a
abbrev apj(a b:Nat)(c:ak):ak:=lq a b BQ c
abbrev BU(a b:Nat)(c:SE)(d:Nat)(e:Int)(f g:Nat)(h:SE)(i:ak):ak:=ao9 a b c d (.i e) f g h i
abbrev tq(a:SE)(b:Nat)(c:SE):SE:=j2 a (.var b) c
abbrev gv:SE:=BS 1
abbrev xq(a b:Nat):SE:=T9 a 0 b
abbrev js(a b:Nat):ak:=iQ 0 a b
abbrev apk(a:Nat):SE:=vQ 0 a
abbrev ij:SE:=apk 0
abbrev apl(a b c d e f g:Nat):SE:=Mw a 0 b c d e f g
abbrev apm(a b c d e f:Nat):SE:=apl a b 1 c d e f
abbrev apn(a b c d e:Nat):SE:=apm a b c 2 d e
abbrev iG(a b c d:Nat):SE:=apn a b c d 3
abbrev iH(a:SE)(b c d e:Nat)(f:SE)(g:Nat)(h i:ak):ak:=aaz a (fU b) c d e f g h i
abbrev FI(a:Int):ak:=.ret (jP a)
abbrev apo(a b c d e:Nat)(f:Int)(g h:Nat)(i:SE)(j:ak):ak:=BU a b (HV c d) e f g h i j
abbrev BV(a:Nat)(b:TypeId)(c:Nat)(d:Int)(e:SE):ak:=ala a .sub b c d e
abbrev Mx(a:Nat)(b:TypeId)(c:Nat)(d:Int)(e:Nat):ak:=BV a b c d (lz e)
abbrev rC(a:SE)(b:Nat)(c:SE):SE:=yQ a (.var b) c
abbrev My(a:SE)(b c d e f:Nat)(g h:ak):ak:=aay a (BR b) c d e f g h
abbrev mM(a b:Nat):SE:=agF 1 a b
abbrev jQ(a:ak):ak:=Rz bo a
abbrev ik(a:Nat):SE:=ko aY a
abbrev pz:SE:=mL 1
abbrev pA:SE:=eD 1
abbrev mN:SE:=oa oZ
abbrev RA(a:Nat)(b c:SE)(d e:Nat)(f:ak):ak:=w7 a b c (fm d e f)
abbrev apq(a:SE)(b:Nat):SE:=vO a (yP b)
abbrev agH(a b:SE)(c:Nat):SE:=HU a (apq b c)
abbrev apr(a b c:Nat)(d:SE)(e f g h i j:Nat)(k:SE)(l:ak):ak:=api a b c d aY e f g h i j k l
abbrev aps(a b c:Nat)(d:SE)(e f g h i j:Nat)(k:ak):ak:=apr a b c d e f g h i j KO k
abbrev tx(a b c:Nat)(d:Int)(e f g h i j:Nat)(k:ak):ak:=aps a b c (.i d) e f g h i j k
abbrev agI(a:SE)(b:Int):ak:=KR a (.i b)
abbrev apt(a b:SE)(c:Nat)(d:Int):ak:=agI (agH a b c) d
abbrev il(a b:Nat)(c:ak):ak:=mD a b bT c
abbrev rD(a:FuncId)(b c:SE)(d:ak):ak:=oY a (vO b c) d
abbrev agJ(a b c:Nat):SE:=afo a b c 0
abbrev eW(a b:Nat):SE:=agJ 1 a b
abbrev FJ(a:FuncId)(b c d:SE)(e:ak):ak:=n_ a (yQ b c d) e
abbrev FK(a b c d e:Nat)(f:Int)(g h i j:Nat)(k:ak):ak:=apo a b c d e f g h (mY i j) k
abbrev pB(a:Nat):SE:=HW a 1
abbrev kJ:SE:=BS 2
abbrev aaA(a:Nat):SE:=qW (FG a)
abbrev RB(a:SE)(b c:Nat)(d:SE):SE:=wD a b c (qW d)
abbrev mO:SE:=FG 10
abbrev fZ:SE:=fj 7
abbrev lr(a b:Nat)(c:SE):ak:=T7 a b (qW c)
abbrev mP(a:BinOp)(b c:SE):SE:=uU a 3 b c
abbrev Mz(a b:SE):ak:=KR (.rw a) b
abbrev aaB(a:SE)(b:Nat):ak:=Mz a (aaA b)
abbrev ew(a b:Nat):ak:=iQ 1 a b
abbrev IQ(a:BinOp)(b:SE):SE:=mP a b eB
abbrev apu(a b c d e:Nat):SE:=FE a 0 b c d e
abbrev apv(a b c d:Nat):SE:=apu a b 1 c d
abbrev fe(a b c:Nat):SE:=apv a b c 2
abbrev apw(a:Nat):SE:=ko BQ a
abbrev apx(a b c d e f:Nat)(g h:ak):ak:=My (apw a) b c d e f g h
abbrev lX:ak:=IP 2
abbrev aaC(a:Nat)(b:SE)(c:ak):ak:=qo a 0 b c
abbrev apy(a b c:Nat)(d:ak):ak:=aaC a (kj b c) d
abbrev xr(a:Nat)(b:ak):ak:=aaC a bo b
abbrev apz(a b:Nat)(c:SE):SE:=tq (.var a) b c
abbrev BW(a:Nat):SE:=mc 1 a
abbrev kK:SE:=BW 3
abbrev rE(a:BinOp)(b c:SE)(d e:ak):ak:=HT a 3 b c d e
abbrev FL(a b:Nat)(c:SE):SE:=FD .eql a b c
abbrev zr(a:TypeId)(b:SE)(c d:ak):ak:=Mv a bZ b c d
abbrev qz:ak:=.ret aY
abbrev RC(a:SE)(b:Nat)(c:ak):ak:=gh a (pB b) c
abbrev aaD(a b c:SE):ak:=aaw (yQ a b c)
abbrev aaE(a b:Nat):SE:=.tr a (lz b)
abbrev apA(a:SE)(b:Nat)(c:Int):ak:=apt aY a b c
abbrev IS(a:Nat)(b:Int):ak:=apA oX a b
abbrev IT(a:SE)(b:TypeId)(c d:SE)(e f:ak):ak:=sC a .eql b c d e f
abbrev RD(a b:Nat)(c:TypeId)(d e:SE)(f g:ak):ak:=IT (kj a b) c d e f g
abbrev rF(a b:Nat)(c:ak):ak:=.aV (mM a b) c
abbrev pC(a b:Nat)(c:TypeId)(d:Nat)(e:SE)(f g:ak):ak:=RD a b c (eD d) e f g
abbrev nG:ak:=IP 3
abbrev FM(a:BinOp)(b c:SE)(d:ak):ak:=rE a b c bT d
abbrev RE(a b c d:Nat)(e:SE):ak:=T7 a b (apz c d e)
abbrev pD(a b:Nat)(c d:Int)(e:ak):ak:=mD a b (xo c d) e
abbrev qA(a b c:Nat)(d:ak):ak:=xp a b c 1 d
abbrev apB(a:TypeId)(b c:Nat):SE:=sD a b (fO c)
abbrev jR:SE:=fj 8
abbrev MA(a:Nat)(b:ak):ak:=qX (.var a) b
abbrev IU(a b c d e:Nat)(f:ak):ak:=lU a b c (aaE d e) f
abbrev mQ:SE:=fj 15
abbrev mR:SE:=fj 17
abbrev FN:SE:=.var 1
abbrev apC(a:Nat)(b:ak):ak:=apj 5 a b
abbrev rG(a:ak):ak:=apC 4 a
abbrev tz(a:SE)(b c:ak):ak:=.test a b (rG c)
abbrev vR(a:Nat):SE:=mY a 2
abbrev FO:SE:=vR 2
abbrev vS:SE:=.ud bZ
abbrev tA:ak:=.ret oZ
abbrev pE(a b:Nat):SE:=FL a b aY
abbrev pF(a:Nat)(b c:SE)(d e f:Nat)(g:ak):ak:=w7 a b c (qA d e f g)
abbrev mS(a b c:Nat)(d:Int)(e f g h i j k:Nat)(l:TypeId)(m:Nat)(n:Int)(o:Nat):ak:=tx a b c d e f g h i j (Mx k l m n o)
abbrev MB(a:SE):SE:=.JE bZ a
abbrev tB:SE:=MB FN
abbrev nH:SE:=fU 1
abbrev apD(a:Nat)(b:SE)(c:Nat)(d:ak):ak:=RC (.uM a b) c d
abbrev apE(a b:SE)(c:Int)(d:Nat)(e:Int)(f:ak):ak:=nD a b c (IS d e) f
abbrev pG(a:SE)(b c:ak):ak:=.nt (vP a) b c
abbrev IW(a:Nat):SE:=.rws (.var a)
abbrev pH(a b:Nat)(c:FuncId)(d e f g:Nat)(h:ak):ak:=jq a b c (iG d e f g) h
abbrev qB:SE:=BS 3
abbrev xu:SE:=mL 2
abbrev aaF(a:FuncId)(b c:SE)(d:ak):ak:=FJ a ij b c d
abbrev xw(a:Nat)(b:ak):ak:=qy 1 a b
abbrev qC:SE:=mL 0
abbrev agK(a b c d:Nat)(e:ak):ak:=apD a (aau b c) d e
abbrev aaG(a:SE):ak:=KR a aY
abbrev apF(a b:SE)(c:Int)(d:Nat)(e:Int)(f:SE):ak:=apE a b c d e (aaG f)
abbrev oG(a b:SE)(c d e f:Nat)(g:SE)(h:Nat)(i j:ak):ak:=afn a b (BP c d e) f g h i j
abbrev aaH(a b:SE):ak:=aaD a oZ b
abbrev apH(a b c:SE):ak:=aaH (vO a b) c
abbrev IX(a:SE)(b c d e:Nat)(f g:ak):ak:=AV a b c d bZ e f g
abbrev apI(a:Nat):SE:=ko FO a
abbrev apJ(a:Nat):ak:=aaB oX a
abbrev MC:SE:=.raw (.slice ah 0 0)
abbrev pI(a b:SE)(c d:ak):ak:=oF a .eql b c d
abbrev FP(a:FuncId)(b c:SE):ak:=n_ a b (.nr c)
abbrev pJ(a b:SE)(c d:ak):ak:=oF a .lss b c d
abbrev apK(a:SE)(b c d:Nat)(e:SE)(f:Nat)(g h:ak):ak:=aaz a kq b c d e f g h
abbrev IY(a:SE)(b c d e:Nat)(f g:ak):ak:=apK a b c d bZ e f g
abbrev tC(a b c d e f:Nat):ak:=RE a b c d (nC e f)
abbrev IZ(a b:Nat)(c:SE):SE:=FD .add a b c
abbrev BX(a b:SE):SE:=yQ a b oZ
abbrev rH:SE:=.var 10
abbrev apM(a:Nat)(b:SE)(c:Int)(d:Nat)(e:Int)(f:SE):ak:=apF (fO a) b c d e f
abbrev apO(a b:Nat)(c:Int)(d:Nat)(e:Int)(f:SE):ak:=apM a (fO b) c d e f
abbrev rI(a b:Nat)(c:FuncId)(d e:Nat)(f:ak):ak:=jq a b c (vQ d e) f
abbrev rJ:ak:=IP 1
abbrev rK:ak:=apJ 0
abbrev FQ(a:Nat):SE:=xq a 1
abbrev xx:ak:=lV (-1)
abbrev xy:SE:=KU aY
abbrev vT:SE:=FG 13
abbrev mT(a b c d e f:Nat)(g:ak)(h i j k l:Nat)(m:Int)(n o p q:Nat)(r:ak):ak:=apx a b c d e f g (FK h i j k l m n o p q r)
abbrev iJ(a b:ak):ak:=.BC a 1 b
abbrev apP(a b c d e:Nat):SE:=T6 a b c d (apI e)
abbrev RF(a:Int):SE:=qW (.i a)
abbrev tD:SE:=eD 0
abbrev BY(a:Nat):ak:=js 4 a
abbrev vU(a b c d:Nat):ak:=T7 a b (nC c d)
abbrev aaI(a:FuncId)(b:SE)(c d:Nat)(e:SE)(f:ak):ak:=n_ a (RB b c d e) f
abbrev apQ(a b c d:Nat)(e f:ak):ak:=IX dx a b c d e f
abbrev apR(a b:SE):ak:=apH m9 a b
abbrev apS(a:SE):ak:=apR KO a
abbrev tE:ak:=apS oX
abbrev oH(a b c:SE)(d e:ak):ak:=Dp a .eql b c d e
abbrev BZ(a:Nat):SE:=mY a 3
abbrev rL:SE:=BZ 1
abbrev tF(a:FuncId)(b c:SE)(d e f g:Nat)(h:ak):ak:=aaF a b c (agK d e f g h)
abbrev MD(a b:TypeId)(c:SE):SE:=.ok (.cv a b c)
abbrev oI(a b c:SE)(d e:ak):ak:=Dp a .geq b c d e
abbrev rM:SE:=fj 11
abbrev rN(a b c:Nat)(d:SE)(e:Nat)(f:ak):ak:=qY a b c d (dY e f)
abbrev rO(a b:Nat)(c:Int)(d:Nat)(e:Int)(f g h i j:Nat):ak:=apO a b c d e (apP f g h i j)
abbrev rP:SE:=yP 2
abbrev apT(a:TypeId)(b:Nat)(c:Int):SE:=aat .add a b c
abbrev qD(a b:Nat)(c:FuncId)(d e f g h i:Nat)(j:ak):ak:=jq a b c (d_ d e f g h i) j
abbrev vV:ak:=lW 2
abbrev vW:ak:=BY 5
abbrev RG(a b:SE)(c d:Int)(e:ak):ak:=N_ a b (xo c d) e
abbrev tG(a:Nat)(b:SE)(c d:Nat)(e:ak):ak:=jo a b c (dY d e)
abbrev ME(a b:SE)(c:ak):ak:=FM .neq a b c
abbrev zu(a:Nat)(b:ak):ak:=.aV (fO a) b
abbrev I0(a:TypeId)(b:SE)(c:ak)(d:TypeId)(e:SE)(f g:ak):ak:=zr a b c (zr d e f g)
abbrev tH:SE:=fO 6
abbrev tI:SE:=.var 4
abbrev tJ:SE:=fj 23
abbrev tK:SE:=yP 3
abbrev rQ(a:SE)(b c d e f g h:Nat)(i:ak)(j:Nat)(k:ak):ak:=jr a b c d e f g h i (xw j k)
abbrev vX(a b c d:Nat):SE:=IZ a b (mc c d)
abbrev MF(a b c d:SE):SE:=j2 a b (vO c d)
abbrev xz:SE:=.var 13
abbrev qE(a:SE)(b c d:Nat)(e:SE)(f g:Nat)(h i:ak):ak:=AV a b c d e f (dY g h) i
abbrev xA(a:BinOp)(b c:SE):ak:=.nr (mP a b c)
abbrev xB:SE:=BW 4
abbrev xC:SE:=fO 12
abbrev B8:SE:=oa KO
abbrev nI(a b:Nat)(c:ak):ak:=apy a b 1 c
abbrev xD(a:Nat)(b c d:SE)(e:ak):ak:=.bind (.sub a b c d) e
abbrev I1(a:SE):SE:=sE 1 a
abbrev zw:SE:=I1 pz
abbrev rR:SE:=fj 9
abbrev vY:SE:=.var 3
abbrev mU(a b:SE)(c d:ak):ak:=Mv 3 a b c d
abbrev I2(a b c:SE)(d e:ak):ak:=Dp a .neq b c d e
abbrev rS(a:SE)(b:ak):ak:=.nt a b bT
abbrev apU(a b:SE)(c d:Nat)(e:ak):ak:=RA 2 a b c d e
abbrev lY(a b:SE)(c:Nat)(d:ak):ak:=apU a b 2 c d
abbrev rT(a b c d:Nat)(e f:ak):ak:=IY dx a b c d e f
abbrev xE(a b c d e f:Nat)(g:ak):ak:=MA a (IU b c d e f g)
abbrev pK:SE:=.i 2
abbrev zx:SE:=eD 2
abbrev FR(a b:Nat):SE:=apB 3 a b
abbrev zy:SE:=pB 3
abbrev zz:SE:=BZ 0
abbrev zA:SE:=vR 0
abbrev tL:SE:=.i 12
abbrev vZ(a:Nat)(b:SE)(c d e:Nat)(f:ak):ak:=jo a b c (fm d e f)
abbrev xF:SE:=.var 6
abbrev xG:SE:=fO 5
abbrev xH:SE:=.var 5
abbrev FT:SE:=.rw ek
abbrev xI:SE:=fj 14
abbrev FU(a:Nat):ak:=.ret (IW a)
abbrev xJ(a:FuncId)(b:SE)(c d:Nat)(e:SE)(f:ak):ak:=oY a (RB b c d e) f
abbrev apV:SE:=RF 200
abbrev FV:SE:=qW apV
abbrev apW(a:SE)(b:Nat)(c d:SE):SE:=MF a (FQ b) c d
abbrev xK(a:Nat):SE:=HW a 0
abbrev tM(a:Nat):SE:=mc a 1
abbrev xL:SE:=tM 5
abbrev rU(a:Nat):ak:=kH 1 a
abbrev I3(a:TypeId)(b c:SE)(d e:ak):ak:=HT .leq a b c d e
abbrev apX(a b c:SE):ak:=KR (BX a b) c
abbrev B9(a:Nat)(b:Int):SE:=apT 3 a b
abbrev B_(a:Nat)(b:SE):SE:=vO (.var a) b
abbrev tN(a b:Nat)(c:SE)(d:ak):ak:=qY a 0 b c d
abbrev zB(a b:Nat)(c:ak):ak:=tN a b pA c
abbrev zC(a:FuncId)(b:SE)(c:Nat)(d:SE)(e:ak):ak:=oY a (rC b c d) e
abbrev zD(a:SE)(b c:Nat)(d e:ak):ak:=uh a (FR b c) d e
abbrev Ca:SE:=mL 9
abbrev Cb:SE:=BW 2
abbrev aaJ:SE:=.i (-1)
abbrev apY:ak:=FI 0
abbrev FW(a:Nat)(b:Int)(c:ak):ak:=.aV (B9 a b) c
abbrev Cc(a:ak):ak:=.aV kq a
abbrev apZ(a b c d e:Nat):SE:=d_ 2 a b c d e
abbrev ap0(a b c d:Nat):SE:=apZ 2 a b c d
abbrev ap1(a b c:Nat):SE:=ap0 2 a b c
abbrev ap2(a b:Nat):SE:=ap1 2 a b
abbrev ap3(a:Nat):SE:=ap2 2 a
abbrev nJ:SE:=ap3 2
abbrev zE(a:BinOp)(b:TypeId)(c:SE)(d:Int):SE:=uU a b c (jP d)
abbrev FX(a:Nat):ak:=.nr (xK a)
abbrev Cd(a:SE):SE:=IQ .sub a
abbrev ap4(a b c:Nat)(d e:SE):SE:=apW (xq a b) c d e
abbrev Ce(a:FuncId)(b:SE)(c d:Nat)(e:ak):ak:=rD a b (eW c d) e
abbrev ap5(a:Nat)(b:SE)(c d:Int)(e:ak):ak:=RG (BR a) b c d e
abbrev Cf(a b:Nat)(c d:Int)(e:ak):ak:=ap5 a (BR b) c d e
abbrev xM(a b:SE)(c d:ak):ak:=rE .lss a b c d
abbrev xN(a:FuncId)(b:SE)(c d:Nat)(e f:ak):ak:=iP a b (mD c d e f)
abbrev I4:ak:=.fail 119
abbrev I5:SE:=oa oX
abbrev MG:SE:=I1 xu
abbrev I6(a:Nat):SE:=.len (FQ a)
abbrev I7(a:Nat)(b:Int):ak:=.next a (RF b)
abbrev tO(a:BinOp)(b c:Nat)(d:SE)(e f:ak):ak:=FC a 3 b c d e f
abbrev FY(a b:Nat)(c:ak):ak:=Rz (kj a b) c
abbrev aaK(a:Nat)(b:SE):SE:=.dec a b lA
abbrev FZ(a:Nat)(b:SE)(c:ak):ak:=.aV (aaK a b) c
abbrev F0:SE:=.tp .an
abbrev Cg(a:BinOp)(b:SE):SE:=mP a b aY
abbrev F1:SE:=mL 4
abbrev ap6(a b:SE):ak:=apX m9 a b
abbrev ap7(a:SE):ak:=ap6 aY a
abbrev Ch:ak:=ap7 oX
abbrev ap8(a b c d e:Nat)(f:SE):SE:=ap4 a b c (xq d e) f
abbrev Ci(a b:Nat)(c d e:SE)(f:ak):ak:=lq a b c (ME d e f)
abbrev tP(a b:Nat):SE:=BP a b 1
abbrev zF(a b c:Nat):SE:=aav a b 1 c
abbrev Cj(a:FuncId)(b c d:Nat)(e:SE):ak:=FP a (zF b c d) e
abbrev xO(a:BinOp)(b c:Nat)(d e:ak):ak:=tO a b c aY d e
abbrev F2(a:ak):ak:=Rz kq a
abbrev ap9(a:TypeId)(b:SE):SE:=MD a 33 b
abbrev ap_(a:ak):ak:=qX ek a
abbrev v7:SE:=.i 8
abbrev v8:SE:=.i 6
abbrev F3(a:SE):SE:=IQ .add a
abbrev Ck(a:TypeId)(b c d:SE)(e:ak):ak:=.bind (.ins a b c d) e
abbrev xP(a:FuncId)(b c:Nat)(d:SE)(e:ak):ak:=aaI a bZ b c d e
abbrev I8:SE:=jP 95
abbrev agL(a:Nat):SE:=aau 3 a
abbrev F4:SE:=agL 1
abbrev Cm(a:FuncId)(b:SE)(c:ak):ak:=oY a (qW b) c
abbrev Cn(a b c:Nat)(d e:ak):ak:=apQ a 0 b c d e
abbrev Co(a b c:Nat)(d:ak)(e f:Int):ak:=Cn a b c d (xo e f)
abbrev zG(a b c:SE)(d:ak):ak:=I2 a b c bT d
abbrev pL(a:BinOp)(b:TypeId)(c d:Nat)(e:SE)(f:BinOp)(g:TypeId)(h i:Nat)(j:SE)(k l:ak):ak:=FH a b c d e f g h i j k bT l
abbrev xQ(a:ak):ak:=xr 2 a
abbrev xR(a:SE):SE:=ap9 3 a
abbrev xS(a:Nat):ak:=js 2 a
abbrev I9(a:Int):ak:=agI aaJ a
abbrev Cp(a:TypeId)(b c:SE)(d:ak):ak:=I3 a b c d apY
abbrev zH(a b:SE)(c d:Nat)(e f:ak):ak:=sF a b (T_ c d) e f
abbrev aqa(a b c:Nat)(d:SE)(e:ak):ak:=KQ 1 a b c d e
abbrev I_(a b:Nat)(c:SE)(d:ak):ak:=aqa a b 1 c d
abbrev rV(a:Nat)(b:SE)(c:ak):ak:=I_ 8 a b c
abbrev F5:SE:=fj 12
abbrev F6(a b c:Nat)(d:ak):ak:=gi a (mM b c) d
abbrev F7:SE:=fj 10
abbrev MH:SE:=oa aY
abbrev aqb(a b:SE)(c:ak):ak:=gh a b (ap_ c)
abbrev aqc(a:SE)(b:ak):ak:=aqb ek a b
abbrev F8(a b:Nat)(c:ak):ak:=aqc (HV a b) c
abbrev tQ(a:ak):ak:=dY 2 a
abbrev F9(a:Nat)(b c d:SE)(e:ak):ak:=.bind (.E8 a b c d) e
abbrev F_:SE:=.var 7
abbrev Cq(a:FuncId)(b c d e f:Nat)(g:ak):ak:=kI a (iG b c d e) f g
abbrev Ct(a b c d e f g:Nat):SE:=ap8 a b c d e (xq f g)
abbrev Ja:SE:=fO 16
abbrev Cu:SE:=.i 20
abbrev Jb:SE:=agL 0
abbrev Jc:ak:=FI 2
section
theorem kr{O:Type}{a b:O}(h:a=b:=by kernel_rfl):a=b:=h
variable{P:Program}{C:Cr}{Q:IV->Prop}{K K':List (List IV->Prop)}{G:List IV}
theorem ak.KV(f:ak){K K':List (List IV->Prop)}{G:List IV}(hk:HA K K')(h:f.sat P C Q K G):f.sat P C Q K' G:=ak.nu P f (λ_ h=>h) hk h
theorem HX{A:Type}{init:SE}{body:ak}(e:A->List IV)(μ:A->Prop)(I:A->Nat)(a0:A)(Ga:lQ P G init=aa (e a0))(h0:μ a0)
 (h:∀a,μ a->body.sat P C Q (K++[λvs=>∃a',vs=e a'/\μ a'/\I a'<I a]) (G++e a)):(ak.loop init body).sat P C Q K G:=by
 refine⟨e a0,Ga,I a0+1,?_⟩
 have key:∀m a,μ a->I a<m->(aBO (motive:=λ_=>List IV->Prop) (λ_=>False) (λ_ ih vs=>body.sat P C Q (K++[ih]) (G++vs)) m) (e a):=by
  intro m;induction m with
  |zero=>intro a _ h;omega
  |succ m ih=>
   intro a ha hm;refine body.KV ((HA.refl K).snoc ?_) (h a ha);rintro vs ⟨a',rfl,h1,h2⟩;exact ih a' h1 ai
 exact key (I a0+1) a0 h0 (Nat.lt_succ_self _)
theorem fz{A:Type}{init:SE}{body:ak}(n:Nat)(e:Nat->A->List IV)(μ:Nat->A->Prop)(a0:A)(Ga:lQ P G init=aa (e 0 a0))(h0:μ 0 a0)
 (h:∀i a,i<=n->μ i a->body.sat P C Q (K++[λvs=>∃a',vs=e (i+1) a'/\i+1<=n/\μ (i+1) a']) (G++e i a)):(ak.loop init body).sat P C Q K G:=by
 refine HX (A:=Nat×A) (λp=>e p.1 p.2) (λp=>p.1<=n/\μ p.1 p.2) (λp=>n- p.1) (0,a0) Ga ⟨Nat.zero_le _,h0⟩ λ⟨i,a⟩ ⟨hi,hI⟩=>?_;refine body.KV ((HA.refl K).snoc ?_) (h i a hi hI);rintro vs ⟨a',rfl,h1,h2⟩;exact⟨(i+1,a'),rfl,⟨h1,h2⟩,by simp;omega⟩
theorem aiL{a b:ak}{m:Nat}(p:List IV->Prop)(h:a.sat P C Q (K++[p]) G)(hb:∀vs,p vs->vs.length=m/\b.sat P C Q K (G++vs)):(ak.BC a m b).sat P C Q K G:=
 a.KV ((HA.refl K).snoc hb) h
@[simp] theorem auR{w:Nat}:(ak.fail w).sat P C Q K G↔False:=aBX
@[simp] theorem XG{e:SE}:(ak.ret e).sat P C Q K G↔∃z,e.den P G=aa z/\Q z:=aBX
@[simp] theorem ui{e:SE}{k:ak}:(ak.aV e k).sat P C Q K G↔(∃z,e.den P G=aa z)/\k.sat P C Q K G:=aBX
@[simp] theorem Ua{e:SE}{k:ak}:(ak.bind e k).sat P C Q K G↔∃z,e.den P G=aa z/\k.sat P C Q K (G++[z]):=aBX
@[simp] theorem Ub{f:FuncId}{new:Bool}{e:SE}{k:ak}:(ak.call f new e k).sat P C Q K G↔∃xs z,lQ P G e=aa xs/\C f new xs z/\k.sat P C Q K (G++[z]):=aBX
@[simp] theorem Uc{e:SE}{a b:ak}:(ak.test e a b).sat P C Q K G↔(e.den P G=aa (.raw (.bool ab))/\a.sat P C Q K G)\/(e.den P G=aa (.raw (.bool af))/\b.sat P C Q K G):=aBX
@[simp] theorem Ud{lv:Nat}{e:SE}:(ak.next lv e).sat P C Q K G↔∃vs p,lQ P G e=aa vs/\K[lv]?=aa p/\p vs:=aBX
@[simp] theorem axn:lQ P G .an=aa []:=rfl
@[simp] theorem auS{a r:SE}:lQ P G (.ac a r)=(a.den P G).bind λx=>(lQ P G r).map λxs=>x::xs:=by
  unfold lQ;simp only[SE.den];cases a.den P G with
  |none=>rfl
  |some x=>
   cases r.den P G with
   |none=>rfl
   |some y=>cases y<;>rfl
abbrev iB(b:Bool):IV:=.raw (.bool b)
abbrev iI(n:Int):IV:=.raw (.int .i64 n)
abbrev iS(l:List UInt8):IV:=.raw (.string ⟨l.toArray⟩)
abbrev iL(l:List Int):IV:=.tree 1 (l.map iI)
@[simp] theorem aoy(q:IntKind)(n:Int):yr (.raw (.int q n))=aa (.raw (.int q n)):=rfl
@[simp] theorem alc(n:Bool):yr (.raw (.bool n))=aa (.raw (.bool n)):=rfl
@[simp] theorem aoz(n:ByteArray):yr (.raw (.string n))=aa (.raw (.string n)):=rfl
@[simp] theorem AW(s:Nat)(es:List IV):yr (.tree s es)=aa (.tree s es):=rfl
@[simp] theorem aoA(s:Nat)(es:List IV):Hy (.tree s es)=aa (.raw (.int .i64 es.length)):=rfl
theorem ef{s:Nat}{es:List IV}{i:Nat}{q:IntKind}{x:IV}(h:es[i]?=aa x)(hx:(cellsOf x).length=s):cz s (.tree s es) (.raw (.int q (i:Nat)))=aa x:=by
 simp[cz,ie,h,hx]
@[simp] theorem axM(P:Program)(t:TypeId)(a b:Int):cO P .lss t (iI a) (iI b)=aa (iB (decide (a<b))):=rfl
@[simp] theorem axN(P:Program)(t:TypeId)(a b:Int):cO P .gtr t (iI a) (iI b)=aa (iB (decide (a>b))):=rfl
@[simp] theorem axO(P:Program)(t:TypeId)(a b:Int):cO P .leq t (iI a) (iI b)=aa (iB (decide (a<=b))):=rfl
@[simp] theorem axP(P:Program)(t:TypeId)(a b:Int):cO P .geq t (iI a) (iI b)=aa (iB (decide (a≥b))):=rfl
@[simp] theorem axQ(P:Program)(t:TypeId)(a b:Int):cO P .eql t (iI a) (iI b)=aa (iB (a==b)):=rfl
@[simp] theorem axR(P:Program)(t:TypeId)(a b:Int):cO P .neq t (iI a) (iI b)=aa (iB (a !=b)):=rfl
@[simp] theorem axS(P:Program)(t:TypeId)(a b:Int):cO P .add t (iI a) (iI b)=aa (iI (ay1.wrap (a+b))):=rfl
@[simp] theorem axT(P:Program)(t:TypeId)(a b:Int):cO P .sub t (iI a) (iI b)=aa (iI (ay1.wrap (a- b))):=rfl
@[simp] theorem axU(P:Program)(t:TypeId)(a b:Int):cO P .mul t (iI a) (iI b)=aa (iI (ay1.wrap (a*b))):=rfl
@[simp] theorem axV(P:Program)(t:TypeId)(a b:List UInt8):cO P .lss t (iS a) (iS b)=aa (iB (aAF a b)):=by
  show aa (IV.bool (aAF a.toArray.toList b.toArray.toList))=_;simp
@[simp] theorem axW(P:Program)(t:TypeId)(a b:List UInt8):cO P .gtr t (iS a) (iS b)=aa (iB (!(aAF a b||a==b))):=by
  show aa (IV.bool (!(aAF a.toArray.toList b.toArray.toList||a.toArray.toList==b.toArray.toList)))=_;simp
@[simp] theorem axX(P:Program)(t:TypeId)(a b:List UInt8):cO P .neq t (iS a) (iS b)=aa (iB (!(a==b))):=by
  show aa (IV.bool (!(a.toArray.toList==b.toArray.toList)))=_;simp
theorem agM(P:Program)(t:TypeId)(hu:P.underlying t=aa .bool)(a b:Bool):cO P .eql t (iB a) (iB b)=aa (iB (a==b)):=by
 show(aP P (do eqGuard .eql t _ _ _ _;Go.binOp .eql t _ _)).map lift=_;rw[bj];show(aP P (do pure (.bool (<-azG (9999+1) t (.bool a) (.bool b))))).map lift=_;unfold azG;rw[bj,bj,Go.Ev.run_underlying hu,ayx];rfl
theorem aqd(P:Program)(t:TypeId)(hu:P.underlying t=aa .bool)(a b:Bool):cO P .neq t (iB a) (iB b)=aa (iB (!(a==b))):=by
 show(aP P (do eqGuard .neq t _ _ _ _;Go.binOp .neq t _ _)).map lift=_;rw[bj];show(aP P (do pure (.bool (!(<-azG (9999+1) t (.bool a) (.bool b)))))).map lift=_;unfold azG;rw[bj,bj,Go.Ev.run_underlying hu,ayx];rfl
@[simp] theorem axY(P:Program)(a:Bool):Rp P .not (iB a)=aa (iB (!a)):=rfl
theorem dD{a:Int}(h1: -9223372036854775808<=a)(h2:a<=9223372036854775807):ay1.wrap a=a:=by
 simp only[aC2,aC3,aCL];simp;omega
end
end Go.Ev
namespace Go.Proofs.YtabefplkfkfdfaaGreat
open Go Go.Ev
def aqe:List Nat:=[95,93,162,266,136,184,69,24,25,7]
def ZO:List Nat:=[269,259,217]
def stops:List Nat:=[201]
def MI(l:List Hint):eS:=⟨aqe,ZO,stops,l++[],[]⟩
def acA:ak:=
 (jQ (Cc (Cn 2 1 2 (oH dh bo dh vV lX) xx)))
theorem aqf:aE ayu (MI [⟨0,162,2,[(0,(8,0))],[],[],[]⟩]) 400 af 162=acA:=by kernel_rfl
def acB:ak:=
 (rB (kj 4 0) .eql tD 2 (.ret zz) (.ret KO))
theorem aqg:aE ayu (MI []) 400 af 184=acB:=by kernel_rfl
def acC:ak:=
 (pH 4 0 184 0 0 0 0 (dY 1 (iH (oa eB) 1 2 1 4 bo 2 (pH 4 4 136 4 4 4 4 (gi 5 (s7 .add 3 3 dp) (lr 0 2 (s7 .add 3 3 dp)))) (lW 3))))
theorem aqh:aE ayu (MI [⟨0,136,4,[(0,(3,0)),(0,(5,0))],[],[],[]⟩]) 400 af 136=acC:=by kernel_rfl
def acD:ak:=
 (F2 (FM .gtr kq v7 (IY MH 1 0 4 1 (pH 4 3 136 3 3 3 3 (gi 4 (s7 .add 3 2 dS) (FM .gtr (s7 .add 3 2 dS) (.i 60) (lr 0 1 (s7 .add 3 2 dS))))) dZ)))
theorem aqi:aE ayu (MI [⟨0,69,5,[(0,(3,0)),(0,(4,0))],[],[],[]⟩]) 400 af 69=acD:=by kernel_rfl
def agN:ak:=
 (dY 0 (rT 1 0 2 1 (jq 2 2 69 xu (il 3 3 rJ)) dZ))
theorem auT:aE ayu (MI [⟨0,24,2,[(0,(3,0))],[],[],[]⟩]) 400 af 24=agN:=by kernel_rfl
section
inductive Tm where
 |mk (k n:Int) (s:List UInt8) (ts:List Tm)
mutual
def dm:Tm->IV
 |.mk k n s ts=>.agg [iI k,iI n,iS s,.tree 4 (RH ts)]
def RH:List Tm->List IV
 |[]=>[]
 |t::ts=>dm t::RH ts
end
theorem Ql:∀l:List Tm,RH l=l.map dm
 |[]=>rfl
 |t::l=>by simp[RH,Ql l]
structure At where
 s:List UInt8
 ts:List Tm
structure Fa where
 id:Int
 a:At
 j:List Int
structure Ap where
 rule:Int
 aaL:List Int
 gone:List Int
 made:List Int
 failed:Bool
 afp:List Int
structure Me where
 facts:List Fa
 past:List Fa
 log:List Ap
 next:Int
 given:Int
abbrev iT(l:List Tm):IV:=.tree 4 (l.map dm)
def jL(a:At):IV:=.agg [iS a.s,iT a.ts]
def ald(f:Fa):IV:=.agg [iI f.id,iS f.a.s,iT f.a.ts,iL f.j]
def ale(x:Ap):IV:=.agg [iI x.rule,iL x.aaL,iL x.gone,iL x.made,iB x.failed,iL x.afp]
abbrev iFs(l:List Fa):IV:=.tree 4 (l.map ald)
abbrev dr(l:List At):IV:=.tree 2 (l.map jL)
abbrev iPs(l:List Ap):IV:=.tree 6 (l.map ale)
theorem w8(k n:Int)(s:List UInt8)(ts:List Tm):dm (.mk k n s ts)=.agg [iI k,iI n,iS s,iT ts]:=by simp[dm,Ql]
@[simp] theorem auU(v:Value):Pure (.raw v):=.raw v
@[simp] theorem Ej(l:List Int):Pure (iL l):=by
  refine .tree 1 _ λe he c hc=>?_;obtain⟨x,_,rfl⟩:=azb.1 he;simp[cellsOf]at hc;subst hc;exact .raw _
theorem kU:∀t:Tm,Pure (dm t)
 |.mk k n s ts=>by
  rw[w8];refine .agg _ λc hc=>?_;simp at hc;rcases hc with rfl|rfl|rfl|rfl
  .exact .raw _
  .exact .raw _
  .exact .raw _
  .refine .tree 4 _ λe he c hc=>?_;obtain⟨x,hx,rfl⟩:=azb.1 he;have:=kU x;obtain⟨k',n',s',ts'⟩:=x;rw[w8]at this hc;cases this with
   |agg _ h=>exact h c hc
 decreasing_by simp_wf;have:=azB hx;omega
theorem kV{O:Type}(s:Nat)(enc:O->IV)(h:∀a,∃cs,enc a=.agg cs/\∀c∈cs,Pure c)(l:List O):Pure (.tree s (l.map enc)):=by
 refine .tree s _ λe he c hc=>?_;obtain⟨x,_,rfl⟩:=azb.1 he;obtain⟨cs,h1,h2⟩:=h x;rw[h1]at hc;exact h2 c hc
@[simp] theorem axo(l:List Tm):Pure (iT l):=kV 4 dm (λt=>by
  have:=kU t;obtain⟨k',n',s',ts'⟩:=t;rw[w8]at this⊢;cases this with
  |agg _ h=>exact⟨_,rfl,h⟩) l
theorem uV(a:At):Pure (jL a):=.agg _ ax
@[simp] theorem auV(l:List Fa):Pure (iFs l):=kV 4 ald (λa=>⟨_,rfl,by simp⟩) l
@[simp] theorem afq(l:List At):Pure (dr l):=kV 2 jL (λa=>⟨_,rfl,by simp⟩) l
@[simp] theorem auW(l:List Ap):Pure (iPs l):=kV 6 ale (λa=>⟨_,rfl,by simp⟩) l
def p_(n:Nat):Cr:=λf new xs z=>(f<n->dX ayu af new f xs z/\Pure z/\mK ayu f z=ab)/\
 (∀g,g<n->f=n+g->∃s es yd aQ,xs=.tree s es::yd/\z=.tree s aQ/\Fo ayu s g es yd aQ)/\
 (∀g,g<n->f=2*n+g->∃ins yd outs z0,xs=.agg (ins.map IV.agg)::yd/\z=.aL (z0::outs.map IV.agg)/\outs.map azg=ins.map azg/\(∀cs∈outs,∀u∈cs,ao u=ab)/\Fp ayu g ins yd outs z0)/\
 (∀g,g<n->f=3*n+g->∃t:Nat,xs=[.int t]/\Hn ayu g t)/\
 (∀g,g<n->f=4*n+g->∃es,z=.tree (bY ayu g) es/\oC ayu (bY ayu g) g xs es)/\
 ∀g,g<n->f=7*n+g->∃es,z=.tree (bY ayu g) es/\jY ayu (bY ayu g) g xs es
def CC:Cr:=p_ ayu.funcs.size
theorem qZ:jK ayu CC:=λ_ _ _ _ h=>h
theorem mixed:ayu.follows .mixedOrders=ab:=by kernel_rfl
theorem AX{f n:Nat}(hl:(ayu.funcs[f]?).map (·.params.size)=aa n):f<ayu.funcs.size:=by
 cases h:ayu.funcs[f]? with
 |none=>rw[h]at hl;cases hl
 |some _=>exact(Array.getElem?_eq_some_iff.1 h).1
theorem nE{n a b:Nat}(h:n+a=n+b):a=b:=ai
theorem s8{f:Nat}(h:azp f 306=ab):f<ayu.funcs.size:=by
 have e:ayu.funcs.size=306:=by kernel_rfl
 rw[e];simpa using h
section
variable{n:Nat}{new:Bool}{f:Nat}{xs es:List IV}{z:IV}(aj:f<n)
include aj
theorem p_.plain(h0:dX ayu af new f xs z)(hz:Pure z)(ht:mK ayu f z=ab):p_ n f new xs z:=by
 refine⟨λ_=>⟨h0,hz,ht⟩,?_,?_,?_,?_,?_⟩<;>(intro g hg h;replace h: @Eq Nat _ _:=h;omega)
theorem p_.row{s:Nat}{aQ:List IV}(h0:Fo ayu s f es xs aQ):p_ n (n+f) new (.tree s es::xs) (.tree s aQ):=by
 refine⟨λh=>?_,λg hg h=>⟨s,es,xs,aQ,rfl,rfl,nE h▸h0⟩,?_,?_,?_,?_⟩<;>first|(replace h: @aDS Nat _ _ _:=h;omega)|(intro g hg h;replace h: @Eq Nat _ _:=h;omega)
theorem p_.obj{ins outs:List (List IV)}(ho:outs.map azg=ins.map azg)(hc:∀cs∈outs,∀u∈cs,ao u=ab)(h0:Fp ayu f ins xs outs z):p_ n (2*n+f) new (.agg (ins.map IV.agg)::xs) (.aL (z::outs.map IV.agg)):=by
 refine⟨λh=>?_,?_,λg hg h=>⟨ins,xs,outs,z,rfl,rfl,ho,hc,nE h▸h0⟩,?_,?_,?_⟩<;>first|(replace h: @aDS Nat _ _ _:=h;omega)|(intro g hg h;replace h: @Eq Nat _ _:=h;omega)
theorem p_.Ue{t:Nat}(h0:Hn ayu f t):p_ n (3*n+f) new [.int t] z:=by
 refine⟨λh=>?_,?_,?_,λg hg h=>⟨t,rfl,nE h▸h0⟩,?_,?_⟩<;>first|(replace h: @aDS Nat _ _ _:=h;omega)|(intro g hg h;replace h: @Eq Nat _ _:=h;omega)
theorem p_.fresh(h0:oC ayu (bY ayu f) f xs es):p_ n (4*n+f) new xs (.tree (bY ayu f) es):=by
 refine⟨λh=>?_,?_,?_,?_,λg hg h=>nE h▸⟨es,rfl,h0⟩,?_⟩<;>first|(replace h: @aDS Nat _ _ _:=h;omega)|(intro g hg h;replace h: @Eq Nat _ _:=h;omega)
theorem p_.Uf(h0:jY ayu (bY ayu f) f xs es):p_ n (7*n+f) new xs (.tree (bY ayu f) es):=by
 refine⟨λh=>?_,?_,?_,?_,?_,λg hg h=>nE h▸⟨es,rfl,h0⟩⟩<;>first|(replace h: @aDS Nat _ _ _:=h;omega)|(intro g hg h;replace h: @Eq Nat _ _:=h;omega)
end
theorem CC.plain{new:Bool}{f:FuncId}{args:List IV}{z:IV}(aj:f<ayu.funcs.size)(h:dX ayu af new f args z)(hz:Pure z)(ht:mK ayu f z=ab):CC f new args z:=p_.plain aj h hz ht
theorem CC.of{n:Nat}{new:Bool}{f:FuncId}{c9:ak}{args:List IV}{z:IV}{cfg:eS}(he:aE ayu cfg n new f=c9)(hl:(ayu.funcs[f]?).map (·.params.size)=aa args.length)(ht:mK ayu f z=ab)(hp:∀x∈args,Pure x)(hz:Pure z)
 (hs:c9.sat ayu CC (·=z) [] args):CC f new args z:=p_.plain (AX hl) (dX.lT mixed qZ he hl hp hs) hz ht
theorem CC.ofRow{n s:Nat}{f:FuncId}{c9:ak}{es aQ xs:List IV}{cfg:eS}{new:Bool}(he:Af ayu cfg n s f=c9)(hl:(ayu.funcs[f]?).map (·.params.size)=aa (xs.length+1))
 (hs:c9.sat ayu CC (·=.tree s aQ) [] (.tree s es::xs)):CC (ayu.funcs.size+f) new (.tree s es::xs) (.tree s aQ):=
 p_.row (AX hl) (Fo.lT mixed qZ he hl hs)
theorem CC.aqj{n:Nat}{f:FuncId}{c9:ak}{ins outs:List (List IV)}{xs:List IV}{z:IV}{cfg:eS}{new:Bool}(he:Ag ayu cfg n (ins.map azg) f=c9)(hl:(ayu.funcs[f]?).map (·.params.size)=aa (ins.length+xs.length))
 (ho:outs.map azg=ins.map azg)(hc:∀cs∈outs,∀u∈cs,ao u=ab)(hs:c9.sat ayu CC (·=.aL (z::outs.map .agg)) [] (ins.flatten++xs)):CC (2*ayu.funcs.size+f) new (.agg (ins.map IV.agg)::xs) (.aL (z::outs.map IV.agg)):=
 p_.obj (AX hl) ho hc (Fp.lT mixed qZ he hl hs)
theorem Ug:ayu.underlying 4=aa .bool:=by kernel_rfl
@[simp] theorem axx(a b:Bool):cO ayu .eql 4 (iB a) (iB b)=aa (iB (a==b)):=agM _ _ Ug a b
@[simp] theorem axy(a b:Bool):cO ayu .neq 4 (iB a) (iB b)=aa (iB (!(a==b))):=aqd _ _ Ug a b
abbrev Sm{O:Type}(l:List O):Prop:=l.length<=9223372036854775807
theorem aD{i:Nat}{n:Nat}(h:i<n)(hn:n<=9223372036854775807):ay1.wrap ((i:Int)+1)=((i+1:Nat):Int):=by
 rw[dD ai ai];rfl
@[simp] theorem MJ{l:List Int}{i:Nat}{x:Int}(h:l[i]?=aa x):cz 1 (iL l) (iI (i:Nat))=aa (iI x):=ef (by simp[h]) rfl
end
def agO:List Nat:=[203,160,216,175,240,266,11,31,24,25,7,69,8,13,14,257,72,26,71,137,70,139,210,225,145,183,75,76,111,65,112,136,186,140,184,248,224,211,170,138,249,185,9,28,27,143,77,142,141,74,144,73,146,78,18,39,16,82,44,150,188,189,29,79,80,149,187,147,10,148,30,38,104,83,84,81,168,103,62,108,42,169,107,106,45,64,63,135,110,46,66,21,12,20,23,105,40,43,41,113,171,215,174,161,48,98,97,116,115,268,192,154,227,87,33,51,212,94,47,114,32,85,155,233,199,101,50,49,164,230,194,166,204,202,99,86,95,93,156,162,280]
def alf:List Nat:=[34,35,36,37,89,100,109,151,190,234]
def alg:List Nat:=[235,236,237,238,239,241,242]
def alh:List Nat:=[185,247,209,173000151,500195,500196,500040,500041,500043,500082,500140]
def MK(l:List Hint):eS:=⟨agO,alf,alg,l++[⟨999997,0,0,[],[],[],[]⟩,⟨999999,0,0,[],[],[],[]⟩,⟨999998,0,0,[],[],[],[]⟩],alh⟩
def cB(l:List Hint):eS:=⟨agO,alf,alg,l++[⟨999997,0,0,[],[],[],[]⟩,⟨999999,0,0,[],[],[],[]⟩],alh⟩
def agP:ak:=
 (rT 1 0 3 1 (xp 3 2 2 2 (FM .gtr (mc 2 2) v7 rJ)) dZ)
def cf8:ak:=
 (F2 (FM .gtr kq (.i 30) agP))
theorem cx8:aE ayu (cB [⟨0,8,4,[(0,(3,0))],[],[],[]⟩]) 400 af 8=cf8:=by kernel_rfl
def acE:ak:=
 (oG dx qB 2 0 3 7 zz 2 (fm 7 3 (vZ 7 rL 2 7 4 (eL 46 (KN 3 0 3 1 3 2 3 3 (FE 3 4 3 5 3 6)) (KN 4 0 4 1 4 2 4 3 (FE 4 4 4 5 4 6)) (il 5 5 lX)))) dZ)
def ali:ak:=
 (nI 4 4 (HT .neq 28 (fe 0 0 0) (fe 1 1 1) bT (Ci 0 3 kK qB kK acE)))
theorem auX:aE ayu (cB [⟨0,13,4,[(0,(5,0))],[],[],[]⟩]) 400 af 13=ali:=by kernel_rfl
def alj:ak:=
 (nI 7 7 (pL .eql 3 0 0 pA .eql 3 0 1 pz (tO .eql 0 2 (vR 1) (eL 111 (FE 0 3 0 4 0 5) (FE 1 3 1 4 1 5) (rS cE (Cj 112 0 6 6 dh))) bT) bT))
theorem auY:aE ayu (cB []) 400 af 46=alj:=by kernel_rfl
def agQ:ak:=
 (nI 3 3 (pL .eql 3 0 0 pA .eql 9 0 1 pz (lq 0 2 Cb (mU kJ Cb (Cj 112 0 2 2 cE) bT)) bT))
theorem aqk:aE ayu (cB []) 400 af 111=agQ:=by kernel_rfl
def agR:ak:=
 (jQ (eL 170 bZ bo (tQ (xA .eql cE aY))))
theorem aql:aE ayu (cB []) 400 af 112=agR:=by kernel_rfl
def acG:ak:=
 (zH dx kq 2 0 (HS nH (T_ 2 1) (tG 1 bZ 2 3 (jo 1 bo 2 (zG dS dh dS lX))) dZ) dZ)
def alk:ak:=
 (jQ (gh kq nH (ME kq nH acG)))
theorem auZ:aE ayu (cB [⟨0,65,4,[(0,(5,0))],[],[],[]⟩]) 400 af 65=alk:=by kernel_rfl
def acH:ak:=
 (iH (oa (yP 6)) 2 3 2 3 cE 3 (fm 3 5 (aaF 30 bo (fe 5 5 5) (fm 6 6 (alb 6 4 6 (d_ 6 6 6 6 6 6) (js 3 7))))) (lW 4))
def afr:ak:=
 (jq 2 0 29 ij (dY 1 (kI 18 ij 2 acH)))
theorem au0:aE ayu (cB [⟨0,10,5,[(0,(5,0)),(0,(6,0))],[(1,3),(1,0)],[],[]⟩]) 400 af 10=afr:=by kernel_rfl
def Uh:ak:=
 (uh (ko (Cd (vX 3 1 4 2)) 2) (BR 5) (gh (tP 5 3) (.rw FN) (gh (.rw xH) (.rw (tP 5 3)) (KQ 3 24 6 3 (rC FN 5 (tP 5 3)) (Mx 1 3 5 1 7)))) (js 1 6))
def acI:ak:=
 (oG (oa tK) gv 1 0 1 6 qC 1 (qA 6 3 3 (jo 6 qC 1 (xp 6 4 4 2 (gh (vX 3 1 4 2) (Cd (vX 3 1 4 2)) Uh)))) vV)
def alm:ak:=
 (fm 2 0 acI)
theorem au1:aE ayu (cB [⟨0,18,3,[(0,(3,0)),(0,(4,0))],[(1,0)],[],[]⟩,⟨0,18,7,[(0,(3,0)),(0,(6,0))],[(1,0)],[],[]⟩]) 400 af 18=alm:=by kernel_rfl
def XH:ak:=
 (uh mN (sD 3 4 (vX 2 1 3 2)) (.nt (s7 .neq 3 4 pz) (xE 4 1 8 5 1 4 (BY 6)) vW) (FU 5))
def aaM:ak:=
 (nI 2 3 (xO .lss 1 0 tA (oI gv pA gv tA (zB 6 1 (qA 6 2 2 (zB 6 1 (xp 6 3 3 2 (pJ (vX 2 1 3 2) pz tA (tO .geq 1 1 (vX 2 1 3 2) tA XH)))))))))
theorem aqm:ma ayu (cB [⟨0,82,8,[(0,(6,0)),(0,(7,0))],[(2,0)],[],[]⟩]) 400 af 82=aaM:=by kernel_rfl
def XI:ak:=
 (uh dx (sD 3 4 (vX 2 1 3 2)) (.nt (s7 .neq 3 4 pz) (gh (.rw tI) (.sub 1 (aaE 1 4) (.len (aaE 1 4)) aY) (IP 4)) (IP 4)) tA)
def aaN:ak:=
 (nI 2 3 (xO .lss 1 0 tA (oI gv pA gv tA (zB 6 1 (qA 6 2 2 (zB 6 1 (xp 6 3 3 2 (pJ (vX 2 1 3 2) pz tA (tO .geq 1 1 (vX 2 1 3 2) tA XI)))))))))
theorem aqn:ma ayu (MK [⟨0,82,8,[(0,(7,0))],[],[],[]⟩]) 400 ab 82=aaN:=by kernel_rfl
def acJ:ak:=
 (sF (oa (pB 4)) (fO 2) (FR 5 2) (.test xF (.aV (agF 3 2 5) (rD 80 (yQ (agJ 3 2 5) (afo 3 2 5 1) (afo 3 2 5 2)) (yQ (xq 4 0) (FQ 4) (xq 4 2)) (gi 7 (vP fZ) (lr 1 5 (vP fZ))))) (lr 1 5 oX)) (.test xF (KQ 3 48 2 3 (yQ (xq 4 0) (FQ 4) (xq 4 2)) (js 1 7)) (js 1 2)))
def acK:ak:=
 (oG (oa tK) gv 1 0 1 6 qC 1 (qD 6 3 79 3 3 3 3 3 3 (agK 3 4 0 4 acJ)) vV)
def afs:ak:=
 (fm 2 0 acK)
theorem au2:aE ayu (cB [⟨0,29,3,[(0,(3,0)),(0,(4,0))],[(1,3),(1,0)],[],[]⟩,⟨0,29,7,[(0,(6,0)),(0,(7,0))],[],[],[]⟩]) 400 af 29=afs:=by kernel_rfl
def acL:ak:=
 (.loop (ik 13) (pF 2 bo eB 2 17 17 (.nt (tP 15 17) (lY bo aY 18 (vZ 4 (mL 18) 12 4 19 (lY bo eB 20 (jo 4 (mL 20) 15 (I2 (kj 4 21) (mL 19) (mL 21) (ew 15 16) (.nt (s7 .neq 3 12 (.var 15)) Ch (xE 12 1 8 16 1 12 (ew 15 22)))))))) (js 12 16))))
def Ui:ak:=
 (.loop mN (pF 2 bo aY 2 14 14 (.nt (tP 12 14) acL (KR (j2 (eD 10) (tM 11) (lz 13)) lA))))
def aft:ak:=
 (qD 6 0 39 0 0 0 0 0 0 (gh bo nH (rE .neq nH pK Ch (pI kJ kJ Ch (oF qB .gtr qB Ch (lY bo aY 2 (w7 2 bo eB (sC (kj 2 3) .neq 9 zx (eD 3) Ch (pF 2 bo aY 2 4 4 (pF 2 bo eB 2 5 5 (rE .neq (tM 4) xL Ch (w7 2 bo aY (rI 2 6 147 6 6 (mD 7 7 Ch (w7 2 bo eB (rI 2 8 147 8 8 (mD 9 9 Ch (lY bo aY 10 (pF 2 bo aY 2 11 11 Ui)))))))))))))))))))
theorem au3:aE ayu (cB [⟨0,79,6,[(0,(6,0))],[(3,0),(2,2)],[],[]⟩,⟨0,79,9,[(0,(7,0))],[(3,0),(2,2)],[],[]⟩]) 400 af 79=aft:=by kernel_rfl
def XJ:ak:=
 (aay dx (sD 3 3 FN) 4 0 1 3 (fm 4 4 (jo 4 qC 1 (oH (kj 4 5) F1 (mL 5) bT (eA 1 3)))) rJ)
def XK:ak:=
 (oG dx gv 1 0 1 4 qC 1 (zG (kj 4 2) zx eB XJ) dZ)
def agS:ak:=
 (fm 2 0 XK)
theorem aqo:aE ayu (cB [⟨0,147,7,[(0,(4,0))],[],[],[]⟩,⟨0,147,2,[(0,(3,0))],[],[],[]⟩]) 400 af 147=agS:=by kernel_rfl
def XL:ak:=
 (.loop (oa (uU .eql 9 (eD 4) bo)) (jo 3 bZ 3 (xp 3 7 7 2 (.nt (BP 5 7 2) (.test xF (vZ 3 bZ 3 3 8 (tG 1 (vR 8) 5 9 (eL 187 cE rR (dY 10 (lr 1 5 F7))))) (lr 1 5 oX)) (.test xF dZ nG)))))
def XM:ak:=
 (rT 3 0 3 3 (qo 3 4 (uU .eql 9 (eD 4) bo) XL) bT)
def agT:ak:=
 (jQ (tQ XM))
theorem aqp:aE ayu (cB [⟨0,149,2,[(0,(7,0))],[],[],[]⟩,⟨0,149,6,[(0,(8,0)),(0,(9,0))],[],[],[]⟩]) 400 af 149=agT:=by kernel_rfl
def XN:ak:=
 (rT 2 0 1 2 (oH dh dh bo dZ lX) bT)
def agU:ak:=
 (jQ XN)
theorem aqq:aE ayu (cB [⟨0,187,2,[(0,(5,0))],[],[],[]⟩]) 400 af 187=agU:=by kernel_rfl
def acM:ak:=
 (oG dx kJ 2 0 2 1 zA 2 (dY 3 (jo 1 (vR 1) 2 (zG dS dh dS lX))) dZ)
def aln:ak:=
 (nI 3 3 (FC .neq 9 0 0 pA bT (tO .neq 0 1 pz bT (Ci 0 2 Cb kJ Cb acM))))
theorem au4:aE ayu (cB [⟨0,80,4,[(0,(5,0))],[],[],[]⟩]) 400 af 80=aln:=by kernel_rfl
def alo:ak:=
 (xQ (gi 2 dh (pJ dS cE qz (oI gv cE gv qz (tN 6 1 cE (qD 6 5 39 5 5 5 5 5 5 (pJ bV dS qz (oI ek dS ek qz (FJ 148 (d_ 5 5 5 5 5 5) dh dS (ig 7 7 (.aV (mP .mul (.i 10) (fU 7)) (lY bV dS 8 (aaI 149 bo 8 0 fZ (.nt rR (oI xL dS xL (lV 101) (lV 100)) (oI xL dS xL (.nr (F3 (mP .mul (.i 10) (fU 7)))) (.ret (mP .mul (.i 10) (fU 7))))))))))))))))))
theorem au5:aE ayu (cB []) 400 af 83=alo:=by kernel_rfl
def Oa:ak:=
 (.loop mN (pF 2 dh cE 2 9 9 (.nt (tP 7 9) (lY dh cE 10 (jo 4 (mL 10) 7 (pH 4 11 186 11 11 11 11 (dY 12 (oY 103 (ko F5 6) (.nt (fj 13) (xE 7 1 8 8 1 7 (ew 7 14)) (ew 7 8))))))) (lW 8))))
def XO:ak:=
 (iH B8 1 4 1 1 bo 4 (oF bV .geq bV (jo 1 bo 4 (ig 7 3 (xM fZ (fU 3) (tG 1 bo 4 8 (lY dh jR 9 (lU 4 56 5 Ca (BY 10)))) vW))) vW) (oY 1364 (lz 5) Oa))
def RI:ak:=
 (xr 6 (tQ (kI 39 (d_ 0 0 0 0 0 0) 3 XO)))
theorem aqr:aE ayu (cB [⟨0,148,11,[(0,(11,0)),(0,(12,0))],[(3,0),(2,1),(1,1)],[],[]⟩,⟨0,148,4,[(0,(8,0)),(0,(9,0))],[(1,3),(1,0)],[],[]⟩]) 400 af 148=RI:=by kernel_rfl
def Od:ak:=
 (zH I5 nH 3 1 (.test tI (lr 1 3 lA) (tG 1 bo 3 5 (jo 1 bZ 2 (gi 6 (mP .eql dp bV) (lr 1 3 (mP .eql dp bV)))))) (pG tI bT lX))
def XP:ak:=
 (zH dx kq 2 0 Od dZ)
def agV:ak:=
 (jQ XP)
theorem aqs:aE ayu (cB [⟨0,103,2,[(0,(5,0))],[],[],[]⟩,⟨0,103,6,[(0,(6,0)),(0,(7,0))],[],[],[]⟩]) 400 af 103=agV:=by kernel_rfl
def acN:ak:=
 (iH dx 2 3 2 3 cE 3 (RD 3 4 28 (fe 4 4 4) (fe 1 1 1) dZ nG) bT)
def alp:ak:=
 (nI 2 3 (kI 18 ij 2 acN))
theorem au6:aE ayu (cB [⟨0,81,3,[(0,(6,0))],[],[],[]⟩]) 400 af 81=alp:=by kernel_rfl
def afu:ak:=
 (nI 2 6 (eL 81 ij (fe 1 1 1) (il 2 2 (rD 1306 ij (fe 1 1 1) (gh (fO 3) kK (ME (fO 3) kK (oY 103 (wD vY 1 3 .an) (il 4 4 (zB 6 1 (fm 6 5 (FJ 84 (d_ 5 5 5 5 5 5) (fe 1 1 1) rL (fm 6 6 (eL 104 (d_ 1 1 1 1 1 1) (d_ 6 6 6 6 6 6) (.nr fZ))))))))))))))
theorem au7:aE ayu (cB []) 400 af 38=afu:=by kernel_rfl
def agW:ak:=
 (nI 6 6 (Mv 28 (fe 0 0 0) (fe 1 1 1) (n_ 65 (zF 0 3 3) (rS cE (n_ 168 (zF 0 4 4) (rS dh (Cj 168 0 5 5 dS))))) bT))
theorem aqt:aE ayu (cB []) 400 af 104=agW:=by kernel_rfl
def XQ:ak:=
 (rT 2 0 1 2 (dY 3 (tG 1 bo 2 4 (eL 65 dh dS (il 5 5 lX)))) dZ)
def agX:ak:=
 (jQ (gh kq nH (ME kq nH XQ)))
theorem aqu:aE ayu (cB [⟨0,168,4,[(0,(5,0))],[],[],[]⟩]) 400 af 168=agX:=by kernel_rfl
def XS:ak:=
 (oG mN qB 2 0 3 3 zz 2 (fm 3 4 (FJ 189 (d_ 0 0 0 0 0 0) bo (fe 4 4 4) (.nt dp (xE 2 1 8 3 1 2 (xS 6)) (xS 3)))) (lW 3))
def agY:ak:=
 (xr 6 XS)
theorem aqv:aE ayu (cB [⟨0,188,3,[(0,(5,0)),(0,(6,0))],[(1,0)],[],[]⟩]) 400 af 188=agY:=by kernel_rfl
def Oe:ak:=
 (sF I5 tH (FR 9 6) (.test rH (lr 2 9 lA) (rF 6 9 (jo 1 fZ 8 (gi 11 (mP .eql (eW 6 9) rM) (lr 2 9 (mP .eql (eW 6 9) rM)))))) (pG rH bT (eA 1 8)))
def XT:ak:=
 (zH dx (fU 7) 8 7 Oe dZ)
def XU:ak:=
 (iH B8 1 4 1 1 bo 4 (oF bV .geq bV (jo 1 bo 4 (ig 7 3 (xM fZ (fU 3) (tG 1 bo 4 8 (lY dh jR 9 (lU 4 56 5 Ca (BY 10)))) vW))) vW) (oY 1364 (lz 5) (kI 145 (fe 2 2 2) 7 XT)))
def agZ:ak:=
 (xr 6 (qD 3 2 39 0 0 0 0 0 0 (dY 3 XU)))
theorem aqw:aE ayu (cB [⟨0,189,11,[(0,(12,0))],[],[],[]⟩,⟨0,189,4,[(0,(8,0)),(0,(9,0))],[(2,3),(2,0)],[],[]⟩,⟨0,189,15,[(0,(13,0)),(0,(14,0))],[],[],[]⟩]) 400 af 189=agZ:=by kernel_rfl
def alq:ak:=
 (xQ (qo 6 2 dh (tF 106 nJ dh 2 4 0 4 (N_ (HW 4 2) (HW 4 2) xx (.aV (I6 4) (eL 107 bo (yQ (xq 4 0) (I6 4) (pB 4)) (.nr dp)))))))
theorem au8:aE ayu (cB []) 400 af 42=alq:=by kernel_rfl
def XV:ak:=
 (sF B8 (.len zy) (sD 3 4 (.len zy)) (.test (HW 3 2) (jo 1 zy 4 (oF bV .geq bV (jo 1 zy 4 (gi 7 (I6 3) (xM fZ (I6 3) (tG 1 zy 4 8 (RA 4 (FQ 3) jR 4 9 (KQ 4 56 5 4 (iG 9 9 9 9) (BY 10)))) vW))) vW)) (lW 5)) (lW 5))
def ag0:ak:=
 (nI 2 6 (tQ (tF 106 (d_ 1 1 1 1 1 1) cE 2 3 0 3 (.aV (HW 3 2) XV))))
theorem aqx:aE ayu (cB [⟨0,108,4,[(0,(10,0)),(0,(11,0))],[(3,3),(3,0)],[],[]⟩]) 400 af 108=ag0:=by kernel_rfl
def ag1:ak:=
 (nI 2 6 (pJ cE cE tE (oI kK cE kK tE (xO .lss 1 0 tE (oI gv pA gv tE (zB 6 1 (qD 6 3 39 3 3 3 3 3 3 (dY 4 (qY 1 1 3 cE (pJ dp dp tE (qY 1 1 3 cE (ig 6 4 (rE .geq bV (fU 4) tE (Dp xB .lss cE xB (rN 1 1 4 cE 7 (rN 1 1 3 cE 8 (lY dS jR 9 (aaD (vQ 9 9) fZ lA)))) (rN 1 1 3 cE 7 (lY dS fZ 8 (aaH (vQ 8 8) lA)))))))))))))))))
theorem aqy:aE ayu (cB []) 400 af 106=ag1:=by kernel_rfl
def XW:ak:=
 (rT 2 0 3 2 (fm 3 3 (eL 169 (fe 3 3 3) (fe 1 1 1) (.nt dS vV lX))) xx)
def ag2:ak:=
 (FY 3 1 XW)
theorem aqz:aE ayu (cB [⟨0,107,2,[(0,(5,0))],[],[],[]⟩]) 400 af 107=ag2:=by kernel_rfl
def ag3:ak:=
 (nI 3 3 (pL .eql 9 0 0 pA .eql 3 0 1 pz (Cj 65 0 2 2 cE) bT))
theorem aqA:aE ayu (cB []) 400 af 169=ag3:=by kernel_rfl
def Uj:ak:=
 (iH B8 1 2 1 2 bo 2 (fm 2 4 (lU 4 56 3 F1 (ew 2 5))) (oY 1364 (lz 3) (kH 0 4)))
def acO:ak:=
 (oG (ik 1) (BS 4) 2 0 4 3 (mY 0 4) 2 (jq 3 4 76 (fe 4 4 4) (il 5 5 (FH .neq 3 4 0 eB .neq 3 4 0 (.i 4) bT (tO .eql 4 0 eB (xS 3) (qY 4 4 2 aY (zG (kj 4 6) (eD 6) eB (qY 4 4 2 aY (fm 4 7 (oY 110 (wD vY 7 1 .an) (.nt jR bT (qY 4 4 2 aY (qo 4 9 (HV 9 1) (rV 3 Ca (xS 10))))))))))) (tO .eql 4 0 eB (xS 3) (qY 4 4 2 aY (zG (kj 4 6) (eD 6) eB (qY 4 4 2 aY (fm 4 7 (oY 110 (wD vY 7 1 .an) (.nt jR bT (qY 4 4 2 aY (qo 4 9 (HV 9 1) (rV 3 Ca (xS 10)))))))))))))) dZ)
def acP:ak:=
 (iJ (kI 39 (d_ 0 0 0 0 0 0) 1 Uj) acO)
def alr:ak:=
 (fm 6 0 acP)
theorem au9:aE ayu (cB [⟨0,45,3,[(0,(4,0))],[(3,1),(3,0),(2,0)],[(0,7)],[]⟩,⟨0,45,1000007,[],[(3,0),(2,0)],[],[]⟩,⟨1,45008,4,[(1,(3,0)),(1,(5,0))],[(2,3),(2,0)],[],[]⟩]) 400 af 45=alr:=by kernel_rfl
def XX:ak:=
 (rT 2 0 1 2 (oH dh dh bo dZ lX) bT)
def ag4:ak:=
 (jQ XX)
theorem aqB:aE ayu (cB [⟨0,110,2,[(0,(5,0))],[],[],[]⟩]) 400 af 110=ag4:=by kernel_rfl
def XY:ak:=
 (rT 2 0 1 2 (oH dh dh bo dZ lX) bT)
def ag5:ak:=
 (jQ XY)
theorem aqC:aE ayu (cB [⟨0,105,2,[(0,(5,0))],[],[],[]⟩]) 400 af 105=ag5:=by kernel_rfl
def XZ:ak:=
 (sF (oa (yP 7)) gv (tP 3 0) (n_ 105 (ko cE 3) (mD 5 5 (vZ 4 qC 3 4 6 (qx 4 (j2 eB bo (Dq vY (sE 4 (iG 6 6 6 6)))) (js 3 7))) (js 3 4))) (lW 4))
def aaO:ak:=
 (xQ (tQ XZ))
theorem aqD:nA ayu (cB [⟨0,40,3,[(0,(7,0)),(0,(8,0))],[(1,3),(1,0)],[],[]⟩]) 400 af 40=aaO:=by kernel_rfl
def X0:ak:=
 (sF dx gv (tP 3 0) (n_ 105 (ko cE 3) (mD 4 4 (jo 4 qC 3 (qo 4 5 (.sub 7 (sE 7 (j2 eB bo (Dq vY (sE 4 (iG 5 5 5 5))))) (.len (sE 7 (j2 eB bo (Dq vY (sE 4 (iG 5 5 5 5)))))) aY) nG)) nG)) (.ret (yP 7)))
def aaP:ak:=
 (xQ (tQ X0))
theorem aqE:(nA ayu (MK [⟨0,40,3,[(0,(8,0))],[],[],[]⟩]) 400 ab 40).ll=aaP:=by kernel_rfl
def X1:ak:=
 (iH (oa (yP 7)) 1 2 1 1 bo 2 (dY 4 (tN 3 3 dS (tx 3 5 3 2 5 0 5 1 5 2 (xS 6)))) (lW 3))
def aaQ:ak:=
 (xr 6 X1)
theorem aqF:nA ayu (cB [⟨0,41,3,[(0,(5,0)),(0,(6,0))],[(1,3),(1,0)],[],[]⟩]) 400 af 41=aaQ:=by kernel_rfl
def X2:ak:=
 (iH dx 1 2 1 1 bo 2 (dY 3 (tN 3 3 dh (fm 3 4 (Dn 7 96 (yP 7) (sE 7 (HU pK (wD aY 4 0 (aax 4 1 4 2 KO)))) (FW 2 1 (.fail 0)))))) (.ret (yP 7)))
def aaR:ak:=
 (xr 6 X2)
theorem aqG:(nA ayu (MK [⟨0,41,3,[(0,(6,0))],[],[],[]⟩]) 400 ab 41).ll=aaR:=by kernel_rfl
def Of:ak:=
 (sF (oa (sE 7 (j2 (.i 3) bV (Dq fZ jR)))) (fO 10) (FR 11 10) (rF 10 11 (lY dp (eW 10 11) 13 (w7 2 dp bV (pC 2 14 9 13 (eD 14) (qy 13 1 (pF 2 dp bV 2 15 15 (mU (tM 13) (tM 15) (gh (mM 10 11) (.rw bV) (qx 12 (j2 (.i 4) bV (KU (eW 10 11))) (ew 11 16))) (ew 11 12)))) (ew 11 12))))) (lY dp bV 13 (rN 1 2 4 dh 14 (FJ 2182 (vQ 13 13) bV xI (lU 7 96 12 (.var 15) (.aV (mP .add dh pK) (rN 1 2 5 (mP .add dh pK) 17 (eL 2183 (d_ 4 4 4 4 4 4) mR (lU 7 96 16 (.var 18) (lW 19))))))))))
def X3:ak:=
 (aay (oa MG) (sD 3 9 dh) 1 2 3 9 (gi 11 (.rw rM) (rV 10 rM (js 9 12))) Of)
def aaS:ak:=
 (xQ (qo 6 2 dh (tN 6 1 zx (qD 6 4 39 4 4 4 4 4 4 (dY 5 (rN 1 2 3 dh 6 (n_ 42 (MF ij bo nJ dh) (dY 7 (aaF 108 nJ dh (gi 8 (HV 2 1) X3))))))))))
theorem aqH:nA ayu (cB [⟨0,43,11,[(0,(15,0))],[(3,0)],[(0,42)],[]⟩,⟨0,43,7,[(0,(14,0))],[(4,0)],[(0,46)],[]⟩]) 400 af 43=aaS:=by kernel_rfl
def als:ak:=
 (jq 2 0 85 ij (RC (xK 1) 1 (.nr (uU .eql 38 (pB 1) aY))))
theorem au_:aE ayu (cB []) 400 af 31=als:=by kernel_rfl
def Uk:ak:=
 (uh (rC (Cd (fU 4)) 2 (eD 3)) (BR 5) (lq 3 1 (tP 5 3) (jo 2 dS 5 (qo 2 8 (.rw FN) (gh (.rw xH) (.rw (tP 5 3)) (KQ 3 24 6 3 (rC FN 5 (tP 5 3)) (BV 1 3 5 1 (nC 9 7))))))) (js 1 6))
def acQ:ak:=
 (jr (oa tK) 1 0 1 6 0 1 1 (qD 6 3 33 3 3 3 3 3 3 (ig 4 4 (.aV (Cd (fU 4)) Uk))) vV)
def alu:ak:=
 (qA 2 0 0 acQ)
theorem ava:aE ayu (cB [⟨2,87805000,1,[(2,(10,0))],[(4,0),(1,0)],[],[]⟩,⟨2,87805000,5,[(2,(6,0))],[(4,0),(5,0),(1,0)],[],[]⟩]) 400 af 87=alu:=by kernel_rfl
def Og:ak:=
 (qE (ik 4) 9 8 1 jR 9 11 (Ck 3 rH rM .an (ew 9 12)) (js 3 10))
def Oh:ak:=
 (AV dx 10 9 1 rR 10 (gi 11 (.uM 0 (.get 3 tI rM .an)) (.bind (.has 3 tI rM) (pG (.var 12) (ew 6 7) (eA 2 10)))) (xE 6 1 8 7 1 6 (ew 6 11)))
def Oi:ak:=
 (jr mN 6 5 1 4 5 1 6 (pH 4 8 204 8 8 8 8 (ig 9 9 Oh)) (lW 7))
def X4:ak:=
 (qE (oa F0) 3 1 1 bo 3 5 (eL 203 (KN 0 0 0 1 0 2 0 3 (FE 0 4 0 5 0 6)) dp (.nt bV (tN 2 6 dp (rI 2 7 164 7 7 (ig 8 8 Og))) (js 3 4))) (tN 2 6 cE (qA 2 5 5 Oi)))
def RJ:ak:=
 (xr 7 (ig 2 1 X4))
theorem aqI:aE ayu (cB [⟨0,160,14,[(0,(12,0)),(0,(52,0))],[(2,0)],[],[]⟩,⟨0,160,3,[(0,(22,0))],[(1,0)],[],[]⟩,⟨0,160,17,[(0,(60,0))],[],[],[]⟩,⟨0,160,7,[(0,(36,0))],[(1,0)],[],[]⟩]) 400 af 160=RJ:=by kernel_rfl
def alv:ak:=
 (xQ (qo 6 2 dh (tF 115 nJ dh 2 4 0 4 (.nt (HW 4 2) (FJ 116 bo (vO (xq 4 0) (FQ 4)) (pB 4) (.nr dp)) xx))))
theorem avb:aE ayu (cB []) 400 af 97=alv:=by kernel_rfl
def acR:ak:=
 (T8 B8 (sD 3 4 (.len zy)) 1 zy 4 (oF bV .geq bV (Dp (I6 3) .lss bV (I6 3) (RA 4 (FQ 3) bV 4 7 (KQ 4 56 5 4 (iG 7 7 7 7) (BY 8))) vW) vW) (lW 5))
def alw:ak:=
 (nI 2 6 (tQ (tF 115 (d_ 1 1 1 1 1 1) cE 2 3 0 3 (gh (HW 3 2) (.len zy) acR))))
theorem avc:aE ayu (cB [⟨0,98,4,[(0,(10,0)),(0,(23,0))],[(3,3),(3,0)],[],[]⟩]) 400 af 98=alw:=by kernel_rfl
def ag6:ak:=
 (nI 2 6 (pJ cE cE tE (oI kK cE kK tE (xO .lss 1 0 tE (oI gv pA gv tE (zB 6 1 (qD 6 3 33 3 3 3 3 3 3 (dY 4 (qY 1 1 3 cE (pJ dp dp tE (oI (fU 4) dp (fU 4) tE (Dp xB .lss cE xB (rN 1 1 4 cE 6 (lY dS dp 7 (aaD (vQ 7 7) bV lA))) (lY dS dp 6 (aaH (vQ 6 6) lA))))))))))))))
theorem aqJ:aE ayu (cB []) 400 af 115=ag6:=by kernel_rfl
def X5:ak:=
 (Cn 3 3 3 (pC 3 4 9 4 pA (oH (BW 1) F1 (BW 1) (eL 93 (vR 4) cE (.nt dp (lW 3) nG)) nG) nG) xx)
def ag7:ak:=
 (FY 2 1 (gi 2 kq X5))
theorem aqK:aE ayu (cB [⟨1,116010,2,[(1,(8,0))],[],[],[]⟩]) 400 af 116=ag7:=by kernel_rfl
def Oj:ak:=
 (AV (ik 3) 6 5 1 dp 6 (gi 8 (.uM 0 (.get 3 F_ jR .an)) (.bind (.has 3 F_ jR) (.test (.var 9) (ew 6 7) (Ck 3 F_ jR .an (ew 6 10))))) (xS 7))
def Ol:ak:=
 (jr (ik 3) 4 0 4 3 0 4 4 (jq 3 6 166 (fe 6 6 6) (il 7 7 (tO .eql 6 0 eB (ew 4 5) (tO .neq 6 0 (.i 4) bT (qY 4 6 2 aY (zG (kj 4 8) (eD 8) eB (qY 4 6 2 aY (qo 4 9 (.uM 0 (.get 3 xH Ca .an)) (.bind (.has 3 xH Ca) (.test rH bT (Ck 3 xH Ca .an (ew 4 11)))))))))))) dZ)
def X6:ak:=
 (AV (oa F0) 2 1 2 bo 2 (rI 2 4 164 4 4 (ig 5 5 Oj)) (qy 0 4 Ol))
def ag8:ak:=
 (qD 6 0 33 0 0 0 0 0 0 (gh bo nH X6))
theorem aqL:aE ayu (cB [⟨0,101,3,[(0,(14,0))],[(1,0)],[],[]⟩,⟨0,101,12,[(0,(33,0))],[(1,0)],[],[]⟩,⟨0,101,6,[(0,(21,0))],[(1,0)],[],[]⟩]) 400 af 101=ag8:=by kernel_rfl
def afv:ak:=
 (iH dx 2 3 2 4 cE 3 (fm 4 4 (eL 185 MC (iG 4 4 4 4) (FZ 11 xH (eA 1 3)))) (.ret MC))
def afw:ak:=
 (.loop .an (FF 1 1 (.sub 1 zw (.len zw) aY) (Cq 184 1 1 1 1 2 afv)))
def Ul:ak:=
 (iH dx 2 3 2 4 cE 3 (fm 4 4 (eL 185 MC (iG 4 4 4 4) (FZ 11 xH nG))) (.ret MC))
def acS:ak:=
 (oH (kj 4 1) pA eB afw (Cq 184 1 1 1 1 2 Ul))
theorem alx:(N8 ayu (MK [⟨0,185,5,[(0,(6,0))],[],[],[]⟩]) 400 1 185).ll=acS:=by kernel_rfl
def Um:ak:=
 (rT 1 0 4 1 (fm 4 2 (eL 185 MC (iG 2 2 2 2) (FZ 11 vY rJ))) tA)
def Un:ak:=
 (dY 0 Um)
theorem aly:ma ayu (MK [⟨0,140,3,[(0,(4,0))],[],[],[]⟩]) 400 ab 140=Un:=by kernel_rfl
def Uo:ak:=
 (IY mN 1 0 4 1 (qo 4 3 (IW 2) (rD 491 (.var 2) (iG 3 3 3 3) (js 1 4))) (FU 2))
def Up:ak:=
 (dY 0 Uo)
theorem alz:ma ayu (cB [⟨0,140,3,[(0,(3,0)),(0,(4,0))],[(0,0)],[],[]⟩]) 400 af 140=Up:=by kernel_rfl
def aiM:List Nat:=[266,24,25,7,69,257,72,26,71,137,70,139,225,145,183,75,76,136,186,140,184,224,138,185,9,28,27,143,77,142,141,74,144,73,146,78,39,95,93,162,154,268,227,192,280]
def aiN:List Nat:=[]
def aiO:List Nat:=[201]
def aiP:List Nat:=[185,247,209]
def RL(l:List Hint):eS:=⟨aiM,aiN,aiO,l++[],aiP⟩
def acT:ak:=
 (sC bZ .leq 5 (jP 97) bZ (I3 5 bZ (jP 122) (FI 1) (I3 5 (jP 65) bZ (I3 5 bZ (jP 90) Jc (zr 5 I8 Jc (Cp 5 (jP 48) bZ (Cp 5 bZ (jP 57) (FI 4))))) (zr 5 I8 Jc (Cp 5 (jP 48) bZ (Cp 5 bZ (jP 57) (FI 4)))))) (I3 5 (jP 65) bZ (I3 5 bZ (jP 90) Jc (zr 5 I8 Jc (Cp 5 (jP 48) bZ (Cp 5 bZ (jP 57) (FI 4))))) (zr 5 I8 Jc (Cp 5 (jP 48) bZ (Cp 5 bZ (jP 57) (FI 4))))))
theorem aqM:aE ayu (RL []) 400 af 227=acT:=by kernel_rfl
def acU:ak:=
 (IT bZ 9 bZ (.s [99,111,110,115,116,114,97,105,110,116]) dZ (I0 9 (.s [116,114,117,101]) dZ 9 (.s [102,97,105,108]) dZ (I0 9 (.s [105,115]) dZ 9 (.s [105,110,116]) dZ (zr 9 (.s [103,114,111,117,110,100]) dZ bT))))
theorem aqN:aE ayu (RL []) 400 af 192=acU:=by kernel_rfl
def X7:ak:=
 (.loop (qW (.tp (B_ 2 aY))) (.test (.dec 0 Jb F4) (.bind (.tp (vO Jb (.dec 2 Jb F4))) (HT .gtr 21 (.dec 1 Jb F4) (.k .i32 122) (Mv 4 lA lA (xM F4 aY (kI 192 bZ 5 (.nr (vP dp))) bT) (kH 0 4)) (.aV (MD 21 5 (.dec 1 Jb F4)) (iP 227 (MD 21 5 (.dec 1 Jb F4)) (gi 5 (zE .and 223 dp 7) (IT (zE .eql 223 (zE .and 223 dp 7) 0) 4 (zE .eql 223 (zE .and 223 dp 7) 0) lA (xM F4 aY (kI 192 bZ 6 (.nr (vP bV))) bT) (kH 0 4))))))) (xM aaJ aY (kI 192 bZ 4 (.nr (vP dS))) bT)))
def aaT:ak:=
 (IT bZ 9 bZ m9 bT (nD vS vS 40 bT (.aV (MB aY) (iP 227 (MB aY) (gh bo (zE .and 223 bo 1) (Mv 223 (zE .and 223 bo 1) (jP 0) bT (.bind (.Ks bZ eB vS) (.aV (.ud (.var 2)) X7))))))))
theorem avd:aE ayu (RL [⟨3,154005023008,2,[],[(0,0)],[],[]⟩]) 400 af 154=aaT:=by kernel_rfl
def acV:ak:=
 (Rz vS (mU vS eB (eL 280 (.s [43,45,42,47,37]) bZ (.nr bo)) bT))
theorem aqO:aE ayu (RL []) 400 af 268=acV:=by kernel_rfl
def alA:List Nat:=[266,24,25,7,69,257,72,26,71,137,70,139,225,145,183,75,76,136,186,140,184,224,138,185,9,28,27,143,77,142,141,74,144,73,146,78,39,95,93,162,154,268]
def alB:List Nat:=[]
def alC:List Nat:=[201]
def alD:List Nat:=[185,247,209]
def RM(l:List Hint):eS:=⟨alA,alB,alC,l++[],alD⟩
def acW:ak:=
 (qo 4 1 cE (pJ (FG 0) (FG 0) rK (xM cE eB rK (FH .eql 3 1 0 aY .geq 3 1 1 (.i (-2147483648)) (FH .leq 3 1 1 (.i 2147483648) .eql 9 1 2 m9 (lq 1 3 (pE 1 3) (aaB (pE 1 3) 0)) rK rK) rK (FH .eql 3 1 0 eB .geq 3 1 1 aY (FH .leq 3 1 1 (.i 1048576) .eql 9 1 2 m9 (lq 1 3 (pE 1 3) (aaB (pE 1 3) 0)) rK rK) rK (FH .eql 3 1 0 pK .neq 3 1 1 aY rK (nD kK kK 6 rK (xN 154 (vR 1) 3 3 (iP 268 (vR 1) (.nt dS (lq 1 3 (FL 1 3 pK) (pG (FL 1 3 pK) rK (.aV (Cd cE) (xJ 821 (qW (aaA 0)) 1 3 (Cd cE) (.aV (xK 5) (Mz (xK 5) (qW (T9 5 1 0)))))))) rK)) (.aV (Cd cE) (xJ 821 (qW (aaA 0)) 1 3 (Cd cE) (.aV (xK 4) (Mz (xK 4) (qW (T9 4 1 0)))))))) rK))))))
theorem aqP:Ag ayu (RM []) 400 [1] 247=acW:=by kernel_rfl
def Uq:ak:=
 (AV (ik 0) 3 1 4 bo 3 (fm 4 5 (oY 859 (yQ (qW (lz 4)) (iG 5 5 5 5) cE) (N_ (xK 6) (xK 6) (Mz oX (qW (T9 6 1 0))) (lr 0 3 (T9 6 1 0))))) (Mz lA (lz 4)))
def acX:ak:=
 (gh bo cE (.aV nH Uq))
theorem aqQ:Ag ayu (RM [⟨1,209,2,[(1,(10,0))],[(0,0)],[],[]⟩]) 400 [1] 209=acX:=by kernel_rfl
def ag9:ak:=
 (jq 2 0 154 tD (rS bo (rB gv .leq gv 6 (xJ 821 FV 0 1 Cu (FX 2)) bT)))
theorem ave:aE ayu (RM []) 400 af 194=ag9:=by kernel_rfl
def acY:ak:=
 (pI (kj 3 0) tD (iP 154 qC (rS bo (rB kJ .leq kJ 6 (xJ 821 FV 0 2 Cu (FX 2)) bT))) (pL .eql 3 0 0 eB .gtr 3 0 0 aY (pL .leq 3 0 0 tL .eql 9 0 1 m9 (pI kJ kJ (xJ 821 FV 0 2 Cu (FX 1)) bT) bT) (pL .eql 3 0 0 pK .gtr 3 0 0 aY (pL .leq 3 0 0 tL .eql 9 0 1 m9 (pI kJ kJ (xJ 821 FV 0 2 Cu (FX 1)) bT) bT) (pL .eql 3 0 0 (.i 11) .gtr 3 0 0 aY (pL .leq 3 0 0 tL .eql 9 0 1 m9 (oH kJ kJ eB (xJ 821 FV 0 2 Cu (FX 1)) bT) bT) (pL .eql 3 0 0 tL .gtr 3 0 0 aY (pL .leq 3 0 0 tL .eql 9 0 1 m9 (oH kJ kJ eB (xJ 821 FV 0 2 Cu (FX 1)) bT) bT) (pL .gtr 3 0 0 aY .leq 3 0 0 tL (FC .eql 9 0 1 m9 (rB kJ .eql kJ 2 (xJ 821 FV 0 2 Cu (FX 1)) bT) bT) bT))))))
theorem aqR:aE ayu (RM []) 400 af 166=acY:=by kernel_rfl
def alE:List Nat:=[266,24,25,7,69,257,72,26,71,137,70,139,225,145,183,75,76,136,186,140,184,224,226,138,185,9,28,27,143,77,142,141,74,144,73,146,78,39,95,93,162]
def alF:List Nat:=[269,259,234,217]
def alG:List Nat:=[201]
def alH:List Nat:=[185]
def fI(l:List Hint):eS:=⟨alE,alF,alG,l++[],alH⟩
def X8:ak:=
 (oG dx gv 2 0 1 6 qC 2 (fm 6 3 (eL 28 tD (d_ 3 3 3 3 3 3) (sC dS .neq 38 dS aY (KR (.var 2) dS) (eA 1 2)))) (aaG aY))
def X9:ak:=
 (oG dx (BS 0) 1 0 0 2 tD 1 (jq 2 2 26 zx (mD 3 3 (I9 7) (xO .lss 2 1 (I9 9) (tO .gtr 2 1 v8 (I9 9) (xD 2 tD aY FN (xJ 27 tI 2 0 xu (.nt dp (I9 8) rJ))))))) (nD gv gv 40 (I9 6) X8))
def aaU:ak:=
 (xp 2 0 0 0 (rE .gtr (BS 0) (.i 30) (I9 6) X9))
theorem avf:aE ayu (fI [⟨0,9,16,[(0,(6,0))],[],[],[]⟩,⟨0,9,4,[(0,(4,0))],[],[],[]⟩]) 400 af 9=aaU:=by kernel_rfl
def ag_:ak:=
 (dY 0 (iP 70 bZ (rS bo (.aV (MB aY) (iP 71 (MB aY) (rS cE (kI 72 bZ 3 (.nr (vP dh)))))))))
theorem avg:aE ayu (fI []) 400 af 26=ag_:=by kernel_rfl
def Ur:ak:=
 (sF dx vS (sD 3 1 vS) (.aV tB (xN 71 tB 2 2 (.aV tB (xN 137 tB 3 3 (sC tB .lss 5 tB (jP 48) (sC tB .neq 5 tB I8 bT rJ) (sC tB .gtr 5 tB (jP 57) (sC tB .neq 5 tB I8 bT rJ) rJ)) rJ)) rJ)) (oI vS vS eB (.aV vS (xA .leq vS (.i 40))) bT))
def acZ:ak:=
 (dY 0 Ur)
theorem aqS:aE ayu (fI [⟨0,70,2,[(0,(3,0))],[],[],[]⟩]) 400 af 70=acZ:=by kernel_rfl
def ac0:ak:=
 (sC bZ .geq 5 bZ (jP 97) (.nr (zE .leq 5 bZ 122)) bT)
theorem aqT:aE ayu (fI []) 400 af 71=ac0:=by kernel_rfl
def ac1:ak:=
 (sC bZ .geq 5 bZ (jP 65) (.nr (zE .leq 5 bZ 90)) bT)
theorem aqU:aE ayu (fI []) 400 af 137=ac1:=by kernel_rfl
def ac2:ak:=
 (IT bZ 9 bZ (.s [99,111,110,115,116,114,97,105,110,116]) dZ (I0 9 (.s [116,114,117,101]) dZ 9 (.s [102,97,105,108]) dZ (I0 9 (.s [105,115]) dZ 9 (.s [105,110,116]) dZ (.nr (uU .eql 9 bZ (.s [103,114,111,117,110,100]))))))
theorem aqV:aE ayu (fI []) 400 af 72=ac2:=by kernel_rfl
def X_:ak:=
 (rT 3 0 2 3 (pC 2 4 9 4 bo (jo 2 bZ 3 (oH (kj 2 5) (mL 5) cE dZ nG)) nG) bT)
def aha:ak:=
 (jQ (tQ X_))
theorem avh:aE ayu (fI [⟨0,27,2,[(0,(7,0))],[],[],[]⟩]) 400 af 27=aha:=by kernel_rfl
def Ya:ak:=
 (aaz dx ek 7 6 1 bV 7 (I2 jR jR F_ (lV 2) (eA 2 7)) (I2 ek (mY 1 5) ek (lV 2) (FC .neq 9 1 0 m9 (xN 26 pA 8 8 (lV 7) (eL 78 bZ (d_ 1 1 1 1 1 1) (.nr rR))) (eL 78 bZ (d_ 1 1 1 1 1 1) (.nr jR)))))
def Yb:ak:=
 (iH dx 3 5 3 3 dh 5 (jq 3 6 76 (fe 6 6 6) (mD 7 7 (lV 2) (eA 1 5))) (kI 77 (d_ 1 1 1 1 1 1) 6 Ya))
def Yc:ak:=
 (iH dx 2 4 2 2 cE 4 (rI 2 5 75 5 5 (mD 6 6 (lV 2) (IP 4))) Yb)
def ahb:ak:=
 (FY 6 1 (kI 73 (d_ 1 1 1 1 1 1) 2 (iP 74 (d_ 1 1 1 1 1 1) (ig 3 2 (mU (fU 2) aY (lV 6) (nD (fU 2) (fU 2) 4 (lV 6) (nD kK kK 12 (lV 6) (nD xB xB 12 (lV 6) Yc))))))))
theorem avi:aE ayu (fI [⟨0,28,17,[(0,(10,0))],[],[],[]⟩,⟨0,28,11,[(0,(8,0))],[],[],[]⟩,⟨0,28,6,[(0,(7,0))],[],[],[]⟩]) 400 af 28=ahb:=by kernel_rfl
def ac3:ak:=
 (fm 6 0 (Dn 2 40 rP qC (lU 2 40 1 zA vV)))
theorem aqW:aE ayu (fI []) 400 af 73=ac3:=by kernel_rfl
def ac4:ak:=
 (fm 6 0 (Dn 3 48 tK zz (lU 3 48 1 (mY 0 4) vV)))
theorem aqX:aE ayu (fI []) 400 af 74=ac4:=by kernel_rfl
def ahc:ak:=
 (jq 2 0 26 tD (rS bo (rB gv .leq gv 6 (iP 138 qC (.nr cE)) bT)))
theorem avj:aE ayu (fI []) 400 af 75=ahc:=by kernel_rfl
def Us:ak:=
 (IY MH 1 0 4 1 (pH 4 3 183 3 3 3 3 (il 4 4 (jo 4 bZ 1 (pH 4 5 136 5 5 5 5 (gi 6 (s7 .add 3 2 bV) (lr 0 1 (s7 .add 3 2 bV))))))) (.nr (aat .leq 3 2 200)))
def ac5:ak:=
 (dY 0 Us)
theorem aqY:aE ayu (fI [⟨0,138,3,[(0,(3,0)),(0,(4,0))],[],[],[]⟩]) 400 af 138=ac5:=by kernel_rfl
def ac6:ak:=
 (pH 4 0 224 0 0 0 0 (rS bo (iP 136 (iG 0 0 0 0) (rB cE .leq cE 200 (Cq 225 0 0 0 0 3 (xA .leq dh Cu)) bT))))
theorem aqZ:aE ayu (fI []) 400 af 183=ac6:=by kernel_rfl
def Gb:ak:=
 (oG dx qB 3 0 3 4 zz 3 (pH 4 4 224 4 4 4 4 (il 5 5 nG)) dZ)
def KX:ak:=
 (oG dx qB 2 0 3 4 zz 2 (pH 4 3 224 3 3 3 3 (il 4 4 lX)) dZ)
def Ut:ak:=
 (oG dx qB 3 0 3 4 zz 3 (pH 4 4 224 4 4 4 4 (il 5 5 nG)) dZ)
def ac7:ak:=
 (pI (kj 4 0) tD (pL .geq 3 0 1 (.i (-2147483648)) .leq 3 0 1 (.i 2147483648) (FC .eql 9 0 2 m9 (qy 0 3 (.nr (pE 0 3))) bT) bT) (pL .eql 3 0 0 eB .geq 3 0 1 aY (pL .leq 3 0 1 (.i 1048576) .eql 9 0 2 m9 (qy 0 3 (.nr (pE 0 3))) bT) (tO .eql 0 0 pK (iP 257 zA (.nt bo (lq 0 3 (FL 0 3 pK) (xO .neq 0 1 bT (pG (FL 0 3 pK) (iP 26 zA (il 2 2 (nD qB qB 6 bT Gb))) KX))) (xO .neq 0 1 bT (iP 26 zA (il 2 2 (nD qB qB 6 bT Ut)))))) bT)))
theorem aq0:aE ayu (fI [⟨0,224,11,[(0,(4,0))],[],[],[]⟩]) 400 af 224=ac7:=by kernel_rfl
def ac8:ak:=
 (IT bZ 9 bZ (.s [43]) dZ (I0 9 (.s [45]) dZ 9 (.s [42]) dZ (zr 9 (.s [47]) dZ (.nr (uU .eql 9 bZ (.s [37]))))))
theorem aq1:aE ayu (fI []) 400 af 257=ac8:=by kernel_rfl
def Uu:ak:=
 (iH MH 1 2 1 4 bo 2 (pH 4 4 225 4 4 4 4 (gi 5 (.ok (.rw (.mx ab vY dp))) (lr 0 2 (.ok (.rw (.mx ab vY dp)))))) (.nr (B9 3 1)))
def ac9:ak:=
 (pH 4 0 184 0 0 0 0 (dY 1 Uu))
theorem aq2:aE ayu (fI [⟨0,225,4,[(0,(3,0)),(0,(5,0))],[],[],[]⟩]) 400 af 225=ac9:=by kernel_rfl
def ac_:ak:=
 (pI (kj 3 0) tD (iP 75 (aav 0 1 0 2) (.nr bo)) (FC .eql 9 0 1 m9 (iP 139 tD (gh bo kJ (mU bo kJ (iP 138 zA (.nr cE)) bT))) bT))
theorem aq3:aE ayu (fI []) 400 af 76=ac_:=by kernel_rfl
def ada:ak:=
 (oH bZ bZ eB qz (I0 3 pK qz 3 (.i 11) (lV 1) (zr 3 tL (lV 1) (rE .gtr bZ pK (xM bZ (.i 11) (lV 2) xx) xx))))
theorem aq4:aE ayu (fI []) 400 af 139=ada:=by kernel_rfl
def Uv:ak:=
 (iH (ik 3) 4 5 4 3 dS 5 (fm 3 7 (lU 4 56 6 (vR 7) (ew 5 8))) (oY 140 (lz 6) (.nr fZ)))
def Uw:ak:=
 (iH B8 1 2 1 2 bo 2 (fm 2 4 (lU 4 56 3 F1 (xS 5))) (kI 74 (d_ 0 0 0 0 0 0) 4 Uv))
def adb:ak:=
 (qD 6 0 73 0 0 0 0 0 0 (dY 1 Uw))
theorem aq5:aE ayu (fI [⟨0,77,9,[(0,(3,0)),(0,(7,0))],[(1,3),(1,0)],[],[]⟩,⟨0,77,4,[(0,(3,0)),(0,(5,0))],[(1,3),(1,0)],[],[]⟩]) 400 af 77=adb:=by kernel_rfl
def Ux:ak:=
 (IY mN 1 0 4 1 (qo 4 3 (IW 2) (rD 491 (.var 2) (iG 3 3 3 3) (js 1 4))) vV)
def ML:ak:=
 (dY 0 Ux)
theorem aq6:aE ayu (fI [⟨0,140,3,[(0,(3,0)),(0,(4,0))],[(0,0)],[],[]⟩]) 400 af 140=ML:=by kernel_rfl
def Uy:ak:=
 (iH dx 11 12 11 1 rM 12 (dY 13 (eL 146 jR (fj 13) (mD 14 14 (lV 17) (eA 4 12)))) (eA 3 9))
def Uz:ak:=
 (oG dx kK 9 1 3 3 rL 9 (jq 3 10 145 (fe 10 10 10) (dY 11 Uy)) qz)
def UA:ak:=
 (oG dx xB 7 1 4 3 (mY 1 4) 7 (jq 3 8 143 (eD 8) (.nt rR (lV 10) (eA 2 7))) (kI 144 (d_ 1 1 1 1 1 1) 8 Uz))
def UB:ak:=
 (oG dx kK 6 1 3 3 rL 6 (jq 3 7 143 (eD 7) (mD 8 8 (jo 3 rL 6 (I2 (kj 3 9) (eD 9) eB (lV 10) (eA 1 6))) (eA 1 6))) UA)
def UC:ak:=
 (iH dx 2 3 2 2 cE 3 (fm 2 4 (jo 2 cE 3 (qA 2 5 5 (xP 141 4 0 xL (sC bV .neq 38 bV aY (.ret bV) nG))))) (kI 74 (d_ 1 1 1 1 1 1) 4 (eL 142 bZ dS (sC dp .neq 38 dp aY (.ret dp) UB))))
def ade:ak:=
 (FY 6 1 (kI 73 (d_ 1 1 1 1 1 1) 2 UC))
theorem aq7:aE ayu (fI [⟨0,78,23,[(0,(12,0))],[],[],[]⟩,⟨0,78,27,[(0,(14,0))],[],[],[]⟩,⟨0,78,17,[(0,(10,0))],[],[],[]⟩,⟨0,78,12,[(0,(9,0))],[],[],[]⟩,⟨0,78,3,[(0,(6,0))],[],[],[]⟩]) 400 af 78=ade:=by kernel_rfl
def UD:ak:=
 (IY (oa (.i 7)) 3 0 2 3 (pC 2 5 9 5 bo (lr 0 3 (.i 9)) (js 3 4)) (FJ 27 bZ bo cE (.nt dp qz (lW 4))))
def adf:ak:=
 (jQ (tQ UD))
theorem aq8:aE ayu (fI [⟨0,141,3,[(0,(7,0)),(0,(8,0))],[],[],[]⟩]) 400 af 141=adf:=by kernel_rfl
def UE:ak:=
 (iH dx 1 2 1 3 bo 2 (oF (kj 3 3) .neq (eD 3) lX (vZ 3 bo 2 3 4 (jo 3 bo 2 (xp 3 5 5 2 (xP 141 4 1 (mc 5 2) (sC bV .neq 38 bV aY (.ret bV) lX)))))) qz)
def adg:ak:=
 (jQ UE)
theorem aq9:aE ayu (fI [⟨0,142,2,[(0,(5,0))],[],[],[]⟩]) 400 af 142=adg:=by kernel_rfl
def adh:ak:=
 (rB bZ .geq bZ 5 (xA .leq bZ tL) bT)
theorem aq_:aE ayu (fI []) 400 af 143=adh:=by kernel_rfl
def UF:ak:=
 (iH B8 1 2 1 2 bo 2 (fm 2 4 (lU 4 56 3 F1 (xS 5))) (oY 140 (lz 3) (.nr dS)))
def adi:ak:=
 (qD 6 0 73 0 0 0 0 0 0 (dY 1 UF))
theorem ara:aE ayu (fI [⟨0,144,4,[(0,(3,0)),(0,(5,0))],[(1,3),(1,0)],[],[]⟩]) 400 af 144=adi:=by kernel_rfl
def ahd:ak:=
 (jq 3 0 140 zA (.nr bo))
theorem avk:aE ayu (fI []) 400 af 145=ahd:=by kernel_rfl
def UG:ak:=
 (rT 2 0 1 2 (oH dh dh bo dZ lX) bT)
def adj:ak:=
 (jQ UG)
theorem arb:aE ayu (fI [⟨0,146,2,[(0,(5,0))],[],[],[]⟩]) 400 af 146=adj:=by kernel_rfl
def ahe:ak:=
 (fm 6 0 (Dn 2 40 rP qC (lU 2 40 1 zA vV)))
theorem avl:aE ayu (fI []) 400 af 39=ahe:=by kernel_rfl
def ahf:ak:=
 (aaC 4 (.rws oZ) (rD 491 oZ (iG 0 0 0 0) (lW 1)))
theorem avm:aE ayu (fI []) 400 af 186=ahf:=by kernel_rfl
def alI:List Nat:=[266,24,25,7,69,257,72,26,71,137,70,139,225,145,183,75,76,136,186,140,184,224,138,185,9,28,27,143,77,142,141,74,144,73,146,78,39,95,93,162]
def alJ:List Nat:=[226]
def alK:List Nat:=[201]
def alL:List Nat:=[185]
def arc(l:List Hint):eS:=⟨alI,alJ,alK,l++[],alL⟩
def KY:ak:=
 (sF dx (fO 0) (FR 2 0) (oH (mM 0 2) (eW 0 2) pz (.next 0 (qW lA)) (eA 1 2)) (.next 0 (qW oX)))
def KZ:ak:=
 (iH (ik 3) 4 5 4 4 dS 5 (qo 4 7 (IW 6) (rD 491 xF (iG 7 7 7 7) (js 5 8))) (FU 6))
def K0:ak:=
 (iH (ik 0) 3 4 3 4 dh 4 (qo 4 6 (IW 5) (rD 491 xH (iG 6 6 6 6) (BY 7))) (FU 5))
def UH:ak:=
 (iJ KY (pG (.var 2) (qX pz (rV 0 pz (Cq 184 1 1 1 1 4 KZ))) (Cq 184 1 1 1 1 3 K0)))
def K3:ak:=
 (iH (ik 0) 2 3 2 4 cE 3 (qo 4 5 (IW 4) (rD 491 tI (iG 5 5 5 5) (js 3 6))) (FU 4))
def adk:ak:=
 (oH (kj 4 1) pA eB UH (Cq 184 1 1 1 1 2 K3))
theorem ard:Af ayu (arc [⟨0,185,5,[(0,(6,0))],[(0,3),(0,0)],[(0,21),(0,11)],[]⟩,⟨0,185,1000014,[(0,(14,0))],[],[],[]⟩,⟨1,185015,2,[(1,(5,0))],[],[],[]⟩]) 400 1 185=adk:=by kernel_rfl
end Go.Proofs.YtabefplkfkfdfaaGreat
namespace Go.Ev
section
variable{P:Program}{C:Cr}{Q:IV->Prop}{K K':List (List IV->Prop)}{G:List IV}
def Qm{A:Type}(n:Nat)(e:Nat->A->List IV)(μ:Nat->A->Prop)(i:Nat)(vs:List IV):Prop:=∃a',vs=e (i+1) a'/\i+1<=n/\μ (i+1) a'
theorem Qm.mk{A:Type}{n:Nat}{e:Nat->A->List IV}{μ:Nat->A->Prop}{i:Nat}{vs:List IV}(a':A)(h1:vs=e (i+1) a')(h2:i+1<=n)(h3:μ (i+1) a'):Qm n e μ i vs:=⟨a',h1,h2,h3⟩
theorem az{A:Type}{init:SE}{body:ak}(n:Nat)(e:Nat->A->List IV)(μ:Nat->A->Prop)(a0:A)(Ga:lQ P G init=aa (e 0 a0))(h0:μ 0 a0)
 (h:∀i a,i<=n->μ i a->body.sat P C Q (K++[Qm n e μ i]) (G++e i a)):(ak.loop init body).sat P C Q K G:=
 fz n e μ a0 Ga h0 h
def UI{A:Type}(e:A->List IV)(μ:A->Prop)(I:A->Nat)(a:A)(vs:List IV):Prop:=∃a',vs=e a'/\μ a'/\I a'<I a
theorem UI.mk{A:Type}{e:A->List IV}{μ:A->Prop}{I:A->Nat}{a:A}{vs:List IV}(a':A)(h1:vs=e a')(h2:μ a')(h3:I a'<I a):UI e μ I a vs:=⟨a',h1,h2,h3⟩
theorem eM{A:Type}{init:SE}{body:ak}(e:A->List IV)(μ:A->Prop)(I:A->Nat)(a0:A)(Ga:lQ P G init=aa (e a0))(h0:μ a0)
 (h:∀a,μ a->body.sat P C Q (K++[UI e μ I a]) (G++e a)):(ak.loop init body).sat P C Q K G:=
 HX e μ I a0 Ga h0 h
def AY(p:List IV->Prop)(vs:List IV):Prop:=p vs
theorem fA{a b:ak}{m:Nat}(p:List IV->Prop)(h:a.sat P C Q (K++[AY p]) G)(hb:∀vs,p vs->vs.length=m/\b.sat P C Q K (G++vs)):(ak.BC a m b).sat P C Q K G:=
 aiL p h hb
end
section
variable{P:Program}{C:Cr}{Q:IV->Prop}{K:List (List IV->Prop)}{G:List IV}
def noTwo:ak->Bool
 |.test _ a b|.BC a _ b=>noTwo a&&noTwo b
 |.bind _ k|.aV _ k|.call _ _ _ k|.loop _ k=>noTwo k
 |_=>ab
def ExK(Q:IV->Prop)(K:List (List IV->Prop))(Kz:IV->List (List IV->Prop)):Prop:=
 (∀z,(Kz z).length=K.length)/\∀(lv:Nat) (p:List IV->Prop) (vs:List IV),K[lv]?=aa p->p vs->∃z,Q z/\∃p':List IV->Prop,(Kz z)[lv]?=aa p'/\p' vs
theorem ExK.snoc{Kz:IV->List (List IV->Prop)}{p:List IV->Prop}{q:IV->List IV->Prop}(h:ExK Q K Kz)(hp:∀vs,p vs->∃z,Q z/\q z vs):ExK Q (K++[p]) (λz=>Kz z++[q z]):=by
 refine⟨λz=>by simp[h.1 z],λlv r vs hr db=>?_⟩;by_cases hl:lv<K.length
 .rw[ayK hl]at hr;obtain⟨z,h1,p',h2,h3⟩:=h.2 lv r vs hr db;exact⟨z,h1,p',by rw[ayK (by rw[h.1 z];exact hl)];exact h2,h3⟩
 .have aj:=(ayw.1 hr).1;simp at aj;have:lv=K.length:=ai;subst this;simp at hr;subst hr;obtain⟨z,h1,h2⟩:=hp vs db;exact⟨z,h1,q z,by simp[<-h.1 z],h2⟩
theorem v_:∀(c9:ak),noTwo c9=ab->∀{K:List (List IV->Prop)} {Kz:IV->List (List IV->Prop)} {G:List IV},ExK Q K Kz->c9.sat P C Q K G->∃z,Q z/\c9.sat P C (·=z) (Kz z) G
 |.fail _,_,_,_,_,_,h=>h.elim
 |.bad ..,_,_,_,_,_,h=>h.elim
 |.ret e,_,_,_,_,_,h=>by
  obtain⟨z,h1,h2⟩:=h;exact⟨z,h2,z,h1,rfl⟩
 |.test e a b,hn,_,_,_,hK,h=>by
  simp only[noTwo,ayz]at hn;rcases h with⟨h1,h2⟩|⟨h1,h2⟩
  .obtain⟨z,g1,g2⟩:=v_ a hn.1 hK h2;exact⟨z,g1,.inl ⟨h1,g2⟩⟩
  .obtain⟨z,g1,g2⟩:=v_ b hn.2 hK h2;exact⟨z,g1,.inr ⟨h1,g2⟩⟩
 |.bind e k,hn,_,_,_,hK,h=>by
  obtain⟨y,h1,h2⟩:=h;obtain⟨z,g1,g2⟩:=v_ k hn hK h2;exact⟨z,g1,y,h1,g2⟩
 |.aV e k,hn,_,_,_,hK,h=>by
  obtain⟨z,g1,g2⟩:=v_ k hn hK h.2;exact⟨z,g1,h.1,g2⟩
 |.call f new e k,hn,_,_,_,hK,h=>by
  obtain⟨xs,y,h1,h2,h3⟩:=h;obtain⟨z,g1,g2⟩:=v_ k hn hK h3;exact⟨z,g1,xs,y,h1,h2,g2⟩
 |.next lv e,_,K,Kz,_,hK,h=>by
  obtain⟨vs,p,h1,h2,h3⟩:=h;obtain⟨z,g1,p',g2,g3⟩:=hK.2 lv p vs h2 h3;exact⟨z,g1,vs,p',h1,g2,g3⟩
 |.BC a m b,hn,K,Kz,G,hK,h=>by
  simp only[noTwo,ayz]at hn
  exact v_ a hn.1 (Kz:=λz=>Kz z++[λvs=>vs.length=m/\b.sat P C (·=z) (Kz z) (G++vs)]) (hK.snoc λvs db=>by
   obtain⟨z,g1,g2⟩:=v_ b hn.2 hK db.2;exact⟨z,g1,db.1,g2⟩) h
 |.loop i b,hn,K,Kz,G,hK,h=>by
  obtain⟨vs,h1,m,hm⟩:=h
  have key:∀(m:Nat) (vs:List IV),(aBO (motive:=λ_=>List IV->Prop) (λ_=>False) (λ_ ih vs=>b.sat P C Q (K++[ih]) (G++vs)) m) vs->
   ∃z,Q z/\(aBO (motive:=λ_=>List IV->Prop) (λ_=>False) (λ_ ih vs=>b.sat P C (·=z) (Kz z++[ih]) (G++vs)) m) vs:=by
   intro m;induction m with
   |zero=>intro vs h;exact h.elim
   |succ m ih=>
    intro vs h;exact v_ b hn (Kz:=λz=>Kz z++[aBO (motive:=λ_=>List IV->Prop) (λ_=>False) (λ_ ih vs=>b.sat P C (·=z) (Kz z++[ih]) (G++vs)) m]) (hK.snoc ih) h
  obtain⟨z,g1,g2⟩:=key m vs hm;exact⟨z,g1,vs,h1,m,g2⟩
theorem K4{c9:ak}(hn:noTwo c9=ab)(h:c9.sat P C Q [] G):∃z,Q z/\c9.sat P C (·=z) [] G:=
 v_ c9 hn (Kz:=λ_=>[]) ⟨λ_=>rfl,λ_ _ _ h=>by simp at h⟩ h
end
end Go.Ev
namespace Go.Proofs.YtabefplkfkfdfaaGreat
open Go Go.Ev
section
def isB(z:IV):Prop:=∃b:Bool,z=iB b
def isI(z:IV):Prop:=∃n:Int,z=iI n
@[simp] theorem axz(b:Bool):isB (iB b):=⟨b,rfl⟩
@[simp] theorem axA(n:Int):isI (iI n):=⟨n,rfl⟩
variable{n:Nat}{new:Bool}{f:FuncId}{c9:ak}{args:List IV}{cfg:eS}
theorem CC.Qn{Q:IV->Prop}(he:aE ayu cfg n new f=c9)(hl:(ayu.funcs[f]?).map (·.params.size)=aa args.length)(ht:∀z,Q z->mK ayu f z=ab)(hp:∀x∈args,Pure x)(hz:∀z,Q z->Pure z)(hn:noTwo c9=ab)
 (hs:c9.sat ayu CC Q [] args):∃z,Q z/\CC f new args z:=by
 obtain⟨z,h1,h2⟩:=K4 hn hs;exact⟨z,h1,CC.of he hl (ht z h1) hp (hz z h1) h2⟩
def Gc(p:Bool->Prop)(z:IV):Prop:=∃b:Bool,z=iB b/\p b
@[simp] theorem axp(p:Bool->Prop)(b:Bool):Gc p (iB b)↔p b:=⟨λ⟨b',h1,h2⟩=>by cases h1;exact h2,λh=>⟨b,rfl,h⟩⟩
theorem CC.Cv(p:Bool->Prop)(he:aE ayu cfg n new f=c9)(hl:(ayu.funcs[f]?).map (·.params.size)=aa args.length)(ht:∀z,mK ayu f z=ab)(hp:∀x∈args,Pure x)(hn:noTwo c9=ab)
 (hs:c9.sat ayu CC (Gc p) [] args):∃b,p b/\CC f new args (iB b):=by
 obtain⟨z,⟨b,rfl,hb⟩,h2⟩:=CC.Qn he hl (λz _=>ht z) hp (by rintro _ ⟨b,rfl,_⟩;exact .raw _) hn hs;exact⟨b,hb,h2⟩
abbrev qF(c:Int):IV:=.raw (.int .u8 c)
@[simp] theorem axZ(t:TypeId)(a b:Int):cO ayu .lss t (qF a) (qF b)=aa (iB (decide (a<b))):=rfl
@[simp] theorem ax0(t:TypeId)(a b:Int):cO ayu .gtr t (qF a) (qF b)=aa (iB (decide (a>b))):=rfl
@[simp] theorem ax1(t:TypeId)(a b:Int):cO ayu .leq t (qF a) (qF b)=aa (iB (decide (a<=b))):=rfl
@[simp] theorem ax2(t:TypeId)(a b:Int):cO ayu .geq t (qF a) (qF b)=aa (iB (decide (a≥b))):=rfl
@[simp] theorem ax3(t:TypeId)(a b:Int):cO ayu .neq t (qF a) (qF b)=aa (iB (a !=b)):=rfl
@[simp] theorem ax4(t:TypeId)(a b:List UInt8):cO ayu .eql t (iS a) (iS b)=aa (iB (a==b)):=by
  show aa (IV.bool (a.toArray.toList==b.toArray.toList))=_;simp
@[simp] theorem alM(l:List UInt8):z8 (iS l)=aa (iI l.length):=by
  simp[z8,aBl]
@[simp] theorem axq{e i:SE}{G:List IV}{l:List UInt8}{k:Nat}{c:UInt8}(he:e.den ayu G=aa (iS l))(hi:i.den ayu G=aa (iI (k:Nat)))(hc:l[k]?=aa c):(SE.JE e i).den ayu G=aa (qF (c.toNat:Int)):=by
  simp[SE.den,he,hi,hc]
end
def Gd(n:Int):List Int->Nat->Int
 |[],_=> -1
 |x::l,i=>if n=x then i else Gd n l (i+1)
theorem UJ(n:Int):∀(l:List Int) (i:Nat),decide (0<=Gd n l i)=l.contains n
 |[],_=>rfl
 |x::l,i=>by
  by_cases h:n=x
  .simp[Gd,h]
  .have:=UJ n l (i+1);simp[Gd,h]at this⊢;exact this
theorem avn(l:List Int)(n:Int)(hl:Sm l):CC 162 af [iL l,iI n] (iI (Gd n l 0)):=by
 refine CC.of aqf kr kr ax ax ?_;simp[acA,SE.den];refine fz l.length (λi (_:Unit)=>[iI i]) (λi _=>Gd n l 0=Gd n (l.drop i) i) () ?_ ?_ λi _ hi hI=>?_
 .simp[SE.den]
 .simp
 by_cases aj:i<l.length
 .rw[ay5 aj]at hI;have hw:=aD aj hl;simp[SE.den,aj,hw];by_cases h:n=l[i]
  .left;exact⟨h,by rw[hI];simp[Gd,h]⟩
  .right;simp[h,hI,Gd];omega
 .simp[SE.den,aj];rw[hI,ay3 ai];rfl
def Tm.k:Tm->Int|.mk k _ _ _=>k
def Tm.n:Tm->Int|.mk _ n _ _=>n
def Tm.s:Tm->List UInt8|.mk _ _ s _=>s
def Tm.ts:Tm->List Tm|.mk _ _ _ ts=>ts
theorem bp(t:Tm):dm t=.agg [iI t.k,iI t.n,iS t.s,iT t.ts]:=by cases t;exact w8 _ _ _ _
def Om(a b:Int):Int:=if a<b then-1 else if b<a then 1 else 0
def alN(a b:List UInt8):Int:=if aAF a b then-1 else if a=b then 0 else 1
def rk(k:Int):Int:=if k=1 then 0 else if k=0 then 1 else if k=2 then 2 else 3
def Yd(x y:Int):Int:=if x=0 then y else x
mutual
def avo:Tm->Tm->Int
 |.mk k n s ts,u=>Yd (Om (rk k) (rk u.k)) (if rk k=0 then Om n u.n else if rk k=1 then Om n u.n else if rk k=2 then Yd (Om ts.length u.ts.length) (Yd (alN s u.s) (cmpL ts u.ts))else Yd (Om k u.k) (Yd (Om n u.n) (alN s u.s)))
def cmpL:List Tm->List Tm->Int
 |[],_=>0
 |t::l,m=>match m with
  |[]=>0
  |u::m=>Yd (avo t u) (cmpL l m)
end
mutual
def mZ:Tm->Prop
 |.mk _ _ _ ts=>Sm ts/\UK ts
def UK:List Tm->Prop
 |[]=>True
 |t::l=>mZ t/\UK l
end
theorem UL:∀l:List Tm,UK l↔∀t∈l,mZ t
 |[]=>by simp[UK]
 |t::l=>by simp[UK,UL l]
theorem rW(t:Tm):mZ t↔Sm t.ts/\∀u∈t.ts,mZ u:=by cases t;simp[mZ,UL,Tm.ts]
def WfA(a:At):Prop:=Sm a.ts/\∀t∈a.ts,mZ t
def WfF(f:Fa):Prop:=WfA f.a/\Sm f.j
def WfP(x:Ap):Prop:=Sm x.aaL/\Sm x.gone/\Sm x.made/\Sm x.afp
structure WfM(m:Me):Prop where
 sf:Sm m.facts
 sp:Sm m.past
 sl:Sm m.log
 f:∀x∈m.facts,WfF x
 p:∀x∈m.past,WfF x
 l:∀x∈m.log,WfP x
theorem avp{l:List At}{i:Nat}(h:i<l.length):cz 2 (dr l) (iI (i:Nat))=aa (jL l[i]):=ef (by simp[h]) rfl
theorem ku{l:List Tm}{i:Nat}(h:i<l.length):cz 4 (iT l) (iI (i:Nat))=aa (dm l[i]):=ef (by simp[h]) (by rw[bp];rfl)
def b_(t:Tm):List Tm:=if t.k=2 then t.ts else[]
theorem aaV(t:Tm):CC 184 af [dm t] (iT (b_ t)):=by
 refine CC.of aqg kr kr (by simp[kU]) ax ?_;simp[acB,SE.den,bp,ao,b_];by_cases h:t.k=2
 .left;simp[h]
 .right;simp[h]
mutual
def rX:Tm->Int
 |.mk k _ _ ts=>if k=2 then wa 1 ts else 1
def wa:Int->List Tm->Int
 |acc,[]=>acc
 |acc,t::l=>wa (ay1.wrap (acc+rX t)) l
end
theorem UM(t:Tm):rX t=wa 1 (b_ t):=by
 obtain⟨k,n,s,ts⟩:=t;show rX (.mk k n s ts)=wa 1 (if k=2 then ts else[]);by_cases hk:k=2<;>simp[rX,hk,wa]
theorem q0{t u:Tm}(h:u∈b_ t):u∈t.ts:=by
 unfold b_ at h;split at h
 .exact h
 .simp at h
theorem f158(t:Tm)(hl:Sm t.ts)(hc:∀u∈t.ts,CC 136 af [dm u] (iI (rX u))):CC 136 af [dm t] (iI (rX t)):=by
 refine CC.of aqh kr kr (by simp[kU]) ax ?_;have h:=aaV t;rw[bp]at h;simp[acC,SE.den,bp,ao];refine⟨_,h,?_⟩;simp;have fF:(b_ t).length<=9223372036854775807:=by unfold b_;split<;>simp_all
 refine fz (b_ t).length (λi (a:Int)=>[iI i,iI a]) (λi a=>rX t=wa a ((b_ t).drop i)) 1 ?_ ?_ λi a hi hI=>?_
 .simp[SE.den]
 .simp[UM]
 by_cases aj:i<(b_ t).length
 .rw[ay5 aj,wa]at hI;have hw:=aD aj fF;have hm:(b_ t)[i]∈t.ts:=q0 (ayy aj);have h3:=hc _ hm;rw[bp]at h3;simp[SE.den,aj,hw,ku aj,bp,ao];refine⟨_,h3,?_⟩;simp;exact⟨by omega,hI⟩
 .simp[SE.den,aj];rw[hI,ay3 ai,wa]
theorem aaW:∀t:Tm,mZ t->CC 136 af [dm t] (iI (rX t))
 |.mk k n s ts,hw=>f158 _ ((rW _).1 hw).1 λu hu=>aaW u (((rW _).1 hw).2 u hu)
 decreasing_by simp[Tm.ts]at hu;have:=azB hu;simp;omega
def MM:Int->List Tm->Bool
 |_,[]=>ab
 |acc,t::l=>if 60<ay1.wrap (acc+rX t)then af else MM (ay1.wrap (acc+rX t)) l
def Cw(l:List Tm):Bool:=if 8<l.length then af else MM 0 l
theorem alO(l:List Tm)(hw:∀t∈l,mZ t):CC 69 af [iT l] (iB (Cw l)):=by
 refine CC.of aqi kr kr ax ax ?_;simp[acD,SE.den];by_cases h8:8<l.length
 .left;exact⟨by omega,by simp[Cw,h8]⟩
 right;refine⟨by omega,?_⟩;refine fz l.length (λi (a:Int)=>[iI i,iI a]) (λi a=>Cw l=MM a (l.drop i)) 0 ?_ ?_ λi a hi hI=>?_
 .simp[SE.den]
 .simp[Cw,h8]
 by_cases aj:i<l.length
 .rw[ay5 aj,MM]at hI;have mE:=aD aj ai;have h3:=aaW l[i] (hw _ (ayy aj));rw[bp]at h3;simp[SE.den,aj,mE,ku aj,bp,ao];refine⟨_,h3,?_⟩;simp;by_cases hs:60<ay1.wrap (a+rX l[i])
  .left;exact⟨hs,by rw[hI,if_pos hs]⟩
  .right;exact⟨by omega,by omega,by rw[hI,if_neg hs]⟩
 .simp[SE.den,aj];rw[hI,ay3 ai,MM]
mutual
def ou:Tm->Prop
 |.mk _ _ s ts=>Sm s/\Sm ts/\UN ts
def UN:List Tm->Prop
 |[]=>True
 |t::l=>ou t/\UN l
end
theorem UO:∀l:List Tm,UN l↔∀t∈l,ou t
 |[]=>by simp[UN]
 |t::l=>by simp[UN,UO l]
theorem o5(t:Tm):ou t↔Sm t.s/\Sm t.ts/\∀u∈t.ts,ou u:=by cases t;simp[ou,UO,Tm.ts,Tm.s]
theorem ou.wf:∀t:Tm,ou t->mZ t
 |.mk k n s ts,h=>(rW _).2 ⟨((o5 _).1 h).2.1,λu hu=>ou.wf u (((o5 _).1 h).2.2 u hu)⟩
 decreasing_by simp[Tm.ts]at hu;have:=azB hu;simp;omega
mutual
def dA:Tm->Prop
 |.mk k n _ ts=>(k=1->0<=n/\n<=1048576)/\(k=2->HY ts)
def HY:List Tm->Prop
 |[]=>True
 |t::l=>dA t/\HY l
end
theorem MN:∀l:List Tm,HY l↔∀t∈l,dA t
 |[]=>by simp[HY]
 |t::l=>by simp[HY,MN l]
theorem Cy(t:Tm):dA t↔(t.k=1->0<=t.n/\t.n<=1048576)/\(t.k=2->∀u∈t.ts,dA u):=by cases t;simp[dA,MN,Tm.ts,Tm.k,Tm.n]
theorem adl{t u:Tm}(h:dA t)(hu:u∈b_ t):dA u:=by
 unfold b_ at hu;split at hu
 .exact((Cy t).1 h).2 (by assumption) u hu
 .simp at hu
theorem aO{O:Type}{p:O->Prop}{l:List O}{i:Nat}(h:i<l.length)(h1:∀u∈l.take i,p u)(h2:p l[i]):∀u∈l.take (i+1),p u:=by
 intro u hu;rw[List.take_succ_eq_append_getElem h]at hu;rcases List.mem_append.1 hu with hu|hu
 .exact h1 u hu
 .simp at hu;subst hu;exact h2
theorem aU{O:Type}{p:O->Prop}{l:List O}{i:Nat}(h:¬i<l.length)(h1:∀u∈l.take i,p u):∀u∈l,p u:=by
 rwa[List.take_of_length_le ai]at h1
structure Gl where
 op:Int
 s:List UInt8
 ts:List Tm
structure Rl where
 name:List UInt8
 aq:List At
 av:List At
 aw:List Gl
 aI:List Gl
 vars:Int
structure De where
 s:List UInt8
 n:Int
structure Pg where
 eN:List De
 bc:List Rl
def uj(g:Gl):IV:=.agg [iI g.op,iS g.s,iT g.ts]
abbrev iX(l:List Gl):IV:=.tree 3 (l.map uj)
def bP(r:Rl):IV:=.agg [iS r.name,dr r.aq,dr r.av,iX r.aw,iX r.aI,iI r.vars]
abbrev jF(l:List Rl):IV:=.tree 6 (l.map bP)
def UP(d:De):IV:=.agg [iS d.s,iI d.n]
abbrev dO(l:List De):IV:=.tree 2 (l.map UP)
def aW(p:Pg):IV:=.agg [dO p.eN,jF p.bc]
theorem Cz(a:Gl):Pure (uj a):=.agg _ ax
@[simp] theorem afx(l:List Gl):Pure (iX l):=kV 3 uj (λa=>⟨_,rfl,by simp⟩) l
theorem fv(a:Rl):Pure (bP a):=.agg _ ax
@[simp] theorem avq(l:List Rl):Pure (jF l):=kV 6 bP (λa=>⟨_,rfl,by simp⟩) l
@[simp] theorem K5(l:List De):Pure (dO l):=kV 2 UP (λa=>⟨_,rfl,by simp⟩) l
theorem eO(a:Pg):Pure (aW a):=.agg _ ax
def s9(a:At):Prop:=Sm a.s/\Sm a.ts/\∀t∈a.ts,ou t
def s_(a:Gl):Prop:=Sm a.s/\Sm a.ts/\∀t∈a.ts,ou t
def lK(op:Int):Int:=if op=1\/op=2 then 0 else if op=11\/op=12 then 1 else if 2<op/\op<11 then 2 else-1
theorem avr(op:Int):CC 139 af [iI op] (iI (lK op)):=by
 refine CC.of aq4 kr kr ax ax ?_;simp[ada,SE.den,lK]
 grind
theorem wb{l:List De}{i:Nat}(h:i<l.length):cz 2 (dO l) (iI (i:Nat))=aa (.agg [iS l[i].s,iI l[i].n]):=ef (by simp[h,UP]) rfl
theorem gJ{l:List Gl}{i:Nat}(h:i<l.length):cz 3 (iX l) (iI (i:Nat))=aa (.agg [iI l[i].op,iS l[i].s,iT l[i].ts]):=ef (by simp[h,uj]) rfl
structure Names:Prop where
 right:∀s:List UInt8,Sm s->∃b,CC 154 af [iS s] (iB b)
 oper:∀s:List UInt8,Sm s->∃b,CC 268 af [iS s] (iB b)
theorem eE:ayu.funcs.size=306:=by kernel_rfl
end Go.Proofs.YtabefplkfkfdfaaGreat
namespace Go.Proofs.YtabefplkfkfdfaaGreat
open Go.Shelf
def Tryz.Wz:Go.Shelf.Ren:=⟨λ|144=>280|143=>281|219=>282|217=>283|225=>284|224=>285|267=>286|266=>287|314=>288|n=>n,λ|9=>9|4=>4|3=>3|5=>5|46=>33|146=>298|51=>267|n=>n,λ|1=>0|n=>n⟩
theorem Tryz.aiQ:aDT ayu Tryz.Wz:={
 mixed:=by kernel_rfl
 f143:=Tryz.func281.trans (congrArg aa (by kernel_rfl))
 f144:=Tryz.func280.trans (congrArg aa (by kernel_rfl))
 f217:=Tryz.func283.trans (congrArg aa (by kernel_rfl))
 f219:=Tryz.func282.trans (congrArg aa (by kernel_rfl))
 f224:=Tryz.func285.trans (congrArg aa (by kernel_rfl))
 f225:=Tryz.func284.trans (congrArg aa (by kernel_rfl))
 f266:=Tryz.func287.trans (congrArg aa (by kernel_rfl))
 f267:=Tryz.func286.trans (congrArg aa (by kernel_rfl))
 f314:=Tryz.func288.trans (congrArg aa (by kernel_rfl))
 t3:=Tryz.underlying3
 a3:=Tryz.isAgg3
 z3:=Tryz.sizeOf3
 v3:=Tryz.zeroValue3
 t4:=Tryz.underlying4
 a4:=Tryz.isAgg4
 z4:=Tryz.sizeOf4
 v4:=Tryz.zeroValue4
 t5:=Tryz.underlying5
 a5:=Tryz.isAgg5
 z5:=Tryz.sizeOf5
 v5:=Tryz.zeroValue5
 t9:=Tryz.underlying9
 a9:=Tryz.isAgg9
 z9:=Tryz.sizeOf9
 v9:=Tryz.zeroValue9
 t46:=Tryz.underlying33
 a46:=Tryz.isAgg33
 z46:=Tryz.sizeOf33
 v46:=Tryz.zeroValue33
 t51:=Tryz.underlying267
 a51:=Tryz.isAgg267
 z51:=Tryz.sizeOf267
 v51:=Tryz.zeroValue267
 t146:=Tryz.underlying298
 a146:=Tryz.isAgg298
 z146:=Tryz.sizeOf298
 v146:=Tryz.zeroValue298
 g1:=by kernel_rfl}
open Go.RowKit Go.Lib in
theorem Tryz.strings_Contains_one(s:ByteArray)(c:UInt8)(w:World):
 Calls ayu 280 #[.string s,.string ⟨#[c]⟩] w λe w'=>e=.returned (.bool (decide (0<=aBK s.data.toList c)))/\w'=w:=Any.strings_Contains_one Tryz.aiQ s c w
open Go.Ev in
theorem avs(s:List UInt8)(c:UInt8):dX ayu af af 280 [.raw (.string ⟨s.toArray⟩),.raw (.string ⟨#[c]⟩)] (.raw (.bool (decide (0<=aBK s c)))):=by
 intro M w us hM yW
 have avt:us=[.string ⟨s.toArray⟩,.string ⟨#[c]⟩]:=by
  obtain⟨hl,hr⟩:=yW
  match us,hl with
  |[a,b],_=>
   have h1:=hr 0 _ a rfl rfl;have h2:=hr 1 _ b rfl rfl;cases h1;cases h2;rfl
 subst avt;refine(callsIn_wide.2 (Tryz.strings_Contains_one ⟨s.toArray⟩ c w)).mono ?_;rintro e w' ⟨rfl,rfl⟩;exact⟨rfl,M,hM,λb c h=>.inl ⟨rfl,h⟩,λ_ b c h=>h,.raw _,rfl,rfl,rfl,ayA _,λ_ _=>rfl⟩
end Go.Proofs.YtabefplkfkfdfaaGreat
namespace Go.Proofs.YtabefplkfkfdfaaGreat
open Go Go.Ev
@[simp] theorem ax5(t:TypeId)(a b:Int):cO ayu .eql t (qF a) (qF b)=aa (iB (a==b)):=rfl
@[simp] theorem ax6(t:TypeId)(a b:Int):cO ayu .gtr t (.raw (.int .i32 a)) (.raw (.int .i32 b))=aa (iB (decide (a>b))):=rfl
@[simp] theorem ax7(g:Int):Fb ayu 21 5 (.raw (.int .i32 g))=aa (qF (aDK.wrap g)):=by kernel_rfl
theorem u4:ayu.underlying 4=aa .bool:=by kernel_rfl
@[simp] theorem axB(a b:Bool):cO ayu .eql 4 (iB a) (iB b)=aa (iB (a==b)):=agM _ 4 u4 a b
@[simp] theorem ax8(l:List UInt8)(p:Nat):iO 0 (iS l) (iI (p:Nat))=aa (iB (decide (p<l.length))):=by simp[iO,aBl]
@[simp] theorem ax9(l:List UInt8)(p:Nat):iO 1 (iS l) (iI (p:Nat))=aa (.raw (.int .i32 (az_ ⟨l.toArray⟩ p).1)):=by simp[iO]
@[simp] theorem ax_(l:List UInt8)(p:Nat):iO 2 (iS l) (iI (p:Nat))=aa (iI ((p+(az_ ⟨l.toArray⟩ p).2:Nat):Int)):=by simp[iO]
section
variable{n:Nat}{new:Bool}{f:FuncId}{c9:ak}{args:List IV}{cfg:eS}
theorem CC.dJ{s:Bool}(he:aE ayu cfg n new f=c9)(hl:(ayu.funcs[f]?).map (·.params.size)=aa args.length)(ht:∀z,mK ayu f z=ab)(hp:∀x∈args,Pure x)(hn:noTwo c9=ab)
 (hs:c9.sat ayu CC (Gc (·=s)) [] args):CC f new args (iB s):=by
 obtain⟨b,rfl,h⟩:=CC.Cv (·=s) he hl ht hp hn hs;exact h
def q7(c:Int):Bool:=decide (97<=c/\c<=122)
def Dr(c:Int):Bool:=decide (65<=c/\c<=90)
def oe(c:Int):Bool:=q7 c||Dr c||decide (48<=c/\c<=57)||decide (c=95)
def HZ(s:List UInt8):Bool:=s==[99,111,110,115,116,114,97,105,110,116]||s==[116,114,117,101]||s==[102,97,105,108]||s==[105,115]||s==[105,110,116]||s==[103,114,111,117,110,100]
def tR(s:List UInt8):Bool:=s==[43]||s==[45]||s==[42]||s==[47]||s==[37]
def xU(s:List UInt8):Bool:=s.all (λc=>oe c.toNat)&&(decide (1<=s.length)&&decide (s.length<=40))
def gQ(s:List UInt8):Bool:=xU s&&q7 ((s.headD 0).toNat:Int)&& !HZ s
theorem v148(c:Int):CC 71 af [qF c] (iB (q7 c)):=by
 refine CC.dJ aqT kr (λ_=>kr) ax (by rfl) ?_;simp[ac0,SE.den,q7];omega
theorem v198(c:Int):CC 137 af [qF c] (iB (Dr c)):=by
 refine CC.dJ aqU kr (λ_=>kr) ax (by rfl) ?_;simp[ac1,SE.den,Dr];omega
theorem avu(c:List UInt8):CC 72 af [iS c] (iB (HZ c)):=by
 refine CC.dJ aqV kr (λ_=>kr) ax (by rfl) ?_;simp[ac2,SE.den,HZ]
 grind
theorem avv(c:List UInt8):CC 257 af [iS c] (iB (tR c)):=by
 refine CC.dJ aq1 kr (λ_=>kr) ax (by rfl) ?_;simp[ac8,SE.den,tR]
 grind
theorem aiR(c:Int):oe c=ab↔q7 c=ab\/Dr c=ab\/(48<=c/\c<=57)\/c=95:=by simp[oe,or_assoc]
theorem avw(c:List UInt8)(hc:Sm c):CC 70 af [iS c] (iB (xU c)):=by
 refine CC.dJ aqS kr (λ_=>kr) ax (by rfl) ?_;simp[acZ,Ur,SE.den];refine fz c.length (λi (_:Unit)=>[iI i]) (λi _=>∀u∈c.take i,oe u.toNat=ab) () ?_ ?_ λi _ hi hI=>?_
 .simp[SE.den]
 .simp
 by_cases aj:i<c.length
 .have hw:=aD aj hc;have h1:=v148 c[i].toNat;have h2:=v198 c[i].toNat
  have cS:¬oe c[i].toNat=ab->xU c=af:=λh=>by
   unfold xU;rw[Bool.and_eq_false_iff];left;rw[aC4];exact⟨c[i],ayy aj,by simpa using h⟩
  have UQ:=λh=>aO (p:=λu:UInt8=>oe u.toNat=ab) aj hI h;rw[aiR]at cS UQ;simp[SE.den,aj,hw];refine⟨_,h1,?_⟩;cases da:q7 c[i].toNat with
  |true=>simp;exact⟨by omega,UQ (.inl da)⟩
  |false=>
   simp;refine⟨_,h2,?_⟩;cases eR:Dr c[i].toNat with
   |true=>simp;exact⟨by omega,UQ (.inr (.inl eR))⟩
   |false=>
    simp[da,eR]at UQ cS⊢;have cX:i+1<=c.length:=ai;generalize(∀u∈c.take (i+1),oe u.toNat=ab)=A at UQ⊢;have GB:i+1<=c.length/\A↔A:=by simp[cX]
    grind
 .have:=aU aj hI;simp[SE.den,aj,xU];have ha:(c.all λc=>oe c.toNat)=ab:=by simpa using this
  simp only[ha,Bool.true_and];by_cases h1:1<=c.length
  .left;refine⟨by omega,?_⟩;simp[h1];omega
  .right;exact⟨by omega,λ_ h=>absurd h h1⟩
theorem adm{c:List UInt8}(h:xU c=ab):0<c.length:=by
 simp[xU]at h;omega
theorem v89(c:List UInt8)(hc:Sm c):CC 26 af [iS c] (iB (gQ c)):=by
 refine CC.dJ avg kr (λ_=>kr) ax (by rfl) ?_;have h1:=avw c hc;have h3:=avu c;simp[ag_,SE.den];refine⟨_,h1,?_⟩;cases hw:xU c with
 |false=>simp[gQ,hw]
 |true=>
  have hl:=adm hw;have h2:=v148 c[0].toNat;have h0:c.headD 0=c[0]:=by cases c with|nil=>simp at hl|cons=>rfl
  have hn:gQ c=(xU c&&q7 c[0].toNat&& !HZ c):=by rw[<-h0];rfl
  rw[hn];simp[hl];refine⟨_,h2,?_⟩;cases hb:q7 c[0].toNat with
  |false=>simp
  |true=>
   simp;exact⟨_,h3,by simp[hw]⟩
theorem avx(s:List UInt8):CC 192 af [iS s] (iB (HZ s)):=by
 refine CC.dJ aqN kr (λ_=>kr) ax (by rfl) ?_;simp[acU,SE.den,HZ]
 grind (splits:=40)
def Ge(c:Int):Int:=if q7 c then 1 else if Dr c||decide (c=95)then 2 else if decide (48<=c/\c<=57)then 4 else 0
theorem alP(c:Int):CC 227 af [qF c] (qF (Ge c)):=by
 refine CC.of aqM kr kr ax ax ?_;simp[acT,SE.den,Ge,q7,Dr]
 grind (splits:=40)
theorem avy(s:List UInt8):CC 268 af [iS s] (iB (tR s)):=by
 refine CC.dJ aqO kr (λ_=>kr) ax (by rfl) ?_;simp[acV,SE.den]
 match s with
 |[c]=>
  have hb:CC 280 af [iS [43,45,42,47,37],iS [c]] (.raw (.bool (decide (0<=aBK [43,45,42,47,37] c)))):=CC.plain (by rw[eE];decide) (avs _ c) (.raw _) kr;left;refine⟨by simp,_,hb,?_⟩;have i43:=Lib.indexByte_ge;simp[tR,aBK];by_cases h1:c=43
  .simp[h1]
  by_cases h2:c=45
  .simp[h2]
  by_cases h3:c=42
  .simp[h3]
  by_cases h4:c=47
  .simp[h4]
  by_cases h5:c=37
  .simp[h5]
  simp[h1,h2,h3,h4,h5,aCs h1,aCs h2,aCs h3,aCs h4,aCs h5]
 |[]=>right;simp[tR]
 |_::_::_=>right;simp[tR];omega
theorem aiS(c:Int):cO ayu .and 223 (qF (Ge c)) (qF 7)=aa (qF (Ge c)):=by
 unfold Ge;split
 .rfl
 split
 .rfl
 split<;>rfl
theorem afy(c:Int):cO ayu .and 223 (qF (Ge c)) (qF 1)=aa (qF (if q7 c then 1 else 0)):=by
 unfold Ge;split
 .rfl
 split
 .rfl
 split<;>rfl
theorem are(c:Int):Ge c=0↔oe c=af:=by
 unfold Ge oe;cases q7 c<;>cases Dr c<;>simp
 grind
theorem MO(c:UInt8)(s:List UInt8):gQ (c::s)=(q7 c.toNat&&decide (s.length<=39)&&s.all (λc=>oe c.toNat)&& !HZ (c::s)):=by
 unfold gQ xU;cases h:q7 c.toNat with
 |false=>simp[h]
 |true=>
  have:oe c.toNat=ab:=by simp[oe,h]
  simp[h,this,Bool.and_comm]
theorem v83(s:List UInt8):CC 154 af [iS s] (iB (gQ s)):=by
 refine CC.dJ avd kr (λ_=>kr) ax (by rfl) ?_;have hr:=avx s;cases s with
 |nil=>simp[aaT,SE.den];rfl
 |cons c s'=>
  have ha:=alP (c.toNat:Int);simp[aaT,SE.den];by_cases h1:(40:Int)<s'.length+1
  .left;refine⟨h1,?_⟩;rw[MO];simp;omega
  right;refine⟨by omega,_,ha,?_⟩;simp[afy];have hl:(decide (s'.length<=39))=ab:=by simp;omega
  rw[MO,hl];cases h2:q7 c.toNat with
  |false=>simp
  |true=>
  simp;refine⟨iS s',?_,⟨_,alM s'⟩,?_⟩
  .have e1:((s'.length:Int)+1).toNat- 1=s'.length:=ai;simp[ie,aBl];omega
  unfold X7;refine HX (λp:Nat=>[.aL [iS s',iI p]]) (λp=>p<=s'.length/\∀u∈s'.take p,oe u.toNat=ab) (λp=>s'.length- p) 0 ?_ ax λp ⟨hp0,hI⟩=>?_
  .simp[SE.den]
  by_cases hp:p<s'.length
  .have lG:p<(⟨s'.toArray⟩:ByteArray).size:=by simpa[aBl]using hp
   have pM:((⟨s'.toArray⟩:ByteArray)[p]'lG)=s'[p]:=by simp[aD1]
   have hn:¬((p:Int)<0):=ai;have cS:oe s'[p].toNat=af->(∀x∈s',oe x.toNat=ab)->HZ (c::s')=ab:=λh ha=>absurd (ha _ (ayy hp)) (by simp[h]);by_cases avz:s'[p].toNat<128
   .have On:=decode_ascii ⟨s'.toArray⟩ p lG (by rw[pM];exact avz);rw[pM]at On;have yw:=alP (s'[p].toNat:Int)
    have mE:aDK.wrap (s'[p].toNat:Int)=s'[p].toNat:=by
     simp only[aC2,aC3,aCL];simp;omega
    simp[SE.den,hp,On,hn,mE];by_cases TE:122<(s'[p].toNat:Int)
    .left;exact⟨TE,cS (by simp[oe,q7,Dr];omega)⟩
    right;refine⟨by omega,_,yw,?_⟩;simp[aiS,are];cases hc:oe s'[p].toNat with
    |false=>simp;exact cS hc
    |true=>simp;exact⟨p+1,by omega,⟨by omega,aO (p:=λu:UInt8=>oe u.toNat=ab) hp hI hc⟩,by omega⟩
   .obtain⟨wu,uG⟩:=decode_high ⟨s'.toArray⟩ p lG (by rw[pM];omega);generalize On:az_ ⟨s'.toArray⟩ p=dd at wu uG;obtain⟨rn,w⟩:=dd;simp only at wu uG;simp[SE.den,hp,On,hn];left;exact⟨by omega,cS (by simp[oe,q7,Dr];omega)⟩
  .have:=aU hp hI;have ha:(s'.all λc=>oe c.toNat)=ab:=by simpa using this
   simp[SE.den,hp];exact⟨_,hr,by simp[ha]⟩
end
mutual
def ey:Tm->Bool
 |.mk k n s ts=>if k=0 then decide (-2147483648<=n)&&decide (n<=2147483648)&&s.isEmpty&&ts.isEmpty
  else if k=1 then decide (0<=n)&&decide (n<=1048576)&&s.isEmpty&&ts.isEmpty
  else if k=2 then decide (n=0)&&((tR s&&decide (ts.length=2))||(gQ s&&decide (ts.length<=6)))&&Ek ts
  else af
def Ek:List Tm->Bool
 |[]=>ab
 |t::l=>ey t&&Ek l
end
theorem zI:∀l:List Tm,Ek l=l.all ey
 |[]=>rfl
 |t::l=>by simp[Ek,zI l]
theorem Ye{t:Tm}(h:t.k=0):ey t=(decide (-2147483648<=t.n)&&decide (t.n<=2147483648)&&t.s.isEmpty&&t.ts.isEmpty):=by
 cases t;simp[Tm.k]at h;subst h;simp[ey,Tm.n,Tm.s,Tm.ts];rfl
theorem Oo{t:Tm}(h:t.k=1):ey t=(decide (0<=t.n)&&decide (t.n<=1048576)&&t.s.isEmpty&&t.ts.isEmpty):=by
 cases t;simp[Tm.k]at h;subst h;simp[ey,Tm.n,Tm.s,Tm.ts];rfl
theorem Oq{t:Tm}(h:t.k=2):ey t=(decide (t.n=0)&&((tR t.s&&decide (t.ts.length=2))||(gQ t.s&&decide (t.ts.length<=6)))&&t.ts.all ey):=by
 cases t;simp[Tm.k]at h;subst h;simp[ey,Tm.n,Tm.s,Tm.ts,zI];rfl
theorem Yf{t:Tm}(h0:t.k≠0)(h1:t.k≠1)(h2:t.k≠2):ey t=af:=by
 cases t;simp[Tm.k]at h0 h1 h2;simp[ey,h0,h1,h2]
theorem MP{O:Type}{p:O->Bool}{l:List O}{i:Nat}(h:i<l.length)(hp:p l[i]=af):l.all p=af:=aC4.2 ⟨l[i],ayy h,by simp[hp]⟩
theorem arf(t:Tm)(hs:Sm t.s)(hl:Sm t.ts)(ih:∀u∈t.ts,CC 224 af [dm u] (iB (ey u))):CC 224 af [dm t] (iB (ey t)):=by
 refine CC.dJ aq0 kr (λ_=>kr) (by simpa using kU t) (by rfl) ?_;rw[bp];have h1:=avv t.s;have h2:=v89 t.s hs
 have l2:∀b,b=t.ts.all ey->∀x y,Gb.sat ayu CC (Gc (·=b)) [] [.agg [iI t.k,iI t.n,iS t.s,iT t.ts],x,y]:=λb hb x y=>by
  unfold Gb;refine fz t.ts.length (λi (_:Unit)=>[iI i]) (λi _=>∀u∈t.ts.take i,ey u=ab) () ?_ ?_ λi _ hi hI=>?_
  .simp[SE.den]
  .simp
  by_cases aj:i<t.ts.length
  .have hw:=aD aj hl;have hb:=ih t.ts[i] (ayy aj);rw[bp]at hb;simp only[ui,Uc,Ua,Ub,XG,Ud];simp[SE.den,aj,hw,ku aj,bp,ao];refine⟨_,hb,?_⟩;cases hf:ey t.ts[i]<;>simp
   .subst b;exact MP aj hf
   .exact⟨by omega,aO (p:=λu=>ey u=ab) aj hI hf⟩
  .have:=aU aj hI;simp[SE.den,aj];subst b;simpa using this
 have l1:∀b,b=t.ts.all ey->∀x,KX.sat ayu CC (Gc (·=b)) [] [.agg [iI t.k,iI t.n,iS t.s,iT t.ts],x]:=λb hb x=>by
  unfold KX;refine fz t.ts.length (λi (_:Unit)=>[iI i]) (λi _=>∀u∈t.ts.take i,ey u=ab) () ?_ ?_ λi _ hi hI=>?_
  .simp[SE.den]
  .simp
  by_cases aj:i<t.ts.length
  .have hw:=aD aj hl;have hb:=ih t.ts[i] (ayy aj);rw[bp]at hb;simp only[ui,Uc,Ua,Ub,XG,Ud];simp[SE.den,aj,hw,ku aj,bp,ao];refine⟨_,hb,?_⟩;cases hf:ey t.ts[i]<;>simp
   .subst b;exact MP aj hf
   .exact⟨by omega,aO (p:=λu=>ey u=ab) aj hI hf⟩
  .have:=aU aj hI;simp[SE.den,aj];subst b;simpa using this
 have e02:Ut=Gb:=rfl;simp[ac7,SE.den,e02,ao];have ee:∀l:List Tm,l.isEmpty=decide (l.length=0):=λl=>by cases l<;>simp
 have em:=aD4 (t.s=[]);by_cases k0:t.k=0
 .left;refine⟨k0,?_⟩;rw[Ye k0];simp;grind
 right;refine⟨k0,?_⟩;by_cases k1:t.k=1
 .left;refine⟨k1,?_⟩;rw[Oo k1];simp;grind
 right;refine⟨k1,?_⟩;by_cases k2:t.k=2
 .left;refine⟨k2,_,h1,?_⟩;rw[Oq k2];by_cases n0:t.n=0
  .cases b1:tR t.s with
   |true=>
    simp[n0];by_cases fC:(t.ts.length:Int)=2
    .right;refine⟨by omega,?_⟩;have DV:t.ts.length=2:=ai;exact n0▸l1 _ (by simp[DV]) _
    .left;have DV:¬t.ts.length=2:=ai;refine⟨by omega,_,h2,?_⟩;cases b2:gQ t.s<;>simp[DV];by_cases h6:6<(t.ts.length:Int)
     .left;exact⟨h6,λ_=>by omega⟩
     .right;exact⟨by omega,n0▸l2 _ (by simp;omega) _ _⟩
   |false=>
    simp[n0];refine⟨_,h2,?_⟩;cases b2:gQ t.s<;>simp;by_cases h6:6<(t.ts.length:Int)
    .left;exact⟨h6,λ_=>by omega⟩
    .right;exact⟨by omega,n0▸l2 _ (by simp;omega) _ _⟩
  .cases b1:tR t.s<;>simp[n0]
 .right;exact⟨k2,Yf k0 k1 k2⟩
theorem alQ:∀t:Tm,ou t->CC 224 af [dm t] (iB (ey t))
 |.mk k n s ts,h=>arf _ ((o5 _).1 h).1 ((o5 _).1 h).2.1 λu hu=>alQ u (((o5 _).1 h).2.2 u hu)
 decreasing_by simp[Tm.ts]at hu;have:=azB hu;simp;omega
mutual
def kW:Tm->Nat
 |.mk k _ _ ts=>if k=2 then dI ts+1 else 1
def dI:List Tm->Nat
 |[]=>0
 |t::l=>kW t+dI l
end
mutual
def za:Tm->Nat
 |.mk k _ _ ts=>if k=2 then iR ts+1 else 1
def iR:List Tm->Nat
 |[]=>0
 |t::l=>max (za t) (iR l)
end
theorem we(t:Tm):kW t=dI (b_ t)+1:=by
 obtain⟨k,n,s,ts⟩:=t;show kW (.mk k n s ts)=dI (if k=2 then ts else[])+1;by_cases hk:k=2<;>simp[kW,hk,dI]
theorem H0(t:Tm):za t=iR (b_ t)+1:=by
 obtain⟨k,n,s,ts⟩:=t;show za (.mk k n s ts)=iR (if k=2 then ts else[])+1;by_cases hk:k=2<;>simp[za,hk,iR]
theorem JU(a b:List Tm):dI (a++b)=dI a+dI b:=by
 induction a with
 |nil=>simp[dI]
 |cons t l ih=>simp[dI,ih];omega
theorem WA(a b:List Tm):iR (a++b)=max (iR a) (iR b):=by
 induction a with
 |nil=>simp[iR]
 |cons t l ih=>simp[iR,ih]
theorem K6{t:Tm}{l:List Tm}(h:t∈l):kW t<=dI l:=by
 induction l with
 |nil=>cases h
 |cons u l ih=>rcases ayN.1 h with rfl|h
               .simp[dI]
               .have:=ih h;simp[dI];omega
theorem UR{t:Tm}{l:List Tm}(h:t∈l):za t<=iR l:=by
 induction l with
 |nil=>cases h
 |cons u l ih=>rcases ayN.1 h with rfl|h
               .simp[iR];omega
               .have:=ih h;simp[iR];omega
theorem aiT(t:Tm):1<=kW t:=by rw[we];omega
theorem aiU(t:Tm):1<=za t:=by rw[H0];omega
theorem aiV{t u:Tm}(h:u∈b_ t):kW u<kW t:=by
 have:=K6 h;rw[we t];omega
theorem Yg(l:List Tm)(h:∀t∈l,za t<=kW t):iR l<=dI l:=by
 induction l with
 |nil=>simp[iR]
 |cons t l ih=>have:=h t ax;have:=ih λu hu=>h u (by simp[hu]);simp[iR,dI];omega
theorem adn:∀t:Tm,za t<=kW t
 |.mk k n s ts=>by
  have h:=Yg (b_ (.mk k n s ts)) λu hu=>adn u;rw[we,H0];omega
 decreasing_by have:=q0 hu;simp[Tm.ts]at this;have:=azB this;simp;omega
theorem US:∀(l:List Tm) (acc:Nat),(∀t∈l,rX t=kW t)->acc+dI l<=1000000000000->wa acc l=((acc+dI l:Nat):Int)
 |[],acc,_,_=>by simp[wa,dI]
 |t::l,acc,h,hb=>by
  simp only[dI]at hb⊢;rw[wa,h t ax,dD ai ai];have:=US l (acc+kW t) (λu hu=>h u (by simp[hu])) ai;rw[show((acc:Int)+(kW t:Int))=((acc+kW t:Nat):Int) by simp,this]
  congr 1;omega
theorem H2:∀t:Tm,kW t<=1000000000000->rX t=kW t
 |.mk k n s ts,hb=>by
  have h:=US (b_ (.mk k n s ts)) 1 (λu hu=>H2 u (by have:=aiV hu;omega)) (by rw[we]at hb;omega);rw[UM,we,show(1:Int)=((1:Nat):Int)from rfl,h]
  congr 1;omega
 decreasing_by have:=q0 hu;simp[Tm.ts]at this;have:=azB this;simp;omega
end Go.Proofs.YtabefplkfkfdfaaGreat
