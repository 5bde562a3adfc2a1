/- A part of the proof, no condition: the check of a rule, of the reference and of the program. -/
import Derived.Test.YtggffkaadeagbaaGreatRkA
import Derived.Test.YtggffkaadeagbaaGreatRiJ
import Derived.Test.YtggffkaadeagbaaGreatRiM
open List renaming take_succ_eq_append_getElem->aqR,map_append->atI,flatten_append->arS,mem_flatten->atd,mem_map->aq5,length_append->aq3,getElem_mem->aqI,mem_append->aqX,take_of_length_le->aqT,mem_cons->arv,mem_singleton->arx,mem_append_left->arp,mem_append_right->arn
open Bool renaming and_eq_true->aqG
open Nat renaming lt_succ_iff_lt_or_eq->asV
open Option.some renaming injEq->aqH
open Go.Proofs.Tryz renaming prog->aqD
open Go.IntKind renaming i64->arc
set_option linter.all false
namespace Go.Proofs.YtggffkaadeagbaaGreat
open Go Go.Ev
def fO(l:List At):List Tm:=(l.map At.ts).flatten
def l_(l:List Gl):List Tm:=(l.map Gl.ts).flatten
theorem Jd{l:List At}{i:Nat}(h:i<l.length):fO (l.take (i+1))=fO (l.take i)++l[i].ts:=by
 unfold fO;rw[aqR h,atI,arS];simp
theorem Wg{l:List Gl}{i:Nat}(h:i<l.length):l_ (l.take (i+1))=l_ (l.take i)++l[i].ts:=by
 unfold l_;rw[aqR h,atI,arS];simp
theorem Er{l:List At}{t:Tm}:t∈fO l↔∃a∈l,t∈a.ts:=by
 simp only[fO,atd,aq5];exact⟨fun⟨_,⟨a,h1,h2⟩,h3⟩=>⟨a,h1,h2▸h3⟩,fun⟨a,h1,h2⟩=>⟨_,⟨a,h1,rfl⟩,h2⟩⟩
theorem My{l:List Gl}{t:Tm}:t∈l_ l↔∃a∈l,t∈a.ts:=by
 simp only[l_,atd,aq5];exact⟨fun⟨_,⟨a,h1,h2⟩,h3⟩=>⟨a,h1,h2▸h3⟩,fun⟨a,h1,h2⟩=>⟨_,⟨a,h1,rfl⟩,h2⟩⟩
theorem pB{ts:List Tm}(h:∀t∈ts,dm t):Vr (varsOf ts):=by
 show Vr (As (fq ts));rw[←xR];exact Vr.nil.cK (Wf h)
theorem v203(r:Rl)(h:IW r)(hf:An r):CC 203 false [oc r] (iL (varsOf (fO (r.keep++r.remove)))):=by
 refine CC.B9 akq n203 t203 (by simpa using ji r) (by rfl) ?_;have rD:=VW r (by have:=h.h;omega);have hl:=h.h;have h1:=h.hs;have h2:=hf.hs;rw[←aq3]at hl;rw[iQ]at rD⊢;generalize r.keep++r.remove=hs at rD hl h1 h2⊢;simp[Yx,SE.den,af];refine⟨_,rD,?_⟩;simp;unfold P0;refine ao hs.length (fun i (a:List Tm)=>[iI i,iT a]) (fun i a=>a=fO (hs.take i)∧a.length≤8*i∧∀t∈a,WF t) [] ?_ (by simp[fO]) fun i a hi hI=>?_
 ·simp[SE.den]
 obtain⟨ig,nQ,jh⟩:=hI;by_cases aa:i<hs.length
 ·have hw:=az aa (by omega);have hm:=aqI aa;have hk:=h1 _ hm;have hc:=VX (a:=a) (b:=hs[i].ts) (by omega);simp[SE.den,aa,hw,rB aa,af,hc]
  exact .mk (a++hs[i].ts) (by simp) (by omega) ⟨by rw[Jd aa,ig],by simp;omega,fun t ht=>by
   rcases aqX.1 ht with ht|ht
   ·exact jh t ht
   ·exact h2 _ hm t ht⟩
 ·rw[aqT (by omega)]at ig;have hb:=acX a (by unfold Sm;omega) jh;simp[SE.den,aa,af];rw[ig]at hb⊢;exact⟨_,hb,by simp⟩
def uU(r:Rl):List Tm:=fO (r.keep++r.remove)++l_ (r.guard++r.body)
theorem apk(r:Rl)(h:IW r)(hf:An r):CC 153 false [oc r] (iL (varsOf (uU r))):=by
 refine CC.B9 akk n153 t153 (by simpa using ji r) (by rfl) ?_;have rD:=VW r (by have:=h.h;omega);have xS:=abc r (by have:=h.g;have:=h.b;omega);have hl:=h.h;have Mz:r.guard.length+r.body.length≤12:=by have:=h.g;have:=h.b;omega
 have h1:=h.hs;have h2:=hf.hs;have g1:=h.gs;have g2:=hf.gs;unfold uU;rw[←aq3]at hl Mz;rw[iQ]at rD xS⊢;generalize r.keep++r.remove=hs at rD hl h1 h2⊢;generalize r.guard++r.body=gs at xS Mz g1 g2⊢;simp[Yr,SE.den,af];refine⟨_,rD,?_⟩;simp;unfold PO;refine ao hs.length (fun i (a:List Tm)=>[iI i,iT a]) (fun i a=>a=fO (hs.take i)∧a.length≤8*i∧∀t∈a,WF t) [] ?_ (by simp[fO]) fun i a hi hI=>?_
 ·simp[SE.den]
 obtain⟨ig,nQ,jh⟩:=hI;by_cases aa:i<hs.length
 ·have hw:=az aa (by omega);have hm:=aqI aa;have hk:=h1 _ hm;have hc:=VX (a:=a) (b:=hs[i].ts) (by omega);simp[SE.den,aa,hw,rB aa,af,hc]
  exact .mk (a++hs[i].ts) (by simp) (by omega) ⟨by rw[Jd aa,ig],by simp;omega,fun t ht=>by
   rcases aqX.1 ht with ht|ht
   ·exact jh t ht
   ·exact h2 _ hm t ht⟩
 ·rw[aqT (by omega)]at ig;simp[SE.den,aa,af];refine⟨_,xS,?_⟩;simp;unfold PN;refine ao gs.length (fun i (a:List Tm)=>[iI i,iT a]) (fun i a=>a=fO hs++l_ (gs.take i)∧a.length≤24+8*i∧∀t∈a,WF t) a ?_ ⟨by simp[l_,ig],by omega,jh⟩ fun j a hj hJ=>?_
  ·simp[SE.den]
  obtain⟨j8,bz,eQ⟩:=hJ;by_cases aa:j<gs.length
  ·have hw:=az aa (by omega);have hm:=aqI aa;have hk:=g1 _ hm;have hc:=VX (a:=a) (b:=gs[j].ts) (by omega);simp[SE.den,aa,hw,lT aa,af,hc]
   exact .mk (a++gs[j].ts) (by simp) (by omega) ⟨by rw[Wg aa,j8,List.append_assoc],by simp;omega,fun t ht=>by
    rcases aqX.1 ht with ht|ht
    ·exact eQ t ht
    ·exact(g2 _ hm).2 t ht⟩
  ·rw[aqT (by omega)]at j8;have hb:=acX a (by unfold Sm;omega) eQ;simp[SE.den,aa,af];rw[j8]at hb⊢;exact⟨_,hb,by simp⟩
structure uV(ds:List De)(r:Rl):Prop where
 h:∀a∈r.keep++r.remove,bu ds a.s a.ts.length=true
 c:Jc ds (r.guard++r.body)
 g:∀g∈r.guard,jW g.op=true∨g.op=1
 b:∀g∈r.body,jW g.op=false
 v:∀g∈r.guard,∀v∈varsOf g.ts,v∈varsOf (fO (r.keep++r.remove))
theorem v154(ds:List De)(hd:Sm ds)(r:Rl)(h:IW r)(hf:An r):∃n,(n=0↔uV ds r)∧CC 154 false [eI ds,oc r] (iI n):=by
 refine CC.Ki _ akm n154 t154 (by intro x hx;rcases arv.1 hx with rfl|hx;exact G_ _;obtain rfl:=arx.1 hx;exact ji r) (by rfl) ?_;have abp:=v203 r h hf
 have ahp:Vr (varsOf (fO (r.keep++r.remove))):=pB fun t ht=>by
  obtain⟨a,ha,ht⟩:=Er.1 ht;exact(hf.hs a ha t ht).2
 have ahq:=ahp.len;have rD:=VW r (by have:=h.h;omega);have xS:=abc r (by have:=h.g;have:=h.b;omega);have hl:=h.h;have Mz:r.guard.length+r.body.length≤12:=by have:=h.g;have:=h.b;omega
 have hg:=h.g;have hb:=h.b;have g2:=hf.gs;have g1:=h.gs;have hM1:=fun m:uV ds r=>m.h;have hM2:=fun m:uV ds r=>m.c;have hM3:=fun m:uV ds r=>m.g;have hM4:=fun m:uV ds r=>m.b;have hM5:=fun m:uV ds r=>m.v;have hM:=fun a b c d e=>(⟨a,b,c,d,e⟩:uV ds r);generalize uV ds r=M at hM1 hM2 hM3 hM4 hM5 hM⊢;rw[←aq3]at hl Mz;rw[iQ]at rD xS abp⊢;generalize hV:varsOf (fO (r.keep++r.remove))=Q5 at abp ahp ahq hM5 hM;generalize r.keep++r.remove=hs at rD hl hM1 hM;obtain⟨apl,abq,ahr⟩:=v201 ds (r.guard++r.body) hd (by unfold Sm;omega);generalize hgs:r.guard++r.body=gs at xS Mz ahr abq hM2 hM;obtain⟨rn,rk,rr,rg,rb,rv⟩:=r;simp only at*
 simp[Yt,SE.den,af];refine⟨_,rD,?_⟩;simp;unfold PX;refine ao hs.length (fun i (_:Unit)=>[iI i]) (fun i _=>∀a∈hs.take i,bu ds a.s a.ts.length=true) () ?_ (by simp) fun i _ hi hI=>?_
 ·simp[SE.den]
 by_cases aa:i<hs.length
 ·have hw:=az aa (by omega);obtain⟨b,hz,hb⟩:=ahn ds hs[i].s hs[i].ts.length hd;simp[SE.den,aa,hw,rB aa,af,xO];refine⟨_,hb,?_⟩;simp[xO];by_cases h0:b=0
  ·right;exact⟨h0,.mk () rfl (by omega) (ay aa hI (hz.1 h0))⟩
  ·left;exact⟨h0,by simp[h0];exact fun m=>h0 (hz.2 (hM1 m _ (aqI aa)))⟩
 have hA:=aF aa hI;simp[SE.den,aa,af,xO];refine⟨_,xS,?_⟩;simp;refine⟨_,ahr,?_⟩;simp[xO];by_cases h0:apl=0
 rotate_left
 ·left;exact⟨h0,by simp[h0];exact fun m=>h0 (abq.2 (hM2 m))⟩
 right;refine⟨h0,?_⟩;have hB:=abq.1 h0;unfold PU;refine ao rg.length (fun i (_:Unit)=>[iI i]) (fun i _=>∀g∈rg.take i,jW g.op=true∨g.op=1) () ?_ (by simp) fun i3 _ hi3 qO=>?_
 ·simp[SE.den]
 by_cases C3:i3<rg.length
 ·have hw:=az C3 (by omega);have hb:=aho rg[i3].op;have hs3:=fun h=>ay (p:=fun g:Gl=>jW g.op=true∨g.op=1) C3 qO h;have NR:=fun m=>hM3 m _ (aqI C3);simp[SE.den,C3,hw,lT C3,af];refine⟨_,hb,?_⟩;cases hq:jW rg[i3].op<;>simp
  ·by_cases h0:rg[i3].op=1
   ·right;exact⟨h0,.mk () rfl (by omega) (hs3 (.inr h0))⟩
   ·left;exact⟨h0,fun m=>by have:=NR m;simp[hq,h0]at this⟩
  ·exact .mk () rfl (by omega) (hs3 (.inl hq))
 have hC:=aF C3 qO;simp[SE.den,C3,af];unfold PT;refine ao rb.length (fun i (_:Unit)=>[iI i]) (fun i _=>∀g∈rb.take i,jW g.op=false) () ?_ (by simp) fun i2 _ WQ jh=>?_
 ·simp[SE.den]
 by_cases dX:i2<rb.length
 ·have hw:=az dX (by omega);have hb:=aho rb[i2].op;simp[SE.den,dX,hw,lT dX,af];refine⟨_,hb,?_⟩;cases hq:jW rb[i2].op<;>simp
  ·exact .mk () rfl (by omega) (ay dX jh hq)
  ·exact fun m=>by have:=hM4 m _ (aqI dX);simp[hq]at this
 have hD:=aF dX jh;simp[SE.den,dX,af];refine⟨_,abp,?_⟩;simp;unfold PS;refine ao rg.length (fun i (_:Unit)=>[iI i]) (fun i _=>∀g∈rg.take i,∀v∈varsOf g.ts,v∈Q5) () ?_ (by simp) fun i1 _ N3 nQ=>?_
 ·simp[SE.den]
 by_cases dY:i1<rg.length
 ·have Pm:=az dY (by omega);have hm:rg[i1]∈gs:=hgs▸arp _ (aqI dY);have hff:=g2 _ (by simpa[hgs]using hm);have hb:=v93 rg[i1] (by have:=g1 _ (by simpa[hgs]using hm);unfold Sm;omega) hff.2;have Zh:=(pB fun t ht=>(hff.2 t ht).2).len;simp[SE.den,dY,lT dY,af];refine⟨_,hb,?_⟩;simp;unfold PR;generalize hl:varsOf rg[i1].ts=l at*
  refine ao l.length (fun i (_:Unit)=>[iI i]) (fun i _=>∀v∈l.take i,v∈Q5) () ?_ (by simp) fun j _ hj hJ=>?_
  ·simp[SE.den]
  by_cases aa:j<l.length
  ·have hw:=az aa (by omega);have hb:=apj Q5 l[j] (by unfold Sm;omega);simp[SE.den,aa,hw,dC aa,af];refine⟨_,hb,?_⟩;by_cases hq:l[j]∈Q5
   ·simp[hq];exact .mk () rfl (by omega) (ay aa hJ hq)
   ·simp[hq];exact fun m=>hq (hM5 m _ (aqI dY) _ (by rw[hl];exact aqI aa))
  ·have hE:=aF aa hJ;simp[SE.den,aa,Pm];exact .mk () rfl (by omega) (ay (p:=fun g:Gl=>∀v∈varsOf g.ts,v∈Q5) dY nQ (by rw[hl];exact hE))
 ·simp[SE.den,dY];exact hM hA hB hC hD (aF dY nQ)
def okV(ts:List Tm)(n:Int):Prop:=(∀(i:Nat) (h:i<(varsOf ts).length),(varsOf ts)[i]=(i:Int))∧n=((varsOf ts).length:Int)
structure tH(ds:List De)(r:Rl):Prop where
 ne:r.keep++r.remove≠[]
 hs:∀a∈r.keep++r.remove,dr a=true
 gs:∀g∈r.guard++r.body,dW g=true
 v:okV (uU r) r.vars
 n:r.name=[]∨fN r.name=true
 m:uV ds r
theorem ny{a:At}(h:dr a=true):∀t∈a.ts,dm t:=by
 simp only[dr,aqG]at h;exact Q4 h.2
theorem uo{a:Gl}(h:dW a=true):(a.op≠0→gu a.op=a.ts.length)∧∀t∈a.ts,dm t:=by
 unfold dW at h;split at h
 ·rename_i h0;exact⟨fun h1=>absurd h0 h1,ny (a:=⟨a.s,a.ts⟩) h⟩
 ·simp only[aqG]at h;exact⟨fun _=>of_decide_eq_true h.1.2,Q4 h.2⟩
structure SzR(r:Rl):Prop where
 hs:∀a∈r.keep++r.remove,cm a.ts≤1000000000000
 gs:∀a∈r.guard++r.body,cm a.ts≤1000000000000
theorem rZ.b{a:At}(h:rZ a)(hz:cm a.ts≤1000000000000):Mv a.ts:=⟨h.2.1,h.2.2,hz⟩
theorem r6.b{a:Gl}(h:r6 a)(hz:cm a.ts≤1000000000000):Mv a.ts:=⟨h.2.1,h.2.2,hz⟩
theorem An.len{r:Rl}(h:An r):(varsOf (uU r)).length≤1048577:=by
 refine(pB fun t ht=>?_).len;rcases aqX.1 ht with ht|ht
 ·obtain⟨a,ha,ht⟩:=Er.1 ht;exact(h.hs a ha t ht).2
 ·obtain⟨a,ha,ht⟩:=My.1 ht;exact((h.gs a ha).2 t ht).2
theorem v90(ds:List De)(hd:Sm ds)(r:Rl)(h:IW r)(hn:IX r)(hz:SzR r):∃n,(n=0↔tH ds r)∧CC 90 false [eI ds,oc r] (iI n):=by
 refine CC.Ki _ aom n90 t90 (by intro x hx;rcases arv.1 hx with rfl|hx;exact G_ _;obtain rfl:=arx.1 hx;exact ji r) (by rfl) ?_;have rD:=VW r (by have:=h.h;omega);have xS:=abc r (by have:=h.g;have:=h.b;omega);have hl:=h.h;have Mz:r.guard.length+r.body.length≤12:=by have:=h.g;have:=h.b;omega
 have hg:=h.g;have hb:=h.b;have n1:=hn.hs;have n2:=hn.gs;have z1:=hz.hs;have z2:=hz.gs;have abr:=hn.for;rw[←aq3]at hl Mz;have Q6:=apk r h;have KA:=v154 ds hd r h;have h89:=v89 r.name hn.n;have FG:An r→(varsOf (uU r)).length≤1048577:=fun h=>h.len;have CE:=fun m:tH ds r=>m.ne;have CF:=fun m:tH ds r=>m.hs;have Je:=fun m:tH ds r=>m.gs;have Zp:=fun m:tH ds r=>m.v;have hO5:=fun m:tH ds r=>m.n;have hO6:=fun m:tH ds r=>m.m;have hO:=fun a b c d e f=>(⟨a,b,c,d,e,f⟩:tH ds r);generalize tH ds r=O at CE CF Je Zp hO5 hO6 hO⊢;generalize uV ds r=M at hO6 KA hO;generalize uU r=ar at Q6 Zp hO FG;unfold okV at Zp hO;rw[iQ]at rD xS Q6 KA⊢;generalize hhs:r.keep++r.remove=hs at rD hl n1 abr z1 CE CF hO;generalize hgs:r.guard++r.body=gs at xS Mz n2 abr z2 Je hO;obtain⟨rn,rk,rr,rg,rb,rv⟩:=r;simp only at*
 simp[acm,SE.den,af];refine⟨_,rD,?_⟩;simp;refine⟨_,xS,?_⟩;simp;by_cases z0:hs=[]
 ·left;exact⟨z0,fun m=>CE m z0⟩
 right;refine⟨z0,?_⟩;right;refine⟨by omega,?_⟩;right;refine⟨by omega,?_⟩;right;refine⟨by omega,?_⟩;unfold Ta;refine ao hs.length (fun i (_:Unit)=>[iI i]) (fun i _=>∀a∈hs.take i,dr a=true) () ?_ (by simp) fun i _ hi hI=>?_
 ·simp[SE.den]
 by_cases aa:i<hs.length
 ·have hw:=az aa (by omega);have hm:=aqI aa;have hb:=v49 hs[i] (n1 _ hm).1 ((n1 _ hm).b (z1 _ hm));simp[SE.den,aa,hw,rB aa,af];refine⟨_,hb,?_⟩;cases hq:dr hs[i]<;>simp
  ·exact fun m=>by have:=CF m _ hm;simp[hq]at this
  ·exact .mk () rfl (by omega) (ay aa hI hq)
 have hA:=aF aa hI;simp[SE.den,aa,af];unfold S_;refine ao gs.length (fun i (_:Unit)=>[iI i]) (fun i _=>∀a∈gs.take i,dW a=true) () ?_ (by simp) fun i1 _ N3 nQ=>?_
 ·simp[SE.den]
 by_cases dY:i1<gs.length
 ·have hw:=az dY (by omega);have hm:=aqI dY;have hb:=v152 gs[i1] (n2 _ hm).1 ((n2 _ hm).b (z2 _ hm));simp[SE.den,dY,hw,lT dY,af];refine⟨_,hb,?_⟩;cases hq:dW gs[i1]<;>simp
  ·exact fun m=>by have:=Je m _ hm;simp[hq]at this
  ·exact .mk () rfl (by omega) (ay dY nQ hq)
 have hB:=aF dY nQ;have hF:An ⟨rn,rk,rr,rg,rb,rv⟩:=abr (fun a ha=>ny (hA a ha)) (fun a ha=>uo (hB a ha));have Q6:=Q6 hF;obtain⟨n154,ahs,KA⟩:=KA hF;have FG:=FG hF;generalize varsOf ar=v at*
 simp[SE.den,dY,af];refine⟨_,Q6,?_⟩;simp;unfold S9;refine ao v.length (fun i (_:Unit)=>[iI i]) (fun i _=>∀(j:Nat) (h:j<v.length),j<i→v[j]=(j:Int)) () ?_ (fun _ _ h=>absurd h (by omega)) fun i0 _ Cg ig=>?_
 ·simp[SE.den]
 by_cases jH:i0<v.length
 ·have hw:=az jH (by omega);simp[SE.den,jH,hw,dC jH,af];by_cases he:v[i0]=i0
  ·right;exact⟨he,.mk () rfl (by omega) fun j hj Q7=>by
    rcases asV.1 Q7 with Q7|rfl
    ·exact ig j hj Q7
    ·exact he⟩
  ·left;exact⟨he,fun m=>he ((Zp m).1 i0 jH)⟩
 have hC:∀(j:Nat) (h:j<v.length),v[j]=(j:Int):=fun j hj=>ig j hj (by omega);simp[SE.den,jH,af];by_cases hv:rv=v.length
 rotate_left
 ·left;exact⟨hv,fun m=>hv (Zp m).2⟩
 right;refine⟨hv,?_⟩;by_cases mc:rn=[]
 ·right;refine⟨mc,_,KA,?_⟩;simp;rw[ahs];exact⟨fun m=>hO z0 hA hB ⟨hC,hv⟩ (.inl mc) m,hO6⟩
 ·left;refine⟨mc,_,h89,?_⟩;cases hq:fN rn<;>simp
  ·exact fun m=>by have:=hO5 m;simp[mc,hq]at this
  refine⟨_,KA,?_⟩;simp;rw[ahs];exact⟨fun m=>hO z0 hA hB ⟨hC,hv⟩ (.inr hq) m,hO6⟩
structure oH(p:Pg):Prop where
 d:∀d∈p.decls,fN d.s=true∧0≤d.n∧d.n≤6
 u:∀(i:Nat) (h:i<p.decls.length),bu (p.decls.take i) p.decls[i].s p.decls[i].n=false
 r:∀r∈p.rules,tH p.decls r
theorem v34(p:Pg)(h:Ao p)(hz:∀r∈p.rules,SzR r):∃a n,(n=0↔oH p)∧CC 34 false [f_ p] (.av [iI a,iI n]):=by
 refine CC.agt _ aoj n34 t34 (by simpa using ga p) (by rfl) ?_;have CE:=fun m:oH p=>m.d;have CF:=fun m:oH p=>m.u;have Je:=fun m:oH p=>m.r;have hO:=fun a b c=>(⟨a,b,c⟩:oH p);generalize oH p=O at CE CF Je hO⊢;obtain⟨ds,rs⟩:=p;obtain⟨hd,hr,dn,vn,C5⟩:=h;simp only at*
 show VS.sat _ _ _ _ [.agg [eI ds,xN rs]];simp[VS,SE.den,af];right;refine⟨by omega,?_⟩;unfold S7;refine ao ds.length (fun i (_:Unit)=>[iI i]) (fun i _=>(∀d∈ds.take i,fN d.s=true∧0≤d.n∧d.n≤6)∧∀(j:Nat) (h:j<ds.length),j<i→bu (ds.take j) ds[j].s ds[j].n=false) () ?_ ⟨by simp,fun _ _ h=>absurd h (by omega)⟩ fun i _ hi hI=>?_
 ·simp[SE.den]
 by_cases aa:i<ds.length
 ·have hw:=az aa (by omega);have hm:=aqI aa;have h1:=v89 ds[i].s (dn _ hm);have h2:=api (ds.take i) ds[i].s ds[i].n (by unfold Sm;simp;omega);have eY:=akH (L:=ds) (l:=i) (by omega);have bx:=fun m=>CE m _ hm;simp[SE.den,aa,hw,tF aa,af];refine⟨_,h1,?_⟩;cases b1:fN ds[i].s<;>simp
  ·exact fun m=>by have:=(bx m).1;simp[b1]at this
  by_cases z1:ds[i].n<0
  ·left;exact⟨z1,fun m=>by have:=(bx m).2;omega⟩
  right;refine⟨by omega,?_⟩;by_cases z2:6<ds[i].n
  ·left;exact⟨z2,fun m=>by have:=(bx m).2;omega⟩
  right;refine⟨by omega,?_⟩;refine⟨_,eY,_,h2,?_⟩;simp;cases b2:bu (ds.take i) ds[i].s ds[i].n<;>simp
  ·exact .mk () rfl (by omega) ⟨ay aa hI.1 ⟨b1,by omega,by omega⟩,fun j hj Q7=>by
    rcases asV.1 Q7 with Q7|rfl
    ·exact hI.2 j hj Q7
    ·exact b2⟩
  ·exact fun m=>by have:=CF m i aa;simp[b2]at this
 have hA:=aF aa hI.1;simp[SE.den,aa,af];right;refine⟨by omega,?_⟩;unfold S6;refine ao rs.length (fun i (_:Unit)=>[iI i]) (fun i _=>∀r∈rs.take i,tH ds r) () ?_ (by simp) fun i0 _ Cg ig=>?_
 ·simp[SE.den]
 by_cases jH:i0<rs.length
 ·have hw:=az jH (by omega);have hm:=aqI jH;obtain⟨n,hF,hb⟩:=v90 ds (by unfold Sm;omega) rs[i0] (vn _ hm) (C5 _ hm) (hz _ hm);rw[iQ]at hb;simp[SE.den,jH,hw,Ha jH,af];refine⟨_,hb,?_⟩;simp[xO];by_cases z:n=0
  ·right;exact⟨z,.mk () rfl (by omega) (ay jH ig (hF.1 z))⟩
  ·left;exact⟨z,by simp[z];exact fun m=>z (hF.2 (Je m _ hm))⟩
 ·simp[SE.den,jH];exact hO hA (fun j hj=>hI.2 j hj (by omega)) (aF jH ig)
end Go.Proofs.YtggffkaadeagbaaGreat
namespace Go.Proofs.YtggffkaadeagbaaGreat
open Go Go.Ev
def Aw(a:Int):List Int→Option Int
 |[]=>some a
 |v::l=>if v≤a then Aw (if v=a then a+1 else a) l else none
def Wh(u:List Int):Prop:=∀(i:Nat) (h:i<u.length),u[i]=(i:Int)
def sy(n:Nat):List Int:=(List.range n).map fun(i:Nat)=>(i:Int)
theorem KC(n:Nat):(sy n).length=n:=by simp[sy]
theorem abt(n:Nat):sy (n+1)=sy n++[(n:Int)]:=by simp[sy,List.range_succ]
theorem T4{n:Nat}{v:Int}:v∈sy n↔0≤v∧v<n:=by
 simp only[sy,aq5,List.mem_range];exact⟨fun⟨i,h1,h2⟩=>by omega,fun⟨h1,h2⟩=>⟨v.toNat,by omega,by omega⟩⟩
theorem aht(n:Nat):Wh (sy n):=fun i h=>by simp[sy]
theorem Q8:∀(w l:List Int),∃t,cK l w=l++t
 |[],l=>⟨[],by simp[cK]⟩
 |v::w,l=>by
  obtain⟨t,h⟩:=Q8 w (qu l v);show∃t,cK (qu l v) w=l++t;rw[h];unfold qu;split
  ·exact⟨t,rfl⟩
  ·exact⟨[v]++t,by simp⟩
theorem KD:∀(w:List Int) (a:Nat) (n:Int),(∀v∈w,0≤v)→(Aw a w=some n↔Wh (cK (sy a) w)∧n=((cK (sy a) w).length:Int))
 |[],a,n,_=>by
  have:cK (sy a) []=sy a:=rfl;rw[this,KC];simp only[Aw,aqH];exact⟨fun h=>⟨aht a,h.symm⟩,fun h=>h.2.symm⟩
 |v::w,a,n,h=>by
  have h0:=h v (by simp);have hw:=fun u hu=>h u (List.mem_cons_of_mem _ hu);show _↔Wh (cK (qu (sy a) v) w)∧n=((cK (qu (sy a) v) w).length:Int);unfold Aw qu;by_cases h1:v<a
  ·rw[if_pos (by omega),if_neg (by omega),if_pos (T4.2 ⟨h0,h1⟩)];exact KD w a n hw
  ·rw[if_neg (fun hm=>h1 (T4.1 hm).2)];by_cases h2:v=a
   ·subst h2;rw[if_pos (by omega),if_pos rfl,←abt];exact KD w (a+1) n hw
   ·rw[if_neg (by omega)];obtain⟨t,ht⟩:=Q8 w (sy a++[v]);refine⟨fun h=>(by cases h),fun⟨hr,_⟩=>?_⟩;rw[ht]at hr;have:=hr a (by simp[KC]);simp[KC,List.getElem_append]at this;exact absurd this h2
theorem nz{v:Int}:∀(w l:List Int),v∈cK l w↔v∈l∨v∈w
 |[],l=>by simp[cK]
 |x::w,l=>by
  show v∈cK (qu l x) w↔_;rw[nz w];unfold qu;split
  ·rename_i hx;simp only[arv];exact⟨fun h=>h.elim .inl fun h=>.inr (.inr h),fun h=>h.elim .inl fun h=>h.elim (fun e=>.inl (e▸hx)) .inr⟩
  ·simp only[aqX,arv,List.not_mem_nil,or_false,or_assoc]
theorem Es(l xs:List Int)(x:Int):cK l (xs++[x])=qu (cK l xs) x:=by simp[cK,List.foldl_append]
theorem T5(l xs:List Int):cK l (As xs)=cK l xs:=by
 have key:∀n,cK l (As (xs.take n))=cK l (xs.take n):=fun n=>by
  induction n with
  |zero=>rfl
  |succ n ih=>
   by_cases hn:n<xs.length
   ·rw[aqR hn];generalize xs.take n=ys at ih;generalize xs[n]=x;rw[←xR,Es,Es,xR];have hm:x∈As ys↔x∈ys:=by rw[←xR,nz];simp
    unfold qu;by_cases hx:x∈ys
    ·rw[if_pos (hm.2 hx),if_pos ((nz _ _).2 (.inr hx)),ih]
    ·rw[if_neg (fun h=>hx (hm.1 h)),Es,ih];rfl
   ·rw[aqT (by omega)]at ih⊢;exact ih
 have:=key xs.length;rwa[List.take_length]at this
theorem Zq(m:List Int):∀l:List At,cK m (eX l)=cK m (fq (fO l)):=fun l=>by
 induction l generalizing m with
 |nil=>rfl
 |cons a l ih=>
  have h1:eX (a::l)=varsOf a.ts++eX l:=by simp[eX]
  have h2:fq (fO (a::l))=fq a.ts++fq (fO l):=by simp[fO,fq]
  rw[h1,h2,lW,lW,ih];show cK (cK m (As (fq a.ts))) _=_;rw[T5]
theorem ahu(m:List Int):∀l:List Gl,cK m (jV l)=cK m (fq (l_ l)):=fun l=>by
 induction l generalizing m with
 |nil=>rfl
 |cons a l ih=>
  have h1:jV (a::l)=varsOf a.ts++jV l:=by simp[jV]
  have h2:fq (l_ (a::l))=fq a.ts++fq (l_ l):=by simp[l_,fq]
  rw[h1,h2,lW,lW,ih];show cK (cK m (As (fq a.ts))) _=_;rw[T5]
theorem uW(a b:List Tm):fq (a++b)=fq a++fq b:=by simp[fq]
theorem Et(a b:List At):fO (a++b)=fO a++fO b:=by simp[fO]
theorem Q_(a b:List Gl):l_ (a++b)=l_ a++l_ b:=by simp[l_]
theorem MA(r:Rl):cK [] (dh [r.keep,r.remove]++cU [r.guard,r.body])=varsOf (uU r):=by
 have e1:dh [r.keep,r.remove]=eX r.keep++eX r.remove:=by simp[dh]
 have e2:cU [r.guard,r.body]=jV r.guard++jV r.body:=by simp[cU]
 show _=cK [] (fq (uU r));rw[e1,e2,uU,uW,Et,Q_,uW,uW];simp only[lW,Zq,ahu]
theorem aep{r:Rl}{n:Int}(h:∀v∈dh [r.keep,r.remove]++cU [r.guard,r.body],0≤v):okV (uU r) n↔Aw 0 (dh [r.keep,r.remove]++cU [r.guard,r.body])=some n:=by
 have:=KD _ 0 n h;have e:sy 0=[]:=rfl;rw[e,MA]at this;exact this.symm
theorem Wi{v:Int}{ts:List Tm}:v∈varsOf ts↔v∈fq ts:=by
 show v∈As (fq ts)↔_;rw[←xR,nz];simp
theorem MB{v:Int}(l:List At):v∈eX l↔v∈fq (fO l):=by
 have:=nz (v:=v) (eX l) [];rw[Zq,nz]at this;simpa using this.symm
theorem MC(r:Rl)(v:Int):v∈dh [r.keep,r.remove]↔v∈varsOf (fO (r.keep++r.remove)):=by
 have e1:dh [r.keep,r.remove]=eX r.keep++eX r.remove:=by simp[dh]
 rw[e1,aqX,MB,MB,Wi,Et,uW,aqX]
theorem Zr(r:Rl)(p:Int→Prop):(∀v∈cU [r.guard],p v)↔∀g∈r.guard,∀v∈varsOf g.ts,p v:=by
 have e1:cU [r.guard]=jV r.guard:=by simp[cU]
 rw[e1];simp only[jV,atd,aq5];exact⟨fun h g hg v hv=>h v ⟨_,⟨g,hg,rfl⟩,hv⟩,fun h v ⟨_,⟨g,hg,e⟩,hv⟩=>h g hg v (e▸hv)⟩
theorem RS{r:Rl}(h1:∀a∈r.keep++r.remove,∀t∈a.ts,dm t)(h2:∀a∈r.guard++r.body,∀t∈a.ts,dm t):∀v∈dh [r.keep,r.remove]++cU [r.guard,r.body],0≤v:=fun v hv=>by
 have hv:v∈cK [] (dh [r.keep,r.remove]++cU [r.guard,r.body]):=(nz _ _).2 (.inr hv);rw[MA]at hv;refine((pB fun t ht=>?_).2 v hv).1;rcases aqX.1 ht with ht|ht
 ·obtain⟨a,ha,ht⟩:=Er.1 ht;exact h1 a ha t ht
 ·obtain⟨a,ha,ht⟩:=My.1 ht;exact h2 a ha t ht
end Go.Proofs.YtggffkaadeagbaaGreat
namespace Go.Proofs.YtggffkaadeagbaaGreat
open Go Go.Ev
theorem Jf(ds:List De)(s:List UInt8)(n:Int)(hl:Sm ds):CC 47 false [eI ds,iS s,iI n] (iB (bu ds s n)):=by
 refine CC.gF aoV n47 t47 (by simp) (by rfl) ?_;simp[acK,Ty,SE.den,af];refine ao ds.length (fun i (_:Unit)=>[iI i]) (fun i _=>∀d∈ds.take i,d.s=s→¬d.n=n) () ?_ (by simp) fun i _ hi hI=>?_
 ·simp[SE.den]
 by_cases aa:i<ds.length
 ·have hw:=az aa hl;simp[SE.den,aa,hw,tF aa,af,agK];by_cases h1:s=ds[i].s∧n=ds[i].n
  ·left;exact⟨h1,Ep (aqI aa) ⟨h1.1.symm,h1.2.symm⟩⟩
  ·right;exact⟨fun h=>fun h'=>h1 ⟨h,h'⟩,.mk () rfl (by omega) (ay (p:=fun d:De=>d.s=s→¬d.n=n) aa hI fun h h'=>h1 ⟨h.symm,h'.symm⟩)⟩
 ·simp[SE.den,aa];exact kI (aF aa hI)
theorem v143(n:Int):CC 143 false [iI n] (iB (jW n)):=by
 refine CC.gF ale n143 t143 (by simp) (by rfl) ?_;simp[Y9,SE.den,jW];omega
abbrev DK(ds:List De)(r:Rl):Prop:=∀a∈r.keep,bu ds a.s a.ts.length=true
abbrev DR(ds:List De)(r:Rl):Prop:=∀a∈r.remove,bu ds a.s a.ts.length=true
abbrev KG(r:Rl):Prop:=∀g∈r.guard,jW g.op=true∨g.op=1
abbrev KB(r:Rl):Prop:=∀g∈r.body,jW g.op=false
abbrev VV(r:Rl):Prop:=∀v∈cU [r.guard],v∈dh [r.keep,r.remove]
abbrev R5(r:Rl):Prop:=KB r∧VV r
abbrev R6(r:Rl):Prop:=KG r∧R5 r
abbrev R7(ds:List De)(r:Rl):Prop:=Jc ds r.body∧R6 r
abbrev R8(ds:List De)(r:Rl):Prop:=Jc ds r.guard∧R7 ds r
abbrev R9(ds:List De)(r:Rl):Prop:=DR ds r∧R8 ds r
abbrev R10(ds:List De)(r:Rl):Prop:=DK ds r∧R9 ds r
theorem cu{A B O:Prop}(h:(A∧B)↔O)(a:A):B↔O:=⟨fun b=>h.1 ⟨a,b⟩,fun o=>(h.2 o).2⟩
theorem cw{A B O:Prop}(h:(A∧B)↔O)(a:¬A):¬O:=fun o=>a (h.2 o).1
section
variable{O:Prop}{k0 k1 k2 k3 k4 k5 k6 k7 k8 k9 k10 Mp Mq:List IV→Prop}{x2 x3 x4 x5 x6 x7 x8 x9 eh iV iD kH kS qM pz qN y9 Eh D2 QM LV LU LS x25 x26:IV}
theorem alI(ds:List De)(hd:Sm ds)(r:Rl)(s:List UInt8)(ts:List Tm)(i:Nat)(hi:i<1000)(hk:bu ds s ts.length=true→k5 [iI (i+1:Nat)])(bx:bu ds s ts.length=false→¬O):
 TJ.sat aqD CC (gH fun n=>n=0↔O) [k0,k1,k2,k3,k4,k5] [eI ds,aR r,x2,x3,x4,x5,x6,x7,x8,x9,eh,iV,iD,kH,iI i,.agg [iS s,iT ts]]:=by
 have gd:=az hi (by omega);have vo:=Jf ds s ts.length hd;refine ao ds.length (fun j (_:Unit)=>[iI j]) (fun j _=>∀d∈ds.take j,¬d.s=s) () ?_ (by simp) fun j _ hj hI=>?_
 ·simp[SE.den]
 by_cases aa:j<ds.length
 ·have hw:=az aa hd;simp[SE.den,aa,hw,gd,tF aa,af,aw];by_cases h1:ds[j].s=s
  ·left;refine⟨h1,_,vo,?_⟩;cases hb:bu ds s ts.length<;>simp[aw]
   ·exact bx hb
   ·exact hk hb
  ·right;exact⟨h1,.mk () rfl (by omega) (ay (p:=fun d:De=>¬d.s=s) aa hI h1)⟩
 ·have:=aF aa hI;simp[SE.den,aa,aw];exact bx (kI fun d hd h=>absurd h (this d hd))
theorem alJ(ds:List De)(hd:Sm ds)(r:Rl)(s:List UInt8)(ts:List Tm)(i:Nat)(hi:i<1000)(hk:bu ds s ts.length=true→k6 [iI (i+1:Nat),iB true])(bx:bu ds s ts.length=false→¬O):
 TK.sat aqD CC (gH fun n=>n=0↔O) [k0,k1,k2,k3,k4,k5,k6] [eI ds,aR r,x2,x3,x4,x5,x6,x7,x8,x9,eh,iV,iD,kH,kS,iI i,pz,.agg [iS s,iT ts]]:=by
 have gd:=az hi (by omega);have vo:=Jf ds s ts.length hd;refine ao ds.length (fun j (_:Unit)=>[iI j]) (fun j _=>∀d∈ds.take j,¬d.s=s) () ?_ (by simp) fun j _ hj hI=>?_
 ·simp[SE.den]
 by_cases aa:j<ds.length
 ·have hw:=az aa hd;simp[SE.den,aa,hw,gd,tF aa,af,aw];by_cases h1:ds[j].s=s
  ·left;refine⟨h1,_,vo,?_⟩;cases hb:bu ds s ts.length<;>simp[aw]
   ·exact bx hb
   ·exact hk hb
  ·right;exact⟨h1,.mk () rfl (by omega) (ay (p:=fun d:De=>¬d.s=s) aa hI h1)⟩
 ·have:=aF aa hI;simp[SE.den,aa,aw];exact bx (kI fun d hd h=>absurd h (this d hd))
theorem alK(ds:List De)(hd:Sm ds)(r:Rl)(op:Int)(s:List UInt8)(ts:List Tm)(i:Nat)(hi:i<1000)(hk:bu ds s ts.length=true→k7 [iI (i+1:Nat)])(bx:bu ds s ts.length=false→¬O):
 TL.sat aqD CC (gH fun n=>n=0↔O) [k0,k1,k2,k3,k4,k5,k6,k7] [eI ds,aR r,x2,x3,x4,x5,x6,x7,x8,x9,eh,iV,iD,kH,kS,qM,pz,iI i,.agg [iI op,iS s,iT ts]]:=by
 have gd:=az hi (by omega);have vo:=Jf ds s ts.length hd;refine ao ds.length (fun j (_:Unit)=>[iI j]) (fun j _=>∀d∈ds.take j,¬d.s=s) () ?_ (by simp) fun j _ hj hI=>?_
 ·simp[SE.den]
 by_cases aa:j<ds.length
 ·have hw:=az aa hd;simp[SE.den,aa,hw,gd,tF aa,af,aw];by_cases h1:ds[j].s=s
  ·left;refine⟨h1,_,vo,?_⟩;cases hb:bu ds s ts.length<;>simp[aw]
   ·exact bx hb
   ·exact hk hb
  ·right;exact⟨h1,.mk () rfl (by omega) (ay (p:=fun d:De=>¬d.s=s) aa hI h1)⟩
 ·have:=aF aa hI;simp[SE.den,aa,aw];exact bx (kI fun d hd h=>absurd h (this d hd))
theorem alL(ds:List De)(hd:Sm ds)(r:Rl)(op:Int)(s:List UInt8)(ts:List Tm)(i:Nat)(hi:i<1000)(hk:bu ds s ts.length=true→k8 [iI (i+1:Nat)])(bx:bu ds s ts.length=false→¬O):
 TM.sat aqD CC (gH fun n=>n=0↔O) [k0,k1,k2,k3,k4,k5,k6,k7,k8] [eI ds,aR r,x2,x3,x4,x5,x6,x7,x8,x9,eh,iV,iD,kH,kS,qM,pz,qN,iI i,.agg [iI op,iS s,iT ts]]:=by
 have gd:=az hi (by omega);have vo:=Jf ds s ts.length hd;refine ao ds.length (fun j (_:Unit)=>[iI j]) (fun j _=>∀d∈ds.take j,¬d.s=s) () ?_ (by simp) fun j _ hj hI=>?_
 ·simp[SE.den]
 by_cases aa:j<ds.length
 ·have hw:=az aa hd;simp[SE.den,aa,hw,gd,tF aa,af,aw];by_cases h1:ds[j].s=s
  ·left;refine⟨h1,_,vo,?_⟩;cases hb:bu ds s ts.length<;>simp[aw]
   ·exact bx hb
   ·exact hk hb
  ·right;exact⟨h1,.mk () rfl (by omega) (ay (p:=fun d:De=>¬d.s=s) aa hI h1)⟩
 ·have:=aF aa hI;simp[SE.den,aa,aw];exact bx (kI fun d hd h=>absurd h (this d hd))
theorem ahv(ds:List De)(hd:Sm ds)(r:Rl)(s:List UInt8)(ts:List Tm)(i:Nat)(hi:i<1000)(hk:bu ds s ts.length=true→k5 [iI (i+1:Nat)])(bx:bu ds s ts.length=false→¬O):
 Qw.sat aqD CC (gH fun n=>n=0↔O) [k0,k1,k2,k3,k4,k5] [eI ds,aR r,x2,x3,x4,x5,x6,x7,x8,x9,eh,iV,iD,kH,kS,iI i,.agg [iS s,iT ts]]:=by
 have gd:=az hi (by omega);have vo:=Jf ds s ts.length hd;refine ao ds.length (fun j (_:Unit)=>[iI j]) (fun j _=>∀d∈ds.take j,¬d.s=s) () ?_ (by simp) fun j _ hj hI=>?_
 ·simp[SE.den]
 by_cases aa:j<ds.length
 ·have hw:=az aa hd;simp[SE.den,aa,hw,gd,tF aa,af,aw];by_cases h1:ds[j].s=s
  ·left;refine⟨h1,_,vo,?_⟩;cases hb:bu ds s ts.length<;>simp[aw]
   ·exact bx hb
   ·exact hk hb
  ·right;exact⟨h1,.mk () rfl (by omega) (ay (p:=fun d:De=>¬d.s=s) aa hI h1)⟩
 ·have:=aF aa hI;simp[SE.den,aa,aw];exact bx (kI fun d hd h=>absurd h (this d hd))
theorem ahw(ds:List De)(hd:Sm ds)(r:Rl)(s:List UInt8)(ts:List Tm)(i:Nat)(hi:i<1000)(hk:bu ds s ts.length=true→k6 [iI (i+1:Nat),iB true])(bx:bu ds s ts.length=false→¬O):
 Qx.sat aqD CC (gH fun n=>n=0↔O) [k0,k1,k2,k3,k4,k5,k6] [eI ds,aR r,x2,x3,x4,x5,x6,x7,x8,x9,eh,iV,iD,kH,kS,qM,iI i,qN,.agg [iS s,iT ts]]:=by
 have gd:=az hi (by omega);have vo:=Jf ds s ts.length hd;refine ao ds.length (fun j (_:Unit)=>[iI j]) (fun j _=>∀d∈ds.take j,¬d.s=s) () ?_ (by simp) fun j _ hj hI=>?_
 ·simp[SE.den]
 by_cases aa:j<ds.length
 ·have hw:=az aa hd;simp[SE.den,aa,hw,gd,tF aa,af,aw];by_cases h1:ds[j].s=s
  ·left;refine⟨h1,_,vo,?_⟩;cases hb:bu ds s ts.length<;>simp[aw]
   ·exact bx hb
   ·exact hk hb
  ·right;exact⟨h1,.mk () rfl (by omega) (ay (p:=fun d:De=>¬d.s=s) aa hI h1)⟩
 ·have:=aF aa hI;simp[SE.den,aa,aw];exact bx (kI fun d hd h=>absurd h (this d hd))
theorem ahx(ds:List De)(hd:Sm ds)(r:Rl)(op:Int)(s:List UInt8)(ts:List Tm)(i:Nat)(hi:i<1000)(hk:bu ds s ts.length=true→k7 [iI (i+1:Nat)])(bx:bu ds s ts.length=false→¬O):
 Qy.sat aqD CC (gH fun n=>n=0↔O) [k0,k1,k2,k3,k4,k5,k6,k7] [eI ds,aR r,x2,x3,x4,x5,x6,x7,x8,x9,eh,iV,iD,kH,kS,qM,pz,qN,iI i,.agg [iI op,iS s,iT ts]]:=by
 have gd:=az hi (by omega);have vo:=Jf ds s ts.length hd;refine ao ds.length (fun j (_:Unit)=>[iI j]) (fun j _=>∀d∈ds.take j,¬d.s=s) () ?_ (by simp) fun j _ hj hI=>?_
 ·simp[SE.den]
 by_cases aa:j<ds.length
 ·have hw:=az aa hd;simp[SE.den,aa,hw,gd,tF aa,af,aw];by_cases h1:ds[j].s=s
  ·left;refine⟨h1,_,vo,?_⟩;cases hb:bu ds s ts.length<;>simp[aw]
   ·exact bx hb
   ·exact hk hb
  ·right;exact⟨h1,.mk () rfl (by omega) (ay (p:=fun d:De=>¬d.s=s) aa hI h1)⟩
 ·have:=aF aa hI;simp[SE.den,aa,aw];exact bx (kI fun d hd h=>absurd h (this d hd))
theorem ahy(ds:List De)(hd:Sm ds)(r:Rl)(op:Int)(s:List UInt8)(ts:List Tm)(i:Nat)(hi:i<1000)(hk:bu ds s ts.length=true→k8 [iI (i+1:Nat)])(bx:bu ds s ts.length=false→¬O):
 Qz.sat aqD CC (gH fun n=>n=0↔O) [k0,k1,k2,k3,k4,k5,k6,k7,k8] [eI ds,aR r,x2,x3,x4,x5,x6,x7,x8,x9,eh,iV,iD,kH,kS,qM,pz,qN,y9,iI i,.agg [iI op,iS s,iT ts]]:=by
 have gd:=az hi (by omega);have vo:=Jf ds s ts.length hd;refine ao ds.length (fun j (_:Unit)=>[iI j]) (fun j _=>∀d∈ds.take j,¬d.s=s) () ?_ (by simp) fun j _ hj hI=>?_
 ·simp[SE.den]
 by_cases aa:j<ds.length
 ·have hw:=az aa hd;simp[SE.den,aa,hw,gd,tF aa,af,aw];by_cases h1:ds[j].s=s
  ·left;refine⟨h1,_,vo,?_⟩;cases hb:bu ds s ts.length<;>simp[aw]
   ·exact bx hb
   ·exact hk hb
  ·right;exact⟨h1,.mk () rfl (by omega) (ay (p:=fun d:De=>¬d.s=s) aa hI h1)⟩
 ·have:=aF aa hI;simp[SE.den,aa,aw];exact bx (kI fun d hd h=>absurd h (this d hd))
theorem alM(ds:List De)(r:Rl)(l u:List Int)(hl:Sm l)(hu:Sm u)(hR:(∀v∈u,v∈l)↔O):
 TN.sat aqD CC (gH fun n=>n=0↔O) [k0,k1,k2,k3,k4,k5,k6,k7,k8,k9,k10] [eI ds,aR r,x2,x3,x4,x5,x6,x7,x8,x9,eh,iV,iD,kH,kS,qM,pz,qN,y9,Eh,D2,iL l,iL u]:=by
 refine ao u.length (fun j (_:Unit)=>[iL l,iI j]) (fun j _=>∀v∈u.take j,v∈l) () ?_ (by simp) fun j _ hj hI=>?_
 ·simp[SE.den]
 by_cases aa:j<u.length
 ·have hw:=az aa hu;have abu:=acO l u[j] hl;simp[SE.den,aa,hw,dC aa,af,aw,cellsOf];refine⟨_,abu,?_⟩;by_cases z:u[j]∈l
  ·simp[z,aw];exact .mk () rfl (by omega) (ay aa hI z)
  ·simp[z,aw];exact fun o=>z (hR.2 o _ (aqI aa))
 ·simp[SE.den,aa];exact hR.1 (aF aa hI)
theorem ahz(ds:List De)(r:Rl)(l u:List Int)(hl:Sm l)(hu:Sm u)(hR:(∀v∈u,v∈l)↔O):
 QA.sat aqD CC (gH fun n=>n=0↔O) [k0,k1,k2,k3,k4,k5,k6,k7,k8,k9,k10] [eI ds,aR r,x2,x3,x4,x5,x6,x7,x8,x9,eh,iV,iD,kH,kS,qM,pz,qN,y9,Eh,D2,QM,iL l,iL u]:=by
 refine ao u.length (fun j (_:Unit)=>[iL l,iI j]) (fun j _=>∀v∈u.take j,v∈l) () ?_ (by simp) fun j _ hj hI=>?_
 ·simp[SE.den]
 by_cases aa:j<u.length
 ·have hw:=az aa hu;have abu:=acO l u[j] hl;simp[SE.den,aa,hw,dC aa,af,aw,cellsOf];refine⟨_,abu,?_⟩;by_cases z:u[j]∈l
  ·simp[z,aw];exact .mk () rfl (by omega) (ay aa hI z)
  ·simp[z,aw];exact fun o=>z (hR.2 o _ (aqI aa))
 ·simp[SE.den,aa];exact hR.1 (aF aa hI)
theorem alN(ds:List De)(r:Rl)(h:jk ds r)(hR:R5 r↔O):TO.sat aqD CC (gH fun n=>n=0↔O) [k0,k1,k2,k3,k4,k5,k6,k7,k8,k9] [eI ds,aR r,x2,x3,x4,x5,x6,x7,x8,x9,eh,iV,iD,kH,kS,qM,pz,qN,y9,Eh]:=by
 have hl:=h.body.1;refine ao r.body.length (fun j (_:Unit)=>[iI j]) (fun j _=>∀x∈r.body.take j,jW x.op=false) () ?_ (by simp) fun j b hj hI=>?_
 ·simp[SE.den,af]
 by_cases aa:j<r.body.length
 ·have hw:=az aa (by omega);have hm:=aqI aa;have Hn:=v143 r.body[j].op;simp[SE.den,aa,hw,lT aa,af,aw];refine⟨_,Hn,?_⟩;cases hq:jW r.body[j].op<;>simp[aw]
  ·exact .mk () rfl (by omega) (ay aa hI hq)
  ·exact cw hR fun m=>by have:=m _ hm;simp[hq]at this
 ·obtain⟨g1,g2⟩:=Kt h;obtain⟨g3,g4⟩:=TT h;have hR:=cu hR (aF aa hI);unfold VV at hR;generalize dh [r.keep,r.remove]=u at g1 g2 hR;generalize cU [r.guard]=v at g3 g4 hR;simp[SE.den,aa,af,cellsOf];exact⟨_,g2,_,g4,⟨_,rfl⟩,alM ds r u v (by unfold Sm;omega) (by unfold Sm;omega) hR⟩
theorem ahA(ds:List De)(r:Rl)(h:jk ds r)(hR:R5 r↔O):QB.sat aqD CC (gH fun n=>n=0↔O) [k0,k1,k2,k3,k4,k5,k6,k7,k8,k9] [eI ds,aR r,x2,x3,x4,x5,x6,x7,x8,x9,eh,iV,iD,kH,kS,qM,pz,qN,y9,Eh,D2]:=by
 have hl:=h.body.1;refine ao r.body.length (fun j (_:Unit)=>[iI j]) (fun j _=>∀x∈r.body.take j,jW x.op=false) () ?_ (by simp) fun j b hj hI=>?_
 ·simp[SE.den,af]
 by_cases aa:j<r.body.length
 ·have hw:=az aa (by omega);have hm:=aqI aa;have Hn:=v143 r.body[j].op;simp[SE.den,aa,hw,lT aa,af,aw];refine⟨_,Hn,?_⟩;cases hq:jW r.body[j].op<;>simp[aw]
  ·exact .mk () rfl (by omega) (ay aa hI hq)
  ·exact cw hR fun m=>by have:=m _ hm;simp[hq]at this
 ·obtain⟨g1,g2⟩:=Kt h;obtain⟨g3,g4⟩:=TT h;have hR:=cu hR (aF aa hI);unfold VV at hR;generalize dh [r.keep,r.remove]=u at g1 g2 hR;generalize cU [r.guard]=v at g3 g4 hR;simp[SE.den,aa,af,cellsOf];exact⟨_,g2,_,g4,⟨_,rfl⟩,ahz ds r u v (by unfold Sm;omega) (by unfold Sm;omega) hR⟩
theorem alO(ds:List De)(r:Rl)(h:jk ds r)(hR:R6 r↔O):TP.sat aqD CC (gH fun n=>n=0↔O) [k0,k1,k2,k3,k4,k5,k6,k7,k8] [eI ds,aR r,x2,x3,x4,x5,x6,x7,x8,x9,eh,iV,iD,kH,kS,qM,pz,qN,y9]:=by
 have hl:=h.guard.1;refine ao r.guard.length (fun j (_:Unit)=>[iI j]) (fun j _=>∀x∈r.guard.take j,(jW x.op=true∨x.op=1)) () ?_ (by simp) fun j b hj hI=>?_
 ·simp[SE.den,af]
 by_cases aa:j<r.guard.length
 ·have hw:=az aa (by omega);have hm:=aqI aa;have Hn:=v143 r.guard[j].op;have hs:=fun q=>ay (p:=fun x:Gl=>jW x.op=true∨x.op=1) aa hI q;simp[SE.den,aa,hw,lT aa,af,aw];refine⟨_,Hn,?_⟩;cases hq:jW r.guard[j].op<;>simp[aw]
  ·by_cases z:r.guard[j].op=1
   ·right;exact⟨z,.mk () rfl (by omega) (hs (.inr z))⟩
   ·left;exact⟨z,cw hR fun m=>by have:=m _ hm;simp[hq,z]at this⟩
  ·exact .mk () rfl (by omega) (hs (.inl hq))
 ·have hR:=cu hR (aF aa hI);simp[SE.den,aa,af];exact alN ds r h hR
theorem ahB(ds:List De)(r:Rl)(h:jk ds r)(hR:R6 r↔O):QC.sat aqD CC (gH fun n=>n=0↔O) [k0,k1,k2,k3,k4,k5,k6,k7,k8] [eI ds,aR r,x2,x3,x4,x5,x6,x7,x8,x9,eh,iV,iD,kH,kS,qM,pz,qN,y9,Eh]:=by
 have hl:=h.guard.1;refine ao r.guard.length (fun j (_:Unit)=>[iI j]) (fun j _=>∀x∈r.guard.take j,(jW x.op=true∨x.op=1)) () ?_ (by simp) fun j b hj hI=>?_
 ·simp[SE.den,af]
 by_cases aa:j<r.guard.length
 ·have hw:=az aa (by omega);have hm:=aqI aa;have Hn:=v143 r.guard[j].op;have hs:=fun q=>ay (p:=fun x:Gl=>jW x.op=true∨x.op=1) aa hI q;simp[SE.den,aa,hw,lT aa,af,aw];refine⟨_,Hn,?_⟩;cases hq:jW r.guard[j].op<;>simp[aw]
  ·by_cases z:r.guard[j].op=1
   ·right;exact⟨z,.mk () rfl (by omega) (hs (.inr z))⟩
   ·left;exact⟨z,cw hR fun m=>by have:=m _ hm;simp[hq,z]at this⟩
  ·exact .mk () rfl (by omega) (hs (.inl hq))
 ·have hR:=cu hR (aF aa hI);simp[SE.den,aa,af];exact ahA ds r h hR
theorem alP(ds:List De)(r:Rl)(h:jk ds r)(hR:R7 ds r↔O):TQ.sat aqD CC (gH fun n=>n=0↔O) [k0,k1,k2,k3,k4,k5,k6,k7] [eI ds,aR r,x2,x3,x4,x5,x6,x7,x8,x9,eh,iV,iD,kH,kS,qM,pz,qN]:=by
 have hl:=h.body.1;refine ao r.body.length (fun j (_:Unit)=>[iI j]) (fun j _=>∀x∈r.body.take j,(x.op=0→bu ds x.s x.ts.length=true)) () ?_ (by simp) fun j b hj hI=>?_
 ·simp[SE.den,af]
 by_cases aa:j<r.body.length
 ·have hw:=az aa (by omega);have hm:=aqI aa;have hs:=fun q=>ay (p:=fun x:Gl=>x.op=0→bu ds x.s x.ts.length=true) aa hI q;simp[SE.den,aa,hw,lT aa,af,aw];by_cases z:r.body[j].op=0
  ·left;exact⟨z,alL ds h.d r r.body[j].op r.body[j].s r.body[j].ts j (by omega) (fun q=>.mk () rfl (by omega) (hs fun _=>q)) fun q=>cw hR fun m=>by have:=m _ hm z;simp[q]at this⟩
  ·right;exact⟨z,.mk () rfl (by omega) (hs fun q=>absurd q z)⟩
 ·have hR:=cu hR (aF aa hI);simp[SE.den,aa,af];exact alO ds r h hR
theorem ahC(ds:List De)(r:Rl)(h:jk ds r)(hR:R7 ds r↔O):QD.sat aqD CC (gH fun n=>n=0↔O) [k0,k1,k2,k3,k4,k5,k6,k7] [eI ds,aR r,x2,x3,x4,x5,x6,x7,x8,x9,eh,iV,iD,kH,kS,qM,pz,qN,y9]:=by
 have hl:=h.body.1;refine ao r.body.length (fun j (_:Unit)=>[iI j]) (fun j _=>∀x∈r.body.take j,(x.op=0→bu ds x.s x.ts.length=true)) () ?_ (by simp) fun j b hj hI=>?_
 ·simp[SE.den,af]
 by_cases aa:j<r.body.length
 ·have hw:=az aa (by omega);have hm:=aqI aa;have hs:=fun q=>ay (p:=fun x:Gl=>x.op=0→bu ds x.s x.ts.length=true) aa hI q;simp[SE.den,aa,hw,lT aa,af,aw];by_cases z:r.body[j].op=0
  ·left;exact⟨z,ahy ds h.d r r.body[j].op r.body[j].s r.body[j].ts j (by omega) (fun q=>.mk () rfl (by omega) (hs fun _=>q)) fun q=>cw hR fun m=>by have:=m _ hm z;simp[q]at this⟩
  ·right;exact⟨z,.mk () rfl (by omega) (hs fun q=>absurd q z)⟩
 ·have hR:=cu hR (aF aa hI);simp[SE.den,aa,af];exact ahB ds r h hR
theorem alQ(ds:List De)(r:Rl)(h:jk ds r)(hR:R8 ds r↔O):TR.sat aqD CC (gH fun n=>n=0↔O) [k0,k1,k2,k3,k4,k5,k6] [eI ds,aR r,x2,x3,x4,x5,x6,x7,x8,x9,eh,iV,iD,kH,kS,qM,pz]:=by
 have hl:=h.guard.1;refine ao r.guard.length (fun j (_:Unit)=>[iI j]) (fun j _=>∀x∈r.guard.take j,(x.op=0→bu ds x.s x.ts.length=true)) () ?_ (by simp) fun j b hj hI=>?_
 ·simp[SE.den,af]
 by_cases aa:j<r.guard.length
 ·have hw:=az aa (by omega);have hm:=aqI aa;have hs:=fun q=>ay (p:=fun x:Gl=>x.op=0→bu ds x.s x.ts.length=true) aa hI q;simp[SE.den,aa,hw,lT aa,af,aw];by_cases z:r.guard[j].op=0
  ·left;exact⟨z,alK ds h.d r r.guard[j].op r.guard[j].s r.guard[j].ts j (by omega) (fun q=>.mk () rfl (by omega) (hs fun _=>q)) fun q=>cw hR fun m=>by have:=m _ hm z;simp[q]at this⟩
  ·right;exact⟨z,.mk () rfl (by omega) (hs fun q=>absurd q z)⟩
 ·have hR:=cu hR (aF aa hI);simp[SE.den,aa,af];exact alP ds r h hR
theorem ahD(ds:List De)(r:Rl)(h:jk ds r)(hR:R8 ds r↔O):QE.sat aqD CC (gH fun n=>n=0↔O) [k0,k1,k2,k3,k4,k5,k6] [eI ds,aR r,x2,x3,x4,x5,x6,x7,x8,x9,eh,iV,iD,kH,kS,qM,pz,qN]:=by
 have hl:=h.guard.1;refine ao r.guard.length (fun j (_:Unit)=>[iI j]) (fun j _=>∀x∈r.guard.take j,(x.op=0→bu ds x.s x.ts.length=true)) () ?_ (by simp) fun j b hj hI=>?_
 ·simp[SE.den,af]
 by_cases aa:j<r.guard.length
 ·have hw:=az aa (by omega);have hm:=aqI aa;have hs:=fun q=>ay (p:=fun x:Gl=>x.op=0→bu ds x.s x.ts.length=true) aa hI q;simp[SE.den,aa,hw,lT aa,af,aw];by_cases z:r.guard[j].op=0
  ·left;exact⟨z,ahx ds h.d r r.guard[j].op r.guard[j].s r.guard[j].ts j (by omega) (fun q=>.mk () rfl (by omega) (hs fun _=>q)) fun q=>cw hR fun m=>by have:=m _ hm z;simp[q]at this⟩
  ·right;exact⟨z,.mk () rfl (by omega) (hs fun q=>absurd q z)⟩
 ·have hR:=cu hR (aF aa hI);simp[SE.den,aa,af];exact ahC ds r h hR
theorem alR(ds:List De)(r:Rl)(h:jk ds r)(hR:R9 ds r↔O):TS.sat aqD CC (gH fun n=>n=0↔O) [k0,k1,k2,k3,k4,k5] [eI ds,aR r,x2,x3,x4,x5,x6,x7,x8,x9,eh,iV,iD,kH,kS]:=by
 have hl:=h.remove.1;refine ao r.remove.length (fun j (b:Bool)=>[iI j,iB b]) (fun j _=>∀x∈r.remove.take j,bu ds x.s x.ts.length=true) false ?_ (by simp) fun j b hj hI=>?_
 ·simp[SE.den,af]
 by_cases aa:j<r.remove.length
 ·have hw:=az aa (by omega);have hm:=aqI aa;simp[SE.den,aa,hw,rB aa,af,aw];exact alJ ds h.d r r.remove[j].s r.remove[j].ts j (by omega) (fun q=>.mk true rfl (by omega) (ay (p:=fun x:At=>bu ds x.s x.ts.length=true) aa hI q)) fun q=>cw hR fun m=>by have:=m _ hm;simp[q]at this
 ·have hR:=cu hR (aF aa hI);simp[SE.den,aa,af];exact alQ ds r h hR
theorem ahE(ds:List De)(r:Rl)(h:jk ds r)(hR:R9 ds r↔O):QF.sat aqD CC (gH fun n=>n=0↔O) [k0,k1,k2,k3,k4,k5] [eI ds,aR r,x2,x3,x4,x5,x6,x7,x8,x9,eh,iV,iD,kH,kS,qM]:=by
 have hl:=h.remove.1;refine ao r.remove.length (fun j (b:Bool)=>[iI j,iB b]) (fun j _=>∀x∈r.remove.take j,bu ds x.s x.ts.length=true) false ?_ (by simp) fun j b hj hI=>?_
 ·simp[SE.den,af]
 by_cases aa:j<r.remove.length
 ·have hw:=az aa (by omega);have hm:=aqI aa;simp[SE.den,aa,hw,rB aa,af,aw];exact ahw ds h.d r r.remove[j].s r.remove[j].ts j (by omega) (fun q=>.mk true rfl (by omega) (ay (p:=fun x:At=>bu ds x.s x.ts.length=true) aa hI q)) fun q=>cw hR fun m=>by have:=m _ hm;simp[q]at this
 ·have hR:=cu hR (aF aa hI);simp[SE.den,aa,af];exact ahD ds r h hR
theorem ahF(ds:List De)(r:Rl)(h:jk ds r)(hR:R10 ds r↔O):Qv.sat aqD CC (gH fun n=>n=0↔O) [k0,k1,k2,k3,k4] [eI ds,aR r,x2,x3,x4,x5,x6,x7,x8,x9,eh,iV,iD,kH]:=by
 have hl:=h.keep.1;refine ao r.keep.length (fun j (_:Unit)=>[iI j]) (fun j _=>∀x∈r.keep.take j,bu ds x.s x.ts.length=true) () ?_ (by simp) fun j b hj hI=>?_
 ·simp[SE.den,af]
 by_cases aa:j<r.keep.length
 ·have hw:=az aa (by omega);have hm:=aqI aa;simp[SE.den,aa,hw,rB aa,af,aw];exact alI ds h.d r r.keep[j].s r.keep[j].ts j (by omega) (fun q=>.mk () rfl (by omega) (ay (p:=fun x:At=>bu ds x.s x.ts.length=true) aa hI q)) fun q=>cw hR fun m=>by have:=m _ hm;simp[q]at this
 ·have hR:=cu hR (aF aa hI);simp[SE.den,aa,af];exact alR ds r h hR
theorem ahG(ds:List De)(r:Rl)(h:jk ds r)(hR:R10 ds r↔O):QG.sat aqD CC (gH fun n=>n=0↔O) [k0,k1,k2,k3,k4] [eI ds,aR r,x2,x3,x4,x5,x6,x7,x8,x9,eh,iV,iD,kH,kS]:=by
 have hl:=h.keep.1;refine ao r.keep.length (fun j (_:Unit)=>[iI j]) (fun j _=>∀x∈r.keep.take j,bu ds x.s x.ts.length=true) () ?_ (by simp) fun j b hj hI=>?_
 ·simp[SE.den,af]
 by_cases aa:j<r.keep.length
 ·have hw:=az aa (by omega);have hm:=aqI aa;simp[SE.den,aa,hw,rB aa,af,aw];exact ahv ds h.d r r.keep[j].s r.keep[j].ts j (by omega) (fun q=>.mk () rfl (by omega) (ay (p:=fun x:At=>bu ds x.s x.ts.length=true) aa hI q)) fun q=>cw hR fun m=>by have:=m _ hm;simp[q]at this
 ·have hR:=cu hR (aF aa hI);simp[SE.den,aa,af];exact ahE ds r h hR
abbrev NM(r:Rl):Prop:=r.name=[]∨fN r.name=true
theorem ahH(ds:List De)(r:Rl)(h:jk ds r)(l:List Int)(hl:l.length≤1000000000)(hR:(Aw 0 l=some r.vars∧NM r∧R10 ds r)↔O):QH.sat aqD CC (gH fun n=>n=0↔O) [k0,k1,k2,k3] [eI ds,aR r,x2,x3,x4,x5,x6,x7,x8,x9,eh,iL l]:=by
 have h83:=Zk r.name;refine ao l.length (fun j (a:Int)=>[iI j,iI a]) (fun j a=>0≤a∧a≤j∧Aw 0 l=Aw a (l.drop j)) 0 ?_ (by simp) fun j a hj hI=>?_
 ·simp[SE.den,af]
 obtain⟨nQ,jh,qO⟩:=hI;by_cases aa:j<l.length
 ·have hw:=az aa (by omega);have hwa:arc.wrap (a+1)=a+1:=dL (by omega) (by omega);rw[List.drop_eq_getElem_cons aa]at qO;simp[SE.den,aa,hw,dC aa,af,cellsOf,aw];by_cases z1:l[j]≤a
  ·right;refine⟨by omega,?_⟩;by_cases z2:l[j]=a
   ·left;refine⟨z2,.mk (a+1) (by rw[hwa];rfl) (by omega) ⟨by omega,by omega,?_⟩⟩;rw[qO,Aw,if_pos z1,if_pos z2]
   ·right;refine⟨z2,.mk a rfl (by omega) ⟨by omega,by omega,?_⟩⟩;rw[qO,Aw,if_pos z1,if_neg z2]
  ·left;refine⟨by omega,cw hR ?_⟩;rw[qO,Aw,if_neg z1];exact fun h=>by cases h
 ·rw[List.drop_of_length_le (by omega),Aw]at qO;simp[SE.den,aa,af,aw];by_cases z1:r.vars=a
  ·right;refine⟨z1,?_⟩;have hR:=cu hR (by rw[qO,z1]);by_cases z2:r.name=[]
   ·left;exact⟨z2,ahF ds r h (cu hR (.inl z2))⟩
   ·right;refine⟨z2,_,h83,?_⟩;cases hb:fN r.name<;>simp[aw]
    ·exact cw hR fun m=>by rcases m with m|m;exact z2 m;simp[hb]at m
    exact ahG ds r h (cu hR (.inr hb))
  ·left;refine⟨z1,cw hR ?_⟩;rw[qO];exact fun h=>by cases h;exact z1 rfl
structure MD(ds:List De)(r:Rl):Prop where
 d:Sm ds
 s:IW r
 n:IX r
theorem MD.ok{ds:List De}{r:Rl}(h:MD ds r)(h1:∀a∈r.keep,dr a=true)(h2:∀a∈r.remove,dr a=true)(h3:∀a∈r.guard,dW a=true)(h4:∀a∈r.body,dW a=true):jk ds r:=
 ⟨h.d,h.s,h.n,h.n.for (fun a ha=>(aqX.1 ha).elim (fun q=>ny (h1 a q)) fun q=>ny (h2 a q)) (fun a ha=>(aqX.1 ha).elim (fun q=>uo (h3 a q)) fun q=>uo (h4 a q))⟩
abbrev R22(ds:List De)(r:Rl):Prop:=Aw 0 (dh [r.keep,r.remove]++cU [r.guard,r.body])=some r.vars∧NM r∧R10 ds r
abbrev R23(ds:List De)(r:Rl):Prop:=(∀a∈r.body,dW a=true)∧R22 ds r
abbrev R24(ds:List De)(r:Rl):Prop:=(∀a∈r.guard,dW a=true)∧R23 ds r
abbrev R25(ds:List De)(r:Rl):Prop:=(∀a∈r.remove,dr a=true)∧R24 ds r
abbrev R26(ds:List De)(r:Rl):Prop:=(∀a∈r.keep,dr a=true)∧R25 ds r
theorem ahI(ds:List De)(r:Rl)(h:MD ds r)(h1:∀a∈r.keep,dr a=true)(h2:∀a∈r.remove,dr a=true)(h3:∀a∈r.guard,dW a=true)(hR:R23 ds r↔O):QI.sat aqD CC (gH fun n=>n=0↔O) [k0,k1,k2] [eI ds,aR r,x2,x3,x4,x5,x6]:=by
 have hl:=h.s.b;refine ao r.body.length (fun j (b:Bool)=>[iI j,iB b]) (fun j _=>∀x∈r.body.take j,dW x=true) false ?_ (by simp) fun j b hj hI=>?_
 ·simp[SE.den,af]
 by_cases aa:j<r.body.length
 ·have hw:=az aa (by omega);have hm:=aqI aa;have abv:=v138 r.body[j] (h.n.gs _ (arn _ hm));simp[SE.den,aa,hw,lT aa,af,aw];refine⟨_,abv,?_⟩;cases hq:dW r.body[j]<;>simp[aw]
  ·exact cw hR fun m=>by have:=m _ hm;simp[hq]at this
  exact .mk true rfl (by omega) (ay (p:=fun x=>dW x=true) aa hI hq)
 ·have h4:=aF aa hI;have h:=h.ok h1 h2 h3 h4;have hR:=cu hR h4;obtain⟨g1,g2⟩:=Kt h;obtain⟨g3,g4⟩:=aei h;have hc:=nO (a:=dh [r.keep,r.remove]) (b:=cU [r.guard,r.body]) (by omega);unfold R22 at hR;generalize dh [r.keep,r.remove]=u at g1 g2 hc hR;generalize cU [r.guard,r.body]=v at g3 g4 hc hR;simp[SE.den,aa,af,cellsOf];refine⟨_,g2,_,g4,?_⟩;simp[hc];exact ahH ds r h (u++v) (by rw[aq3];omega) hR
theorem ahJ(ds:List De)(r:Rl)(h:MD ds r)(h1:∀a∈r.keep,dr a=true)(h2:∀a∈r.remove,dr a=true)(hR:R24 ds r↔O):QJ.sat aqD CC (gH fun n=>n=0↔O) [k0,k1] [eI ds,aR r,x2,x3,x4,x5]:=by
 have hl:=h.s.g;refine ao r.guard.length (fun j (_:Unit)=>[iI j]) (fun j _=>∀x∈r.guard.take j,dW x=true) () ?_ (by simp) fun j b hj hI=>?_
 ·simp[SE.den,af]
 by_cases aa:j<r.guard.length
 ·have hw:=az aa (by omega);have hm:=aqI aa;have abv:=v138 r.guard[j] (h.n.gs _ (arp _ hm));simp[SE.den,aa,hw,lT aa,af,aw];refine⟨_,abv,?_⟩;cases hq:dW r.guard[j]<;>simp[aw]
  ·exact cw hR fun m=>by have:=m _ hm;simp[hq]at this
  exact .mk () rfl (by omega) (ay (p:=fun x=>dW x=true) aa hI hq)
 ·have h3:=aF aa hI;simp[SE.den,aa,af];exact ahI ds r h h1 h2 h3 (cu hR h3)
theorem ahK(ds:List De)(r:Rl)(h:MD ds r)(h1:∀a∈r.keep,dr a=true)(hR:R25 ds r↔O):QK.sat aqD CC (gH fun n=>n=0↔O) [k0] [eI ds,aR r,x2,x3]:=by
 have hl:=h.s.h;refine ao r.remove.length (fun j (b:Bool)=>[iI j,iB b]) (fun j _=>∀x∈r.remove.take j,dr x=true) false ?_ (by simp) fun j b hj hI=>?_
 ·simp[SE.den,af]
 by_cases aa:j<r.remove.length
 ·have hw:=az aa (by omega);have hm:=aqI aa;have Zs:=v45 r.remove[j] (h.n.hs _ (arn _ hm));simp[SE.den,aa,hw,rB aa,af,aw];refine⟨_,Zs,?_⟩;cases hq:dr r.remove[j]<;>simp[aw]
  ·exact cw hR fun m=>by have:=m _ hm;simp[hq]at this
  exact .mk true rfl (by omega) (ay (p:=fun x=>dr x=true) aa hI hq)
 ·have h2:=aF aa hI;simp[SE.den,aa,af];exact ahJ ds r h h1 h2 (cu hR h2)
theorem ahL(ds:List De)(r:Rl)(h:MD ds r)(hR:R26 ds r↔O):QL.sat aqD CC (gH fun n=>n=0↔O) [] [eI ds,aR r,x2]:=by
 have hl:=h.s.h;refine ao r.keep.length (fun j (_:Unit)=>[iI j]) (fun j _=>∀x∈r.keep.take j,dr x=true) () ?_ (by simp) fun j b hj hI=>?_
 ·simp[SE.den,af]
 by_cases aa:j<r.keep.length
 ·have hw:=az aa (by omega);have hm:=aqI aa;have Zs:=v45 r.keep[j] (h.n.hs _ (arp _ hm));simp[SE.den,aa,hw,rB aa,af,aw];refine⟨_,Zs,?_⟩;cases hq:dr r.keep[j]<;>simp[aw]
  ·exact cw hR fun m=>by have:=m _ hm;simp[hq]at this
  exact .mk () rfl (by omega) (ay (p:=fun x=>dr x=true) aa hI hq)
 ·have h1:=aF aa hI;simp[SE.den,aa,af];exact ahK ds r h h1 (cu hR h1)
theorem aeq(ds:List De)(r:Rl):(r.keep++r.remove≠[]∧R26 ds r)↔tH ds r:=by
 have hw:=fun h1 h2=>aep (r:=r) (n:=r.vars) (RS h1 h2)
 have hv:VV r↔∀g∈r.guard,∀v∈varsOf g.ts,v∈varsOf (fO (r.keep++r.remove)):=by
  rw[←Zr];exact⟨fun h v hv=>(MC r v).1 (h v hv),fun h v hv=>(MC r v).2 (h v hv)⟩
 constructor
 ·rintro⟨h0,h1,h2,h3,h4,h5,h6,h7,h8,h9,FQ,HP,H3,h13⟩;have hA:∀a∈r.keep++r.remove,dr a=true:=fun a ha=>(aqX.1 ha).elim (h1 a) (h2 a);have hG:∀a∈r.guard++r.body,dW a=true:=fun a ha=>(aqX.1 ha).elim (h3 a) (h4 a)
  exact⟨h0,hA,hG,(hw (fun a ha=>ny (hA a ha)) (fun a ha=>(uo (hG a ha)).2)).2 h5,h6,
   fun a ha=>(aqX.1 ha).elim (h7 a) (h8 a),fun a ha=>(aqX.1 ha).elim (h9 a) (FQ a),HP,H3,hv.1 h13⟩
 ·rintro⟨h0,hA,hG,h5,h6,hM⟩
  exact⟨h0,fun a ha=>hA a (arp _ ha),fun a ha=>hA a (arn _ ha),fun a ha=>hG a (arp _ ha),fun a ha=>hG a (arn _ ha),
   (hw (fun a ha=>ny (hA a ha)) (fun a ha=>(uo (hG a ha)).2)).1 h5,h6,fun a ha=>hM.h a (arp _ ha),fun a ha=>hM.h a (arn _ ha),
   fun a ha=>hM.c a (arp _ ha),fun a ha=>hM.c a (arn _ ha),hM.g,hM.b,hv.2 hM.v⟩
theorem v84(ds:List De)(r:Rl)(h:MD ds r):∃n,(n=0↔tH ds r)∧CC 84 false [eI ds,oc r] (iI n):=by
 have h3:=h.s.h;have hg:=h.s.g;have hb:=h.s.b;have hw:arc.wrap ((r.keep.length:Int)+r.remove.length)=r.keep.length+r.remove.length:=dL (by omega) (by omega);refine CC.Ki _ ao6 n84 t84 (by intro x hx;rcases arv.1 hx with rfl|hx;exact G_ _;obtain rfl:=arx.1 hx;exact ji r) (by rfl) ?_;have hR:=aeq ds r;generalize tH ds r=O at hR;rw[iQ];simp[acQ,SE.den,af,hw];refine⟨_,acR true (.av []),?_⟩;by_cases hp:0<r.keep.length+r.remove.length
 ·have aT:r.keep++r.remove≠[]:=fun e=>by have:=congrArg List.length e;simp at this;simp[this]at hp
  left;refine⟨by omega,?_⟩;left;refine⟨by omega,?_⟩;left;refine⟨by omega,?_⟩;right;refine⟨by omega,?_⟩;exact ahL ds r h (cu hR aT)
 ·right;refine⟨by omega,?_⟩;have:r.keep++r.remove=[]:=List.eq_nil_of_length_eq_zero (by rw[aq3];omega);exact⟨rfl,fun o=>(hR.2 o).1 this⟩
end
end Go.Proofs.YtggffkaadeagbaaGreat
