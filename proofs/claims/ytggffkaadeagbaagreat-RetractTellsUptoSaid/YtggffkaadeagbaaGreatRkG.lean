/- A part of the proof, no condition: the check of a rule, of the reference and of the program. -/
import Derived.Test.YtggffkaadeagbaaGreatRkA
import Derived.Test.YtggffkaadeagbaaGreatRiJ
import Derived.Test.YtggffkaadeagbaaGreatRiM
open List renaming take_succ_eq_append_getElem->asX,map_append->avR,flatten_append->at1,mem_flatten->avl,mem_map->ath,length_append->atc,getElem_mem->asO,mem_append->as8,take_of_length_le->as0,mem_cons->aty,mem_singleton->atF,mem_append_left->atz,mem_append_right->atx
open Bool renaming and_eq_true->asN
open Nat renaming lt_succ_iff_lt_or_eq->au7
open Option.some renaming injEq->asP
open Go.Proofs.Tryz renaming prog->asK
open Go.IntKind renaming i64->as7
open Option renaming some->aa,none->ah
open Bool renaming true->ab,false->af
set_option linter.all false
namespace Go.Proofs.YtggffkaadeagbaaGreat
open Go Go.Ev
def gg(l:List At):List Tm:=(l.map At.ts).flatten
def mX(l:List Gl):List Tm:=(l.map Gl.ts).flatten
theorem Kf{l:List At}{i:Nat}(h:i<l.length):gg (l.take (i+1))=gg (l.take i)++l[i].ts:=by
 unfold gg;rw[asX h,avR,at1];simp
theorem XQ{l:List Gl}{i:Nat}(h:i<l.length):mX (l.take (i+1))=mX (l.take i)++l[i].ts:=by
 unfold mX;rw[asX h,avR,at1];simp
theorem FA{l:List At}{t:Tm}:t∈gg l↔∃a∈l,t∈a.ts:=by
 simp only[gg,avl,ath];exact⟨λ⟨_,⟨a,h1,h2⟩,h3⟩=>⟨a,h1,h2▸h3⟩,λ⟨a,h1,h2⟩=>⟨_,⟨a,h1,rfl⟩,h2⟩⟩
theorem NO{l:List Gl}{t:Tm}:t∈mX l↔∃a∈l,t∈a.ts:=by
 simp only[mX,avl,ath];exact⟨λ⟨_,⟨a,h1,h2⟩,h3⟩=>⟨a,h1,h2▸h3⟩,λ⟨a,h1,h2⟩=>⟨_,⟨a,h1,rfl⟩,h2⟩⟩
theorem qp{ts:List Tm}(h:∀t∈ts,dE t):Vr (varsOf ts):=by
 show Vr (Bv (fL ts));rw[<-yZ];exact Vr.nil.cS (XP h)
theorem v203(r:Rl)(h:JY r)(hf:Bt r):CC 203 af [ph r] (iL (varsOf (gg (r.keep++r.remove)))):=by
 refine CC.Dg amg n203 t203 (by simpa using jK r) (by rfl) ?_;have sG:=Xy r (by have:=h.h;omega);have hl:=h.h;have h1:=h.hs;have h2:=hf.hs;rw[<-atc]at hl;rw[js]at sG⊢;generalize r.keep++r.remove=hs at sG hl h1 h2⊢;simp[aah,SE.den,aj];refine⟨_,sG,?_⟩;simp;unfold Q5;refine aw hs.length (λi (a:List Tm)=>[iI i,iT a]) (λi a=>a=gg (hs.take i)/\a.length<=8*i/\∀t∈a,WF t) [] ?_ (by simp[gg]) λi a hi hI=>?_
 ·simp[SE.den]
 obtain⟨iU,oT,iR⟩:=hI;by_cases ai:i<hs.length
 ·have hw:=aD ai (by omega);have hm:=asO ai;have hk:=h1 _ hm;have hc:=Xz (a:=a) (b:=hs[i].ts) (by omega);simp[SE.den,ai,hw,ly ai,aj,hc]
  exact .mk (a++hs[i].ts) (by simp) (by omega) ⟨by rw[Kf ai,iU],by simp;omega,λt ht=>by
   rcases as8.1 ht with ht|ht
   ·exact iR t ht
   ·exact h2 _ hm t ht⟩
 ·rw[as0 (by omega)]at iU;have hb:=aeD a (by unfold Sm;omega) iR;simp[SE.den,ai,aj];rw[iU]at hb⊢;exact⟨_,hb,by simp⟩
def v7(r:Rl):List Tm:=gg (r.keep++r.remove)++mX (r.guard++r.body)
theorem ars(r:Rl)(h:JY r)(hf:Bt r):CC 153 af [ph r] (iL (varsOf (v7 r))):=by
 refine CC.Dg ama n153 t153 (by simpa using jK r) (by rfl) ?_;have sG:=Xy r (by have:=h.h;omega);have y6:=acS r (by have:=h.g;have:=h.b;omega);have hl:=h.h;have NP:r.guard.length+r.body.length<=12:=by have:=h.g;have:=h.b;omega
 have h1:=h.hs;have h2:=hf.hs;have g1:=h.gs;have g2:=hf.gs;unfold v7;rw[<-atc]at hl NP;rw[js]at sG y6⊢;generalize r.keep++r.remove=hs at sG hl h1 h2⊢;generalize r.guard++r.body=gs at y6 NP g1 g2⊢;simp[aab,SE.den,aj];refine⟨_,sG,?_⟩;simp;unfold QW;refine aw hs.length (λi (a:List Tm)=>[iI i,iT a]) (λi a=>a=gg (hs.take i)/\a.length<=8*i/\∀t∈a,WF t) [] ?_ (by simp[gg]) λi a hi hI=>?_
 ·simp[SE.den]
 obtain⟨iU,oT,iR⟩:=hI;by_cases ai:i<hs.length
 ·have hw:=aD ai (by omega);have hm:=asO ai;have hk:=h1 _ hm;have hc:=Xz (a:=a) (b:=hs[i].ts) (by omega);simp[SE.den,ai,hw,ly ai,aj,hc]
  exact .mk (a++hs[i].ts) (by simp) (by omega) ⟨by rw[Kf ai,iU],by simp;omega,λt ht=>by
   rcases as8.1 ht with ht|ht
   ·exact iR t ht
   ·exact h2 _ hm t ht⟩
 ·rw[as0 (by omega)]at iU;simp[SE.den,ai,aj];refine⟨_,y6,?_⟩;simp;unfold QV;refine aw gs.length (λi (a:List Tm)=>[iI i,iT a]) (λi a=>a=gg hs++mX (gs.take i)/\a.length<=24+8*i/\∀t∈a,WF t) a ?_ ⟨by simp[mX,iU],by omega,iR⟩ λj a hj hJ=>?_
  ·simp[SE.den]
  obtain⟨kR,bD,ff⟩:=hJ;by_cases ai:j<gs.length
  ·have hw:=aD ai (by omega);have hm:=asO ai;have hk:=g1 _ hm;have hc:=Xz (a:=a) (b:=gs[j].ts) (by omega);simp[SE.den,ai,hw,mI ai,aj,hc]
   exact .mk (a++gs[j].ts) (by simp) (by omega) ⟨by rw[XQ ai,kR,List.append_assoc],by simp;omega,λt ht=>by
    rcases as8.1 ht with ht|ht
    ·exact ff t ht
    ·exact(g2 _ hm).2 t ht⟩
  ·rw[as0 (by omega)]at kR;have hb:=aeD a (by unfold Sm;omega) ff;simp[SE.den,ai,aj];rw[kR]at hb⊢;exact⟨_,hb,by simp⟩
structure v8(ds:List De)(r:Rl):Prop where
 h:∀a∈r.keep++r.remove,br ds a.s a.ts.length=ab
 c:Ke ds (r.guard++r.body)
 g:∀g∈r.guard,kK g.op=ab\/g.op=1
 b:∀g∈r.body,kK g.op=af
 v:∀g∈r.guard,∀v∈varsOf g.ts,v∈varsOf (gg (r.keep++r.remove))
theorem v154(ds:List De)(hd:Sm ds)(r:Rl)(h:JY r)(hf:Bt r):∃n,(n=0↔v8 ds r)/\CC 154 af [eK ds,ph r] (iI n):=by
 refine CC.LA _ amc n154 t154 (by intro x hx;rcases aty.1 hx with rfl|hx;exact Ie _;obtain rfl:=atF.1 hx;exact jK r) (by rfl) ?_;have ac5:=v203 r h hf
 have ai_:Vr (varsOf (gg (r.keep++r.remove))):=qp λt ht=>by
  obtain⟨a,ha,ht⟩:=FA.1 ht;exact(hf.hs a ha t ht).2
 have aja:=ai_.len;have sG:=Xy r (by have:=h.h;omega);have y6:=acS r (by have:=h.g;have:=h.b;omega);have hl:=h.h;have NP:r.guard.length+r.body.length<=12:=by have:=h.g;have:=h.b;omega
 have hg:=h.g;have hb:=h.b;have g2:=hf.gs;have g1:=h.gs;have hM1:=λm:v8 ds r=>m.h;have hM2:=λm:v8 ds r=>m.c;have hM3:=λm:v8 ds r=>m.g;have hM4:=λm:v8 ds r=>m.b;have hM5:=λm:v8 ds r=>m.v;have hM:=λa b c d e=>(⟨a,b,c,d,e⟩:v8 ds r);generalize v8 ds r=M at hM1 hM2 hM3 hM4 hM5 hM⊢;rw[<-atc]at hl NP;rw[js]at sG y6 ac5⊢;generalize hV:varsOf (gg (r.keep++r.remove))=Sn at ac5 ai_ aja hM5 hM;generalize r.keep++r.remove=hs at sG hl hM1 hM;obtain⟨art,ac6,ajb⟩:=v201 ds (r.guard++r.body) hd (by unfold Sm;omega);generalize hgs:r.guard++r.body=gs at y6 NP ajb ac6 hM2 hM;obtain⟨rn,rk,rr,rg,rb,rv⟩:=r;simp only at*
 simp[aad,SE.den,aj];refine⟨_,sG,?_⟩;simp;unfold Q2;refine aw hs.length (λi (_:Unit)=>[iI i]) (λi _=>∀a∈hs.take i,br ds a.s a.ts.length=ab) () ?_ (by simp) λi _ hi hI=>?_
 ·simp[SE.den]
 by_cases ai:i<hs.length
 ·have hw:=aD ai (by omega);obtain⟨b,hz,hb⟩:=ai8 ds hs[i].s hs[i].ts.length hd;simp[SE.den,ai,hw,ly ai,aj,ov];refine⟨_,hb,?_⟩;simp[ov];by_cases h0:b=0
  ·right;exact⟨h0,.mk () rfl (by omega) (aC ai hI (hz.1 h0))⟩
  ·left;exact⟨h0,by simp[h0];exactλm=>h0 (hz.2 (hM1 m _ (asO ai)))⟩
 have hA:=aK ai hI;simp[SE.den,ai,aj,ov];refine⟨_,y6,?_⟩;simp;refine⟨_,ajb,?_⟩;simp[ov];by_cases h0:art=0
 rotate_left
 ·left;exact⟨h0,by simp[h0];exactλm=>h0 (ac6.2 (hM2 m))⟩
 right;refine⟨h0,?_⟩;have hB:=ac6.1 h0;unfold Q1;refine aw rg.length (λi (_:Unit)=>[iI i]) (λi _=>∀g∈rg.take i,kK g.op=ab\/g.op=1) () ?_ (by simp) λi3 _ hi3 rS=>?_
 ·simp[SE.den]
 by_cases D_:i3<rg.length
 ·have hw:=aD D_ (by omega);have hb:=ai9 rg[i3].op;have hs3:=λh=>aC (p:=λg:Gl=>kK g.op=ab\/g.op=1) D_ rS h;have O5:=λm=>hM3 m _ (asO D_);simp[SE.den,D_,hw,mI D_,aj];refine⟨_,hb,?_⟩;cases hq:kK rg[i3].op<;>simp
  ·by_cases h0:rg[i3].op=1
   ·right;exact⟨h0,.mk () rfl (by omega) (hs3 (.inr h0))⟩
   ·left;exact⟨h0,λm=>by have:=O5 m;simp[hq,h0]at this⟩
  ·exact .mk () rfl (by omega) (hs3 (.inl hq))
 have hC:=aK D_ rS;simp[SE.den,D_,aj];unfold Q0;refine aw rb.length (λi (_:Unit)=>[iI i]) (λi _=>∀g∈rb.take i,kK g.op=af) () ?_ (by simp) λi2 _ Ys iR=>?_
 ·simp[SE.den]
 by_cases dZ:i2<rb.length
 ·have hw:=aD dZ (by omega);have hb:=ai9 rb[i2].op;simp[SE.den,dZ,hw,mI dZ,aj];refine⟨_,hb,?_⟩;cases hq:kK rb[i2].op<;>simp
  ·exact .mk () rfl (by omega) (aC dZ iR hq)
  ·exactλm=>by have:=hM4 m _ (asO dZ);simp[hq]at this
 have hD:=aK dZ iR;simp[SE.den,dZ,aj];refine⟨_,ac5,?_⟩;simp;unfold QZ;refine aw rg.length (λi (_:Unit)=>[iI i]) (λi _=>∀g∈rg.take i,∀v∈varsOf g.ts,v∈Sn) () ?_ (by simp) λi1 _ Pj oT=>?_
 ·simp[SE.den]
 by_cases eu:i1<rg.length
 ·have Qv:=aD eu (by omega);have hm:rg[i1]∈gs:=hgs▸atz _ (asO eu);have hff:=g2 _ (by simpa[hgs]using hm);have hb:=v93 rg[i1] (by have:=g1 _ (by simpa[hgs]using hm);unfold Sm;omega) hff.2;have hll:=(qp λt ht=>(hff.2 t ht).2).len;simp[SE.den,eu,mI eu,aj];refine⟨_,hb,?_⟩;simp;unfold QY;generalize hl:varsOf rg[i1].ts=l at*
  refine aw l.length (λi (_:Unit)=>[iI i]) (λi _=>∀v∈l.take i,v∈Sn) () ?_ (by simp) λj _ hj hJ=>?_
  ·simp[SE.den]
  by_cases ai:j<l.length
  ·have hw:=aD ai (by omega);have hb:=arq Sn l[j] (by unfold Sm;omega);simp[SE.den,ai,hw,dN ai,aj];refine⟨_,hb,?_⟩;by_cases hq:l[j]∈Sn
   ·simp[hq];exact .mk () rfl (by omega) (aC ai hJ hq)
   ·simp[hq];exactλm=>hq (hM5 m _ (asO eu) _ (by rw[hl];exact asO ai))
  ·have hE:=aK ai hJ;simp[SE.den,ai,Qv];exact .mk () rfl (by omega) (aC (p:=λg:Gl=>∀v∈varsOf g.ts,v∈Sn) eu oT (by rw[hl];exact hE))
 ·simp[SE.den,eu];exact hM hA hB hC hD (aK eu oT)
def okV(ts:List Tm)(n:Int):Prop:=(∀(i:Nat) (h:i<(varsOf ts).length),(varsOf ts)[i]=(i:Int))/\n=((varsOf ts).length:Int)
structure uO(ds:List De)(r:Rl):Prop where
 ne:r.keep++r.remove≠[]
 hs:∀a∈r.keep++r.remove,cC a=ab
 gs:∀g∈r.guard++r.body,er g=ab
 v:okV (v7 r) r.vars
 n:r.name=[]\/gd r.name=ab
 m:v8 ds r
theorem lB{a:At}(h:cC a=ab):∀t∈a.ts,dE t:=by
 simp only[cC,asN]at h;exact Sl h.2
theorem vo{a:Gl}(h:er a=ab):(a.op≠0->gM a.op=a.ts.length)/\∀t∈a.ts,dE t:=by
 unfold er at h;split at h
 ·rename_i h0;exact⟨λh1=>absurd h0 h1,lB (a:=⟨a.s,a.ts⟩) h⟩
 ·simp only[asN]at h;exact⟨λ_=>of_decide_eq_true h.1.2,Sl h.2⟩
structure SzR(r:Rl):Prop where
 hs:∀a∈r.keep++r.remove,cg a.ts<=1000000000000
 gs:∀a∈r.guard++r.body,cg a.ts<=1000000000000
theorem nz.b{a:At}(h:nz a)(hz:cg a.ts<=1000000000000):NK a.ts:=⟨h.2.1,h.2.2,hz⟩
theorem ta.b{a:Gl}(h:ta a)(hz:cg a.ts<=1000000000000):NK a.ts:=⟨h.2.1,h.2.2,hz⟩
theorem Bt.len{r:Rl}(h:Bt r):(varsOf (v7 r)).length<=1048577:=by
 refine(qp λt ht=>?_).len;rcases as8.1 ht with ht|ht
 ·obtain⟨a,ha,ht⟩:=FA.1 ht;exact(h.hs a ha t ht).2
 ·obtain⟨a,ha,ht⟩:=NO.1 ht;exact((h.gs a ha).2 t ht).2
theorem v90(ds:List De)(hd:Sm ds)(r:Rl)(h:JY r)(hn:JZ r)(hz:SzR r):∃n,(n=0↔uO ds r)/\CC 90 af [eK ds,ph r] (iI n):=by
 refine CC.LA _ aqp n90 t90 (by intro x hx;rcases aty.1 hx with rfl|hx;exact Ie _;obtain rfl:=atF.1 hx;exact jK r) (by rfl) ?_;have sG:=Xy r (by have:=h.h;omega);have y6:=acS r (by have:=h.g;have:=h.b;omega);have hl:=h.h;have NP:r.guard.length+r.body.length<=12:=by have:=h.g;have:=h.b;omega
 have hg:=h.g;have hb:=h.b;have n1:=hn.hs;have n2:=hn.gs;have z1:=hz.hs;have z2:=hz.gs;have ac7:=hn.for;rw[<-atc]at hl NP;have Sp:=ars r h;have LU:=v154 ds hd r h;have h89:=v89 r.name hn.n;have GM:Bt r->(varsOf (v7 r)).length<=1048577:=λh=>h.len;have DO:=λm:uO ds r=>m.ne;have DP:=λm:uO ds r=>m.hs;have Kg:=λm:uO ds r=>m.gs;have hO4:=λm:uO ds r=>m.v;have hO5:=λm:uO ds r=>m.n;have hO6:=λm:uO ds r=>m.m;have hO:=λa b c d e f=>(⟨a,b,c,d,e,f⟩:uO ds r);generalize uO ds r=O at DO DP Kg hO4 hO5 hO6 hO⊢;generalize v8 ds r=M at hO6 LU hO;generalize v7 r=ar at Sp hO4 hO GM;unfold okV at hO4 hO;rw[js]at sG y6 Sp LU⊢;generalize hhs:r.keep++r.remove=hs at sG hl n1 ac7 z1 DO DP hO;generalize hgs:r.guard++r.body=gs at y6 NP n2 ac7 z2 Kg hO;obtain⟨rn,rk,rr,rg,rb,rv⟩:=r;simp only at*
 simp[ad3,SE.den,aj];refine⟨_,sG,?_⟩;simp;refine⟨_,y6,?_⟩;simp;by_cases z0:hs=[]
 ·left;exact⟨z0,λm=>DO m z0⟩
 right;refine⟨z0,?_⟩;right;refine⟨by omega,?_⟩;right;refine⟨by omega,?_⟩;right;refine⟨by omega,?_⟩;unfold Uj;refine aw hs.length (λi (_:Unit)=>[iI i]) (λi _=>∀a∈hs.take i,cC a=ab) () ?_ (by simp) λi _ hi hI=>?_
 ·simp[SE.den]
 by_cases ai:i<hs.length
 ·have hw:=aD ai (by omega);have hm:=asO ai;have hb:=v49 hs[i] (n1 _ hm).1 ((n1 _ hm).b (z1 _ hm));simp[SE.den,ai,hw,ly ai,aj];refine⟨_,hb,?_⟩;cases hq:cC hs[i]<;>simp
  ·exactλm=>by have:=DP m _ hm;simp[hq]at this
  ·exact .mk () rfl (by omega) (aC ai hI hq)
 have hA:=aK ai hI;simp[SE.den,ai,aj];unfold Ui;refine aw gs.length (λi (_:Unit)=>[iI i]) (λi _=>∀a∈gs.take i,er a=ab) () ?_ (by simp) λi1 _ Pj oT=>?_
 ·simp[SE.den]
 by_cases eu:i1<gs.length
 ·have hw:=aD eu (by omega);have hm:=asO eu;have hb:=v152 gs[i1] (n2 _ hm).1 ((n2 _ hm).b (z2 _ hm));simp[SE.den,eu,hw,mI eu,aj];refine⟨_,hb,?_⟩;cases hq:er gs[i1]<;>simp
  ·exactλm=>by have:=Kg m _ hm;simp[hq]at this
  ·exact .mk () rfl (by omega) (aC eu oT hq)
 have hB:=aK eu oT;have hF:Bt ⟨rn,rk,rr,rg,rb,rv⟩:=ac7 (λa ha=>lB (hA a ha)) (λa ha=>vo (hB a ha));have Sp:=Sp hF;obtain⟨n154,ajc,LU⟩:=LU hF;have GM:=GM hF;generalize varsOf ar=v at*
 simp[SE.den,eu,aj];refine⟨_,Sp,?_⟩;simp;unfold Uh;refine aw v.length (λi (_:Unit)=>[iI i]) (λi _=>∀(j:Nat) (h:j<v.length),j<i->v[j]=(j:Int)) () ?_ (λ_ _ h=>absurd h (by omega)) λi0 _ Dq iU=>?_
 ·simp[SE.den]
 by_cases kf:i0<v.length
 ·have hw:=aD kf (by omega);simp[SE.den,kf,hw,dN kf,aj];by_cases he:v[i0]=i0
  ·right;exact⟨he,.mk () rfl (by omega) λj hj Sq=>by
    rcases au7.1 Sq with Sq|rfl
    ·exact iU j hj Sq
    ·exact he⟩
  ·left;exact⟨he,λm=>he ((hO4 m).1 i0 kf)⟩
 have hC:∀(j:Nat) (h:j<v.length),v[j]=(j:Int):=λj hj=>iU j hj (by omega);simp[SE.den,kf,aj];by_cases hv:rv=v.length
 rotate_left
 ·left;exact⟨hv,λm=>hv (hO4 m).2⟩
 right;refine⟨hv,?_⟩;by_cases nb:rn=[]
 ·right;refine⟨nb,_,LU,?_⟩;simp;rw[ajc];exact⟨λm=>hO z0 hA hB ⟨hC,hv⟩ (.inl nb) m,hO6⟩
 ·left;refine⟨nb,_,h89,?_⟩;cases hq:gd rn<;>simp
  ·exactλm=>by have:=hO5 m;simp[nb,hq]at this
  refine⟨_,LU,?_⟩;simp;rw[ajc];exact⟨λm=>hO z0 hA hB ⟨hC,hv⟩ (.inr hq) m,hO6⟩
structure pL(p:Pg):Prop where
 d:∀d∈p.decls,gd d.s=ab/\0<=d.n/\d.n<=6
 u:∀(i:Nat) (h:i<p.decls.length),br (p.decls.take i) p.decls[i].s p.decls[i].n=af
 r:∀r∈p.rules,uO p.decls r
theorem v34(p:Pg)(h:yW p)(hz:∀r∈p.rules,SzR r):∃a n,(n=0↔pL p)/\CC 34 af [dm p] (.az [iI a,iI n]):=by
 refine CC.aic _ aqm n34 t34 (by simpa using fx p) (by rfl) ?_;have DO:=λm:pL p=>m.d;have DP:=λm:pL p=>m.u;have Kg:=λm:pL p=>m.r;have hO:=λa b c=>(⟨a,b,c⟩:pL p);generalize pL p=O at DO DP Kg hO⊢;obtain⟨ds,rs⟩:=p;obtain⟨hd,hr,dn,wD,Eb⟩:=h;simp only at*
 show Xv.sat _ _ _ _ [.agg [eK ds,yV rs]];simp[Xv,SE.den,aj];right;refine⟨by omega,?_⟩;unfold Uf;refine aw ds.length (λi (_:Unit)=>[iI i]) (λi _=>(∀d∈ds.take i,gd d.s=ab/\0<=d.n/\d.n<=6)/\∀(j:Nat) (h:j<ds.length),j<i->br (ds.take j) ds[j].s ds[j].n=af) () ?_ ⟨by simp,λ_ _ h=>absurd h (by omega)⟩ λi _ hi hI=>?_
 ·simp[SE.den]
 by_cases ai:i<ds.length
 ·have hw:=aD ai (by omega);have hm:=asO ai;have h1:=v89 ds[i].s (dn _ hm);have h2:=arp (ds.take i) ds[i].s ds[i].n (by unfold Sm;simp;omega);have fz:=amx (L:=ds) (l:=i) (by omega);have bC:=λm=>DO m _ hm;simp[SE.den,ai,hw,uM ai,aj];refine⟨_,h1,?_⟩;cases b1:gd ds[i].s<;>simp
  ·exactλm=>by have:=(bC m).1;simp[b1]at this
  by_cases z1:ds[i].n<0
  ·left;exact⟨z1,λm=>by have:=(bC m).2;omega⟩
  right;refine⟨by omega,?_⟩;by_cases z2:6<ds[i].n
  ·left;exact⟨z2,λm=>by have:=(bC m).2;omega⟩
  right;refine⟨by omega,?_⟩;refine⟨_,fz,_,h2,?_⟩;simp;cases b2:br (ds.take i) ds[i].s ds[i].n<;>simp
  ·exact .mk () rfl (by omega) ⟨aC ai hI.1 ⟨b1,by omega,by omega⟩,λj hj Sq=>by
    rcases au7.1 Sq with Sq|rfl
    ·exact hI.2 j hj Sq
    ·exact b2⟩
  ·exactλm=>by have:=DP m i ai;simp[b2]at this
 have hA:=aK ai hI.1;simp[SE.den,ai,aj];right;refine⟨by omega,?_⟩;unfold Ue;refine aw rs.length (λi (_:Unit)=>[iI i]) (λi _=>∀r∈rs.take i,uO ds r) () ?_ (by simp) λi0 _ Dq iU=>?_
 ·simp[SE.den]
 by_cases kf:i0<rs.length
 ·have hw:=aD kf (by omega);have hm:=asO kf;obtain⟨n,hF,hb⟩:=v90 ds (by unfold Sm;omega) rs[i0] (wD _ hm) (Eb _ hm) (hz _ hm);rw[js]at hb;simp[SE.den,kf,hw,Ig kf,aj];refine⟨_,hb,?_⟩;simp[ov];by_cases z:n=0
  ·right;exact⟨z,.mk () rfl (by omega) (aC kf iU (hF.1 z))⟩
  ·left;exact⟨z,by simp[z];exactλm=>z (hF.2 (Kg m _ hm))⟩
 ·simp[SE.den,kf];exact hO hA (λj hj=>hI.2 j hj (by omega)) (aK kf iU)
end Go.Proofs.YtggffkaadeagbaaGreat
namespace Go.Proofs.YtggffkaadeagbaaGreat
open Go Go.Ev
def BC(a:Int):List Int->Option Int
 |[]=>aa a
 |v::l=>if v<=a then BC (if v=a then a+1 else a) l else ah
def XS(u:List Int):Prop:=∀(i:Nat) (h:i<u.length),u[i]=(i:Int)
def tF(n:Nat):List Int:=(List.range n).map λ(i:Nat)=>(i:Int)
theorem LV(n:Nat):(tF n).length=n:=by simp[tF]
theorem ac8(n:Nat):tF (n+1)=tF n++[(n:Int)]:=by simp[tF,List.range_succ]
theorem Ve{n:Nat}{v:Int}:v∈tF n↔0<=v/\v<n:=by
 simp only[tF,ath,List.mem_range];exact⟨λ⟨i,h1,h2⟩=>by omega,λ⟨h1,h2⟩=>⟨v.toNat,by omega,by omega⟩⟩
theorem ajd(n:Nat):XS (tF n):=λi h=>by simp[tF]
theorem Sr:∀(w l:List Int),∃t,cS l w=l++t
 |[],l=>⟨[],by simp[cS]⟩
 |v::w,l=>by
  obtain⟨t,h⟩:=Sr w (ry l v);show∃t,cS (ry l v) w=l++t;rw[h];unfold ry;split
  ·exact⟨t,rfl⟩
  ·exact⟨[v]++t,by simp⟩
theorem LW:∀(w:List Int) (a:Nat) (n:Int),(∀v∈w,0<=v)->(BC a w=aa n↔XS (cS (tF a) w)/\n=((cS (tF a) w).length:Int))
 |[],a,n,_=>by
  have:cS (tF a) []=tF a:=rfl;rw[this,LV];simp only[BC,asP];exact⟨λh=>⟨ajd a,h.symm⟩,λh=>h.2.symm⟩
 |v::w,a,n,h=>by
  have h0:=h v (by simp);have hw:=λu hu=>h u (List.mem_cons_of_mem _ hu);show _↔XS (cS (ry (tF a) v) w)/\n=((cS (ry (tF a) v) w).length:Int);unfold BC ry;by_cases h1:v<a
  ·rw[if_pos (by omega),if_neg (by omega),if_pos (Ve.2 ⟨h0,h1⟩)];exact LW w a n hw
  ·rw[if_neg (λhm=>h1 (Ve.1 hm).2)];by_cases h2:v=a
   ·subst h2;rw[if_pos (by omega),if_pos rfl,<-ac8];exact LW w (a+1) n hw
   ·rw[if_neg (by omega)];obtain⟨t,ht⟩:=Sr w (tF a++[v]);refine⟨λh=>(by cases h),λ⟨hr,_⟩=>?_⟩;rw[ht]at hr;have:=hr a (by simp[LV]);simp[LV,List.getElem_append]at this;exact absurd this h2
theorem oz{v:Int}:∀(w l:List Int),v∈cS l w↔v∈l\/v∈w
 |[],l=>by simp[cS]
 |x::w,l=>by
  show v∈cS (ry l x) w↔_;rw[oz w];unfold ry;split
  ·rename_i hx;simp only[aty];exact⟨λh=>h.elim .inl λh=>.inr (.inr h),λh=>h.elim .inl λh=>h.elim (λe=>.inl (e▸hx)) .inr⟩
  ·simp only[as8,aty,List.not_mem_nil,or_false,or_assoc]
theorem FB(l xs:List Int)(x:Int):cS l (xs++[x])=ry (cS l xs) x:=by simp[cS,List.foldl_append]
theorem Vf(l xs:List Int):cS l (Bv xs)=cS l xs:=by
 have key:∀n,cS l (Bv (xs.take n))=cS l (xs.take n):=λn=>by
  induction n with
  |zero=>rfl
  |succ n ih=>
   by_cases hn:n<xs.length
   ·rw[asX hn];generalize xs.take n=ys at ih;generalize xs[n]=x;rw[<-yZ,FB,FB,yZ];have hm:x∈Bv ys↔x∈ys:=by rw[<-yZ,oz];simp
    unfold ry;by_cases hx:x∈ys
    ·rw[if_pos (hm.2 hx),if_pos ((oz _ _).2 (.inr hx)),ih]
    ·rw[if_neg (λh=>hx (hm.1 h)),FB,ih];rfl
   ·rw[as0 (by omega)]at ih⊢;exact ih
 have:=key xs.length;rwa[List.take_length]at this
theorem aa4(m:List Int):∀l:List At,cS m (fy l)=cS m (fL (gg l)):=λl=>by
 induction l generalizing m with
 |nil=>rfl
 |cons a l ih=>
  have h1:fy (a::l)=varsOf a.ts++fy l:=by simp[fy]
  have h2:fL (gg (a::l))=fL a.ts++fL (gg l):=by simp[gg,fL]
  rw[h1,h2,mL,mL,ih];show cS (cS m (Bv (fL a.ts))) _=_;rw[Vf]
theorem aje(m:List Int):∀l:List Gl,cS m (kJ l)=cS m (fL (mX l)):=λl=>by
 induction l generalizing m with
 |nil=>rfl
 |cons a l ih=>
  have h1:kJ (a::l)=varsOf a.ts++kJ l:=by simp[kJ]
  have h2:fL (mX (a::l))=fL a.ts++fL (mX l):=by simp[mX,fL]
  rw[h1,h2,mL,mL,ih];show cS (cS m (Bv (fL a.ts))) _=_;rw[Vf]
theorem v_(a b:List Tm):fL (a++b)=fL a++fL b:=by simp[fL]
theorem FC(a b:List At):gg (a++b)=gg a++gg b:=by simp[gg]
theorem Ss(a b:List Gl):mX (a++b)=mX a++mX b:=by simp[mX]
theorem NQ(r:Rl):cS [] (dA [r.keep,r.remove]++db [r.guard,r.body])=varsOf (v7 r):=by
 have e1:dA [r.keep,r.remove]=fy r.keep++fy r.remove:=by simp[dA]
 have e2:db [r.guard,r.body]=kJ r.guard++kJ r.body:=by simp[db]
 show _=cS [] (fL (v7 r));rw[e1,e2,v7,v_,FC,Ss,v_,v_];simp only[mL,aa4,aje]
theorem af3{r:Rl}{n:Int}(h:∀v∈dA [r.keep,r.remove]++db [r.guard,r.body],0<=v):okV (v7 r) n↔BC 0 (dA [r.keep,r.remove]++db [r.guard,r.body])=aa n:=by
 have:=LW _ 0 n h;have e:tF 0=[]:=rfl;rw[e,NQ]at this;exact this.symm
theorem XT{v:Int}{ts:List Tm}:v∈varsOf ts↔v∈fL ts:=by
 show v∈Bv (fL ts)↔_;rw[<-yZ,oz];simp
theorem NR{v:Int}(l:List At):v∈fy l↔v∈fL (gg l):=by
 have:=oz (v:=v) (fy l) [];rw[aa4,oz]at this;simpa using this.symm
theorem NS(r:Rl)(v:Int):v∈dA [r.keep,r.remove]↔v∈varsOf (gg (r.keep++r.remove)):=by
 have e1:dA [r.keep,r.remove]=fy r.keep++fy r.remove:=by simp[dA]
 rw[e1,as8,NR,NR,XT,FC,v_,as8]
theorem aa5(r:Rl)(p:Int->Prop):(∀v∈db [r.guard],p v)↔∀g∈r.guard,∀v∈varsOf g.ts,p v:=by
 have e1:db [r.guard]=kJ r.guard:=by simp[db]
 rw[e1];simp only[kJ,avl,ath];exact⟨λh g hg v hv=>h v ⟨_,⟨g,hg,rfl⟩,hv⟩,λh v ⟨_,⟨g,hg,e⟩,hv⟩=>h g hg v (e▸hv)⟩
theorem Td{r:Rl}(h1:∀a∈r.keep++r.remove,∀t∈a.ts,dE t)(h2:∀a∈r.guard++r.body,∀t∈a.ts,dE t):∀v∈dA [r.keep,r.remove]++db [r.guard,r.body],0<=v:=λv hv=>by
 have hv:v∈cS [] (dA [r.keep,r.remove]++db [r.guard,r.body]):=(oz _ _).2 (.inr hv);rw[NQ]at hv;refine((qp λt ht=>?_).2 v hv).1;rcases as8.1 ht with ht|ht
 ·obtain⟨a,ha,ht⟩:=FA.1 ht;exact h1 a ha t ht
 ·obtain⟨a,ha,ht⟩:=NO.1 ht;exact h2 a ha t ht
end Go.Proofs.YtggffkaadeagbaaGreat
namespace Go.Proofs.YtggffkaadeagbaaGreat
open Go Go.Ev
theorem Hj(ds:List De)(s:List UInt8)(n:Int)(hl:Sm ds):CC 47 af [eK ds,iS s,iI n] (iB (br ds s n)):=by
 refine CC.gV aqZ n47 t47 (by simp) (by rfl) ?_;simp[aeq,UF,SE.den,aj];refine aw ds.length (λi (_:Unit)=>[iI i]) (λi _=>∀d∈ds.take i,d.s=s->¬d.n=n) () ?_ (by simp) λi _ hi hI=>?_
 ·simp[SE.den]
 by_cases ai:i<ds.length
 ·have hw:=aD ai hl;simp[SE.den,ai,hw,uM ai,aj,aiu];by_cases h1:s=ds[i].s/\n=ds[i].n
  ·left;exact⟨h1,Fy (asO ai) ⟨h1.1.symm,h1.2.symm⟩⟩
  ·right;exact⟨λh=>λh'=>h1 ⟨h,h'⟩,.mk () rfl (by omega) (aC (p:=λd:De=>d.s=s->¬d.n=n) ai hI λh h'=>h1 ⟨h.symm,h'.symm⟩)⟩
 ·simp[SE.den,ai];exact lA (aK ai hI)
theorem v143(n:Int):CC 143 af [iI n] (iB (kK n)):=by
 refine CC.gV am5 n143 t143 (by simp) (by rfl) ?_;simp[aaP,SE.den,kK];omega
abbrev DK(ds:List De)(r:Rl):Prop:=∀a∈r.keep,br ds a.s a.ts.length=ab
abbrev DR(ds:List De)(r:Rl):Prop:=∀a∈r.remove,br ds a.s a.ts.length=ab
abbrev KG(r:Rl):Prop:=∀g∈r.guard,kK g.op=ab\/g.op=1
abbrev KB(r:Rl):Prop:=∀g∈r.body,kK g.op=af
abbrev VV(r:Rl):Prop:=∀v∈db [r.guard],v∈dA [r.keep,r.remove]
abbrev R5(r:Rl):Prop:=KB r/\VV r
abbrev R6(r:Rl):Prop:=KG r/\R5 r
abbrev R7(ds:List De)(r:Rl):Prop:=Ke ds r.body/\R6 r
abbrev R8(ds:List De)(r:Rl):Prop:=Ke ds r.guard/\R7 ds r
abbrev R9(ds:List De)(r:Rl):Prop:=DR ds r/\R8 ds r
abbrev R10(ds:List De)(r:Rl):Prop:=DK ds r/\R9 ds r
theorem cD{A B O:Prop}(h:(A/\B)↔O)(a:A):B↔O:=⟨λb=>h.1 ⟨a,b⟩,λo=>(h.2 o).2⟩
theorem cE{A B O:Prop}(h:(A/\B)↔O)(a:¬A):¬O:=λo=>a (h.2 o).1
section
variable{O:Prop}{k0 k1 k2 k3 k4 k5 k6 k7 k8 k9 k10 NF NG:List IV->Prop}{x2 x3 x4 x5 x6 x7 x8 x9 eD jv jg lz lL rQ qn rR Ag Fp E_ RX Nb Na M_ x25 x26:IV}
theorem anz(ds:List De)(hd:Sm ds)(r:Rl)(s:List UInt8)(ts:List Tm)(i:Nat)(hi:i<1000)(hk:br ds s ts.length=ab->k5 [iI (i+1:Nat)])(bC:br ds s ts.length=af->¬O):
 UU.sat asK CC (gW λn=>n=0↔O) [k0,k1,k2,k3,k4,k5] [eK ds,aR r,x2,x3,x4,x5,x6,x7,x8,x9,eD,jv,jg,lz,iI i,.agg [iS s,iT ts]]:=by
 have gx:=aD hi (by omega);have q9:=Hj ds s ts.length hd;refine aw ds.length (λj (_:Unit)=>[iI j]) (λj _=>∀d∈ds.take j,¬d.s=s) () ?_ (by simp) λj _ hj hI=>?_
 ·simp[SE.den]
 by_cases ai:j<ds.length
 ·have hw:=aD ai hd;simp[SE.den,ai,hw,gx,uM ai,aj,aA];by_cases h1:ds[j].s=s
  ·left;refine⟨h1,_,q9,?_⟩;cases hb:br ds s ts.length<;>simp[aA]
   ·exact bC hb
   ·exact hk hb
  ·right;exact⟨h1,.mk () rfl (by omega) (aC (p:=λd:De=>¬d.s=s) ai hI h1)⟩
 ·have:=aK ai hI;simp[SE.den,ai,aA];exact bC (lA λd hd h=>absurd h (this d hd))
theorem anA(ds:List De)(hd:Sm ds)(r:Rl)(s:List UInt8)(ts:List Tm)(i:Nat)(hi:i<1000)(hk:br ds s ts.length=ab->k6 [iI (i+1:Nat),iB ab])(bC:br ds s ts.length=af->¬O):
 UW.sat asK CC (gW λn=>n=0↔O) [k0,k1,k2,k3,k4,k5,k6] [eK ds,aR r,x2,x3,x4,x5,x6,x7,x8,x9,eD,jv,jg,lz,lL,iI i,qn,.agg [iS s,iT ts]]:=by
 have gx:=aD hi (by omega);have q9:=Hj ds s ts.length hd;refine aw ds.length (λj (_:Unit)=>[iI j]) (λj _=>∀d∈ds.take j,¬d.s=s) () ?_ (by simp) λj _ hj hI=>?_
 ·simp[SE.den]
 by_cases ai:j<ds.length
 ·have hw:=aD ai hd;simp[SE.den,ai,hw,gx,uM ai,aj,aA];by_cases h1:ds[j].s=s
  ·left;refine⟨h1,_,q9,?_⟩;cases hb:br ds s ts.length<;>simp[aA]
   ·exact bC hb
   ·exact hk hb
  ·right;exact⟨h1,.mk () rfl (by omega) (aC (p:=λd:De=>¬d.s=s) ai hI h1)⟩
 ·have:=aK ai hI;simp[SE.den,ai,aA];exact bC (lA λd hd h=>absurd h (this d hd))
theorem anB(ds:List De)(hd:Sm ds)(r:Rl)(op:Int)(s:List UInt8)(ts:List Tm)(i:Nat)(hi:i<1000)(hk:br ds s ts.length=ab->k7 [iI (i+1:Nat)])(bC:br ds s ts.length=af->¬O):
 UX.sat asK CC (gW λn=>n=0↔O) [k0,k1,k2,k3,k4,k5,k6,k7] [eK ds,aR r,x2,x3,x4,x5,x6,x7,x8,x9,eD,jv,jg,lz,lL,rQ,qn,iI i,.agg [iI op,iS s,iT ts]]:=by
 have gx:=aD hi (by omega);have q9:=Hj ds s ts.length hd;refine aw ds.length (λj (_:Unit)=>[iI j]) (λj _=>∀d∈ds.take j,¬d.s=s) () ?_ (by simp) λj _ hj hI=>?_
 ·simp[SE.den]
 by_cases ai:j<ds.length
 ·have hw:=aD ai hd;simp[SE.den,ai,hw,gx,uM ai,aj,aA];by_cases h1:ds[j].s=s
  ·left;refine⟨h1,_,q9,?_⟩;cases hb:br ds s ts.length<;>simp[aA]
   ·exact bC hb
   ·exact hk hb
  ·right;exact⟨h1,.mk () rfl (by omega) (aC (p:=λd:De=>¬d.s=s) ai hI h1)⟩
 ·have:=aK ai hI;simp[SE.den,ai,aA];exact bC (lA λd hd h=>absurd h (this d hd))
theorem anC(ds:List De)(hd:Sm ds)(r:Rl)(op:Int)(s:List UInt8)(ts:List Tm)(i:Nat)(hi:i<1000)(hk:br ds s ts.length=ab->k8 [iI (i+1:Nat)])(bC:br ds s ts.length=af->¬O):
 UY.sat asK CC (gW λn=>n=0↔O) [k0,k1,k2,k3,k4,k5,k6,k7,k8] [eK ds,aR r,x2,x3,x4,x5,x6,x7,x8,x9,eD,jv,jg,lz,lL,rQ,qn,rR,iI i,.agg [iI op,iS s,iT ts]]:=by
 have gx:=aD hi (by omega);have q9:=Hj ds s ts.length hd;refine aw ds.length (λj (_:Unit)=>[iI j]) (λj _=>∀d∈ds.take j,¬d.s=s) () ?_ (by simp) λj _ hj hI=>?_
 ·simp[SE.den]
 by_cases ai:j<ds.length
 ·have hw:=aD ai hd;simp[SE.den,ai,hw,gx,uM ai,aj,aA];by_cases h1:ds[j].s=s
  ·left;refine⟨h1,_,q9,?_⟩;cases hb:br ds s ts.length<;>simp[aA]
   ·exact bC hb
   ·exact hk hb
  ·right;exact⟨h1,.mk () rfl (by omega) (aC (p:=λd:De=>¬d.s=s) ai hI h1)⟩
 ·have:=aK ai hI;simp[SE.den,ai,aA];exact bC (lA λd hd h=>absurd h (this d hd))
theorem ajf(ds:List De)(hd:Sm ds)(r:Rl)(s:List UInt8)(ts:List Tm)(i:Nat)(hi:i<1000)(hk:br ds s ts.length=ab->k5 [iI (i+1:Nat)])(bC:br ds s ts.length=af->¬O):
 RF.sat asK CC (gW λn=>n=0↔O) [k0,k1,k2,k3,k4,k5] [eK ds,aR r,x2,x3,x4,x5,x6,x7,x8,x9,eD,jv,jg,lz,lL,iI i,.agg [iS s,iT ts]]:=by
 have gx:=aD hi (by omega);have q9:=Hj ds s ts.length hd;refine aw ds.length (λj (_:Unit)=>[iI j]) (λj _=>∀d∈ds.take j,¬d.s=s) () ?_ (by simp) λj _ hj hI=>?_
 ·simp[SE.den]
 by_cases ai:j<ds.length
 ·have hw:=aD ai hd;simp[SE.den,ai,hw,gx,uM ai,aj,aA];by_cases h1:ds[j].s=s
  ·left;refine⟨h1,_,q9,?_⟩;cases hb:br ds s ts.length<;>simp[aA]
   ·exact bC hb
   ·exact hk hb
  ·right;exact⟨h1,.mk () rfl (by omega) (aC (p:=λd:De=>¬d.s=s) ai hI h1)⟩
 ·have:=aK ai hI;simp[SE.den,ai,aA];exact bC (lA λd hd h=>absurd h (this d hd))
theorem ajg(ds:List De)(hd:Sm ds)(r:Rl)(s:List UInt8)(ts:List Tm)(i:Nat)(hi:i<1000)(hk:br ds s ts.length=ab->k6 [iI (i+1:Nat),iB ab])(bC:br ds s ts.length=af->¬O):
 RG.sat asK CC (gW λn=>n=0↔O) [k0,k1,k2,k3,k4,k5,k6] [eK ds,aR r,x2,x3,x4,x5,x6,x7,x8,x9,eD,jv,jg,lz,lL,rQ,iI i,rR,.agg [iS s,iT ts]]:=by
 have gx:=aD hi (by omega);have q9:=Hj ds s ts.length hd;refine aw ds.length (λj (_:Unit)=>[iI j]) (λj _=>∀d∈ds.take j,¬d.s=s) () ?_ (by simp) λj _ hj hI=>?_
 ·simp[SE.den]
 by_cases ai:j<ds.length
 ·have hw:=aD ai hd;simp[SE.den,ai,hw,gx,uM ai,aj,aA];by_cases h1:ds[j].s=s
  ·left;refine⟨h1,_,q9,?_⟩;cases hb:br ds s ts.length<;>simp[aA]
   ·exact bC hb
   ·exact hk hb
  ·right;exact⟨h1,.mk () rfl (by omega) (aC (p:=λd:De=>¬d.s=s) ai hI h1)⟩
 ·have:=aK ai hI;simp[SE.den,ai,aA];exact bC (lA λd hd h=>absurd h (this d hd))
theorem ajh(ds:List De)(hd:Sm ds)(r:Rl)(op:Int)(s:List UInt8)(ts:List Tm)(i:Nat)(hi:i<1000)(hk:br ds s ts.length=ab->k7 [iI (i+1:Nat)])(bC:br ds s ts.length=af->¬O):
 RH.sat asK CC (gW λn=>n=0↔O) [k0,k1,k2,k3,k4,k5,k6,k7] [eK ds,aR r,x2,x3,x4,x5,x6,x7,x8,x9,eD,jv,jg,lz,lL,rQ,qn,rR,iI i,.agg [iI op,iS s,iT ts]]:=by
 have gx:=aD hi (by omega);have q9:=Hj ds s ts.length hd;refine aw ds.length (λj (_:Unit)=>[iI j]) (λj _=>∀d∈ds.take j,¬d.s=s) () ?_ (by simp) λj _ hj hI=>?_
 ·simp[SE.den]
 by_cases ai:j<ds.length
 ·have hw:=aD ai hd;simp[SE.den,ai,hw,gx,uM ai,aj,aA];by_cases h1:ds[j].s=s
  ·left;refine⟨h1,_,q9,?_⟩;cases hb:br ds s ts.length<;>simp[aA]
   ·exact bC hb
   ·exact hk hb
  ·right;exact⟨h1,.mk () rfl (by omega) (aC (p:=λd:De=>¬d.s=s) ai hI h1)⟩
 ·have:=aK ai hI;simp[SE.den,ai,aA];exact bC (lA λd hd h=>absurd h (this d hd))
theorem aji(ds:List De)(hd:Sm ds)(r:Rl)(op:Int)(s:List UInt8)(ts:List Tm)(i:Nat)(hi:i<1000)(hk:br ds s ts.length=ab->k8 [iI (i+1:Nat)])(bC:br ds s ts.length=af->¬O):
 RI.sat asK CC (gW λn=>n=0↔O) [k0,k1,k2,k3,k4,k5,k6,k7,k8] [eK ds,aR r,x2,x3,x4,x5,x6,x7,x8,x9,eD,jv,jg,lz,lL,rQ,qn,rR,Ag,iI i,.agg [iI op,iS s,iT ts]]:=by
 have gx:=aD hi (by omega);have q9:=Hj ds s ts.length hd;refine aw ds.length (λj (_:Unit)=>[iI j]) (λj _=>∀d∈ds.take j,¬d.s=s) () ?_ (by simp) λj _ hj hI=>?_
 ·simp[SE.den]
 by_cases ai:j<ds.length
 ·have hw:=aD ai hd;simp[SE.den,ai,hw,gx,uM ai,aj,aA];by_cases h1:ds[j].s=s
  ·left;refine⟨h1,_,q9,?_⟩;cases hb:br ds s ts.length<;>simp[aA]
   ·exact bC hb
   ·exact hk hb
  ·right;exact⟨h1,.mk () rfl (by omega) (aC (p:=λd:De=>¬d.s=s) ai hI h1)⟩
 ·have:=aK ai hI;simp[SE.den,ai,aA];exact bC (lA λd hd h=>absurd h (this d hd))
theorem anD(ds:List De)(r:Rl)(l u:List Int)(hl:Sm l)(hu:Sm u)(hR:(∀v∈u,v∈l)↔O):
 UZ.sat asK CC (gW λn=>n=0↔O) [k0,k1,k2,k3,k4,k5,k6,k7,k8,k9,k10] [eK ds,aR r,x2,x3,x4,x5,x6,x7,x8,x9,eD,jv,jg,lz,lL,rQ,qn,rR,Ag,Fp,E_,iL l,iL u]:=by
 refine aw u.length (λj (_:Unit)=>[iL l,iI j]) (λj _=>∀v∈u.take j,v∈l) () ?_ (by simp) λj _ hj hI=>?_
 ·simp[SE.den]
 by_cases ai:j<u.length
 ·have hw:=aD ai hu;have ac9:=aeu l u[j] hl;simp[SE.den,ai,hw,dN ai,aj,aA,cellsOf];refine⟨_,ac9,?_⟩;by_cases z:u[j]∈l
  ·simp[z,aA];exact .mk () rfl (by omega) (aC ai hI z)
  ·simp[z,aA];exactλo=>z (hR.2 o _ (asO ai))
 ·simp[SE.den,ai];exact hR.1 (aK ai hI)
theorem ajj(ds:List De)(r:Rl)(l u:List Int)(hl:Sm l)(hu:Sm u)(hR:(∀v∈u,v∈l)↔O):
 RJ.sat asK CC (gW λn=>n=0↔O) [k0,k1,k2,k3,k4,k5,k6,k7,k8,k9,k10] [eK ds,aR r,x2,x3,x4,x5,x6,x7,x8,x9,eD,jv,jg,lz,lL,rQ,qn,rR,Ag,Fp,E_,RX,iL l,iL u]:=by
 refine aw u.length (λj (_:Unit)=>[iL l,iI j]) (λj _=>∀v∈u.take j,v∈l) () ?_ (by simp) λj _ hj hI=>?_
 ·simp[SE.den]
 by_cases ai:j<u.length
 ·have hw:=aD ai hu;have ac9:=aeu l u[j] hl;simp[SE.den,ai,hw,dN ai,aj,aA,cellsOf];refine⟨_,ac9,?_⟩;by_cases z:u[j]∈l
  ·simp[z,aA];exact .mk () rfl (by omega) (aC ai hI z)
  ·simp[z,aA];exactλo=>z (hR.2 o _ (asO ai))
 ·simp[SE.den,ai];exact hR.1 (aK ai hI)
theorem anE(ds:List De)(r:Rl)(h:jM ds r)(hR:R5 r↔O):U0.sat asK CC (gW λn=>n=0↔O) [k0,k1,k2,k3,k4,k5,k6,k7,k8,k9] [eK ds,aR r,x2,x3,x4,x5,x6,x7,x8,x9,eD,jv,jg,lz,lL,rQ,qn,rR,Ag,Fp]:=by
 have hl:=h.body.1;refine aw r.body.length (λj (_:Unit)=>[iI j]) (λj _=>∀x∈r.body.take j,kK x.op=af) () ?_ (by simp) λj b hj hI=>?_
 ·simp[SE.den,aj]
 by_cases ai:j<r.body.length
 ·have hw:=aD ai (by omega);have hm:=asO ai;have Iu:=v143 r.body[j].op;simp[SE.den,ai,hw,mI ai,aj,aA];refine⟨_,Iu,?_⟩;cases hq:kK r.body[j].op<;>simp[aA]
  ·exact .mk () rfl (by omega) (aC ai hI hq)
  ·exact cE hR λm=>by have:=m _ hm;simp[hq]at this
 ·obtain⟨g1,g2⟩:=LN h;obtain⟨g3,g4⟩:=U5 h;have hR:=cD hR (aK ai hI);unfold VV at hR;generalize dA [r.keep,r.remove]=u at g1 g2 hR;generalize db [r.guard]=v at g3 g4 hR;simp[SE.den,ai,aj,cellsOf];exact⟨_,g2,_,g4,⟨_,rfl⟩,anD ds r u v (by unfold Sm;omega) (by unfold Sm;omega) hR⟩
theorem ajk(ds:List De)(r:Rl)(h:jM ds r)(hR:R5 r↔O):RL.sat asK CC (gW λn=>n=0↔O) [k0,k1,k2,k3,k4,k5,k6,k7,k8,k9] [eK ds,aR r,x2,x3,x4,x5,x6,x7,x8,x9,eD,jv,jg,lz,lL,rQ,qn,rR,Ag,Fp,E_]:=by
 have hl:=h.body.1;refine aw r.body.length (λj (_:Unit)=>[iI j]) (λj _=>∀x∈r.body.take j,kK x.op=af) () ?_ (by simp) λj b hj hI=>?_
 ·simp[SE.den,aj]
 by_cases ai:j<r.body.length
 ·have hw:=aD ai (by omega);have hm:=asO ai;have Iu:=v143 r.body[j].op;simp[SE.den,ai,hw,mI ai,aj,aA];refine⟨_,Iu,?_⟩;cases hq:kK r.body[j].op<;>simp[aA]
  ·exact .mk () rfl (by omega) (aC ai hI hq)
  ·exact cE hR λm=>by have:=m _ hm;simp[hq]at this
 ·obtain⟨g1,g2⟩:=LN h;obtain⟨g3,g4⟩:=U5 h;have hR:=cD hR (aK ai hI);unfold VV at hR;generalize dA [r.keep,r.remove]=u at g1 g2 hR;generalize db [r.guard]=v at g3 g4 hR;simp[SE.den,ai,aj,cellsOf];exact⟨_,g2,_,g4,⟨_,rfl⟩,ajj ds r u v (by unfold Sm;omega) (by unfold Sm;omega) hR⟩
theorem anF(ds:List De)(r:Rl)(h:jM ds r)(hR:R6 r↔O):U1.sat asK CC (gW λn=>n=0↔O) [k0,k1,k2,k3,k4,k5,k6,k7,k8] [eK ds,aR r,x2,x3,x4,x5,x6,x7,x8,x9,eD,jv,jg,lz,lL,rQ,qn,rR,Ag]:=by
 have hl:=h.guard.1;refine aw r.guard.length (λj (_:Unit)=>[iI j]) (λj _=>∀x∈r.guard.take j,(kK x.op=ab\/x.op=1)) () ?_ (by simp) λj b hj hI=>?_
 ·simp[SE.den,aj]
 by_cases ai:j<r.guard.length
 ·have hw:=aD ai (by omega);have hm:=asO ai;have Iu:=v143 r.guard[j].op;have hs:=λq=>aC (p:=λx:Gl=>kK x.op=ab\/x.op=1) ai hI q;simp[SE.den,ai,hw,mI ai,aj,aA];refine⟨_,Iu,?_⟩;cases hq:kK r.guard[j].op<;>simp[aA]
  ·by_cases z:r.guard[j].op=1
   ·right;exact⟨z,.mk () rfl (by omega) (hs (.inr z))⟩
   ·left;exact⟨z,cE hR λm=>by have:=m _ hm;simp[hq,z]at this⟩
  ·exact .mk () rfl (by omega) (hs (.inl hq))
 ·have hR:=cD hR (aK ai hI);simp[SE.den,ai,aj];exact anE ds r h hR
theorem ajl(ds:List De)(r:Rl)(h:jM ds r)(hR:R6 r↔O):RM.sat asK CC (gW λn=>n=0↔O) [k0,k1,k2,k3,k4,k5,k6,k7,k8] [eK ds,aR r,x2,x3,x4,x5,x6,x7,x8,x9,eD,jv,jg,lz,lL,rQ,qn,rR,Ag,Fp]:=by
 have hl:=h.guard.1;refine aw r.guard.length (λj (_:Unit)=>[iI j]) (λj _=>∀x∈r.guard.take j,(kK x.op=ab\/x.op=1)) () ?_ (by simp) λj b hj hI=>?_
 ·simp[SE.den,aj]
 by_cases ai:j<r.guard.length
 ·have hw:=aD ai (by omega);have hm:=asO ai;have Iu:=v143 r.guard[j].op;have hs:=λq=>aC (p:=λx:Gl=>kK x.op=ab\/x.op=1) ai hI q;simp[SE.den,ai,hw,mI ai,aj,aA];refine⟨_,Iu,?_⟩;cases hq:kK r.guard[j].op<;>simp[aA]
  ·by_cases z:r.guard[j].op=1
   ·right;exact⟨z,.mk () rfl (by omega) (hs (.inr z))⟩
   ·left;exact⟨z,cE hR λm=>by have:=m _ hm;simp[hq,z]at this⟩
  ·exact .mk () rfl (by omega) (hs (.inl hq))
 ·have hR:=cD hR (aK ai hI);simp[SE.den,ai,aj];exact ajk ds r h hR
theorem anG(ds:List De)(r:Rl)(h:jM ds r)(hR:R7 ds r↔O):U2.sat asK CC (gW λn=>n=0↔O) [k0,k1,k2,k3,k4,k5,k6,k7] [eK ds,aR r,x2,x3,x4,x5,x6,x7,x8,x9,eD,jv,jg,lz,lL,rQ,qn,rR]:=by
 have hl:=h.body.1;refine aw r.body.length (λj (_:Unit)=>[iI j]) (λj _=>∀x∈r.body.take j,(x.op=0->br ds x.s x.ts.length=ab)) () ?_ (by simp) λj b hj hI=>?_
 ·simp[SE.den,aj]
 by_cases ai:j<r.body.length
 ·have hw:=aD ai (by omega);have hm:=asO ai;have hs:=λq=>aC (p:=λx:Gl=>x.op=0->br ds x.s x.ts.length=ab) ai hI q;simp[SE.den,ai,hw,mI ai,aj,aA];by_cases z:r.body[j].op=0
  ·left;exact⟨z,anC ds h.d r r.body[j].op r.body[j].s r.body[j].ts j (by omega) (λq=>.mk () rfl (by omega) (hs λ_=>q)) λq=>cE hR λm=>by have:=m _ hm z;simp[q]at this⟩
  ·right;exact⟨z,.mk () rfl (by omega) (hs λq=>absurd q z)⟩
 ·have hR:=cD hR (aK ai hI);simp[SE.den,ai,aj];exact anF ds r h hR
theorem ajm(ds:List De)(r:Rl)(h:jM ds r)(hR:R7 ds r↔O):RN.sat asK CC (gW λn=>n=0↔O) [k0,k1,k2,k3,k4,k5,k6,k7] [eK ds,aR r,x2,x3,x4,x5,x6,x7,x8,x9,eD,jv,jg,lz,lL,rQ,qn,rR,Ag]:=by
 have hl:=h.body.1;refine aw r.body.length (λj (_:Unit)=>[iI j]) (λj _=>∀x∈r.body.take j,(x.op=0->br ds x.s x.ts.length=ab)) () ?_ (by simp) λj b hj hI=>?_
 ·simp[SE.den,aj]
 by_cases ai:j<r.body.length
 ·have hw:=aD ai (by omega);have hm:=asO ai;have hs:=λq=>aC (p:=λx:Gl=>x.op=0->br ds x.s x.ts.length=ab) ai hI q;simp[SE.den,ai,hw,mI ai,aj,aA];by_cases z:r.body[j].op=0
  ·left;exact⟨z,aji ds h.d r r.body[j].op r.body[j].s r.body[j].ts j (by omega) (λq=>.mk () rfl (by omega) (hs λ_=>q)) λq=>cE hR λm=>by have:=m _ hm z;simp[q]at this⟩
  ·right;exact⟨z,.mk () rfl (by omega) (hs λq=>absurd q z)⟩
 ·have hR:=cD hR (aK ai hI);simp[SE.den,ai,aj];exact ajl ds r h hR
theorem anH(ds:List De)(r:Rl)(h:jM ds r)(hR:R8 ds r↔O):U3.sat asK CC (gW λn=>n=0↔O) [k0,k1,k2,k3,k4,k5,k6] [eK ds,aR r,x2,x3,x4,x5,x6,x7,x8,x9,eD,jv,jg,lz,lL,rQ,qn]:=by
 have hl:=h.guard.1;refine aw r.guard.length (λj (_:Unit)=>[iI j]) (λj _=>∀x∈r.guard.take j,(x.op=0->br ds x.s x.ts.length=ab)) () ?_ (by simp) λj b hj hI=>?_
 ·simp[SE.den,aj]
 by_cases ai:j<r.guard.length
 ·have hw:=aD ai (by omega);have hm:=asO ai;have hs:=λq=>aC (p:=λx:Gl=>x.op=0->br ds x.s x.ts.length=ab) ai hI q;simp[SE.den,ai,hw,mI ai,aj,aA];by_cases z:r.guard[j].op=0
  ·left;exact⟨z,anB ds h.d r r.guard[j].op r.guard[j].s r.guard[j].ts j (by omega) (λq=>.mk () rfl (by omega) (hs λ_=>q)) λq=>cE hR λm=>by have:=m _ hm z;simp[q]at this⟩
  ·right;exact⟨z,.mk () rfl (by omega) (hs λq=>absurd q z)⟩
 ·have hR:=cD hR (aK ai hI);simp[SE.den,ai,aj];exact anG ds r h hR
theorem ajn(ds:List De)(r:Rl)(h:jM ds r)(hR:R8 ds r↔O):RO.sat asK CC (gW λn=>n=0↔O) [k0,k1,k2,k3,k4,k5,k6] [eK ds,aR r,x2,x3,x4,x5,x6,x7,x8,x9,eD,jv,jg,lz,lL,rQ,qn,rR]:=by
 have hl:=h.guard.1;refine aw r.guard.length (λj (_:Unit)=>[iI j]) (λj _=>∀x∈r.guard.take j,(x.op=0->br ds x.s x.ts.length=ab)) () ?_ (by simp) λj b hj hI=>?_
 ·simp[SE.den,aj]
 by_cases ai:j<r.guard.length
 ·have hw:=aD ai (by omega);have hm:=asO ai;have hs:=λq=>aC (p:=λx:Gl=>x.op=0->br ds x.s x.ts.length=ab) ai hI q;simp[SE.den,ai,hw,mI ai,aj,aA];by_cases z:r.guard[j].op=0
  ·left;exact⟨z,ajh ds h.d r r.guard[j].op r.guard[j].s r.guard[j].ts j (by omega) (λq=>.mk () rfl (by omega) (hs λ_=>q)) λq=>cE hR λm=>by have:=m _ hm z;simp[q]at this⟩
  ·right;exact⟨z,.mk () rfl (by omega) (hs λq=>absurd q z)⟩
 ·have hR:=cD hR (aK ai hI);simp[SE.den,ai,aj];exact ajm ds r h hR
theorem anI(ds:List De)(r:Rl)(h:jM ds r)(hR:R9 ds r↔O):U4.sat asK CC (gW λn=>n=0↔O) [k0,k1,k2,k3,k4,k5] [eK ds,aR r,x2,x3,x4,x5,x6,x7,x8,x9,eD,jv,jg,lz,lL]:=by
 have hl:=h.remove.1;refine aw r.remove.length (λj (b:Bool)=>[iI j,iB b]) (λj _=>∀x∈r.remove.take j,br ds x.s x.ts.length=ab) af ?_ (by simp) λj b hj hI=>?_
 ·simp[SE.den,aj]
 by_cases ai:j<r.remove.length
 ·have hw:=aD ai (by omega);have hm:=asO ai;simp[SE.den,ai,hw,ly ai,aj,aA];exact anA ds h.d r r.remove[j].s r.remove[j].ts j (by omega) (λq=>.mk ab rfl (by omega) (aC (p:=λx:At=>br ds x.s x.ts.length=ab) ai hI q)) λq=>cE hR λm=>by have:=m _ hm;simp[q]at this
 ·have hR:=cD hR (aK ai hI);simp[SE.den,ai,aj];exact anH ds r h hR
theorem ajo(ds:List De)(r:Rl)(h:jM ds r)(hR:R9 ds r↔O):RP.sat asK CC (gW λn=>n=0↔O) [k0,k1,k2,k3,k4,k5] [eK ds,aR r,x2,x3,x4,x5,x6,x7,x8,x9,eD,jv,jg,lz,lL,rQ]:=by
 have hl:=h.remove.1;refine aw r.remove.length (λj (b:Bool)=>[iI j,iB b]) (λj _=>∀x∈r.remove.take j,br ds x.s x.ts.length=ab) af ?_ (by simp) λj b hj hI=>?_
 ·simp[SE.den,aj]
 by_cases ai:j<r.remove.length
 ·have hw:=aD ai (by omega);have hm:=asO ai;simp[SE.den,ai,hw,ly ai,aj,aA];exact ajg ds h.d r r.remove[j].s r.remove[j].ts j (by omega) (λq=>.mk ab rfl (by omega) (aC (p:=λx:At=>br ds x.s x.ts.length=ab) ai hI q)) λq=>cE hR λm=>by have:=m _ hm;simp[q]at this
 ·have hR:=cD hR (aK ai hI);simp[SE.den,ai,aj];exact ajn ds r h hR
theorem ajp(ds:List De)(r:Rl)(h:jM ds r)(hR:R10 ds r↔O):RE.sat asK CC (gW λn=>n=0↔O) [k0,k1,k2,k3,k4] [eK ds,aR r,x2,x3,x4,x5,x6,x7,x8,x9,eD,jv,jg,lz]:=by
 have hl:=h.keep.1;refine aw r.keep.length (λj (_:Unit)=>[iI j]) (λj _=>∀x∈r.keep.take j,br ds x.s x.ts.length=ab) () ?_ (by simp) λj b hj hI=>?_
 ·simp[SE.den,aj]
 by_cases ai:j<r.keep.length
 ·have hw:=aD ai (by omega);have hm:=asO ai;simp[SE.den,ai,hw,ly ai,aj,aA];exact anz ds h.d r r.keep[j].s r.keep[j].ts j (by omega) (λq=>.mk () rfl (by omega) (aC (p:=λx:At=>br ds x.s x.ts.length=ab) ai hI q)) λq=>cE hR λm=>by have:=m _ hm;simp[q]at this
 ·have hR:=cD hR (aK ai hI);simp[SE.den,ai,aj];exact anI ds r h hR
theorem ajq(ds:List De)(r:Rl)(h:jM ds r)(hR:R10 ds r↔O):RQ.sat asK CC (gW λn=>n=0↔O) [k0,k1,k2,k3,k4] [eK ds,aR r,x2,x3,x4,x5,x6,x7,x8,x9,eD,jv,jg,lz,lL]:=by
 have hl:=h.keep.1;refine aw r.keep.length (λj (_:Unit)=>[iI j]) (λj _=>∀x∈r.keep.take j,br ds x.s x.ts.length=ab) () ?_ (by simp) λj b hj hI=>?_
 ·simp[SE.den,aj]
 by_cases ai:j<r.keep.length
 ·have hw:=aD ai (by omega);have hm:=asO ai;simp[SE.den,ai,hw,ly ai,aj,aA];exact ajf ds h.d r r.keep[j].s r.keep[j].ts j (by omega) (λq=>.mk () rfl (by omega) (aC (p:=λx:At=>br ds x.s x.ts.length=ab) ai hI q)) λq=>cE hR λm=>by have:=m _ hm;simp[q]at this
 ·have hR:=cD hR (aK ai hI);simp[SE.den,ai,aj];exact ajo ds r h hR
abbrev NM(r:Rl):Prop:=r.name=[]\/gd r.name=ab
theorem ajr(ds:List De)(r:Rl)(h:jM ds r)(l:List Int)(hl:l.length<=1000000000)(hR:(BC 0 l=aa r.vars/\NM r/\R10 ds r)↔O):RR.sat asK CC (gW λn=>n=0↔O) [k0,k1,k2,k3] [eK ds,aR r,x2,x3,x4,x5,x6,x7,x8,x9,eD,iL l]:=by
 have h83:=v83 r.name;refine aw l.length (λj (a:Int)=>[iI j,iI a]) (λj a=>0<=a/\a<=j/\BC 0 l=BC a (l.drop j)) 0 ?_ (by simp) λj a hj hI=>?_
 ·simp[SE.den,aj]
 obtain⟨oT,iR,rS⟩:=hI;by_cases ai:j<l.length
 ·have hw:=aD ai (by omega);have hwa:as7.wrap (a+1)=a+1:=cQ (by omega) (by omega);rw[List.drop_eq_getElem_cons ai]at rS;simp[SE.den,ai,hw,dN ai,aj,cellsOf,aA];by_cases z1:l[j]<=a
  ·right;refine⟨by omega,?_⟩;by_cases z2:l[j]=a
   ·left;refine⟨z2,.mk (a+1) (by rw[hwa];rfl) (by omega) ⟨by omega,by omega,?_⟩⟩;rw[rS,BC,if_pos z1,if_pos z2]
   ·right;refine⟨z2,.mk a rfl (by omega) ⟨by omega,by omega,?_⟩⟩;rw[rS,BC,if_pos z1,if_neg z2]
  ·left;refine⟨by omega,cE hR ?_⟩;rw[rS,BC,if_neg z1];exactλh=>by cases h
 ·rw[List.drop_of_length_le (by omega),BC]at rS;simp[SE.den,ai,aj,aA];by_cases z1:r.vars=a
  ·right;refine⟨z1,?_⟩;have hR:=cD hR (by rw[rS,z1]);by_cases z2:r.name=[]
   ·left;exact⟨z2,ajp ds r h (cD hR (.inl z2))⟩
   ·right;refine⟨z2,_,h83,?_⟩;cases hb:gd r.name<;>simp[aA]
    ·exact cE hR λm=>by rcases m with m|m;exact z2 m;simp[hb]at m
    exact ajq ds r h (cD hR (.inr hb))
  ·left;refine⟨z1,cE hR ?_⟩;rw[rS];exactλh=>by cases h;exact z1 rfl
structure NT(ds:List De)(r:Rl):Prop where
 d:Sm ds
 s:JY r
 n:JZ r
theorem NT.ok{ds:List De}{r:Rl}(h:NT ds r)(h1:∀a∈r.keep,cC a=ab)(h2:∀a∈r.remove,cC a=ab)(h3:∀a∈r.guard,er a=ab)(h4:∀a∈r.body,er a=ab):jM ds r:=
 ⟨h.d,h.s,h.n,h.n.for (λa ha=>(as8.1 ha).elim (λq=>lB (h1 a q)) λq=>lB (h2 a q)) (λa ha=>(as8.1 ha).elim (λq=>vo (h3 a q)) λq=>vo (h4 a q))⟩
abbrev R22(ds:List De)(r:Rl):Prop:=BC 0 (dA [r.keep,r.remove]++db [r.guard,r.body])=aa r.vars/\NM r/\R10 ds r
abbrev R23(ds:List De)(r:Rl):Prop:=(∀a∈r.body,er a=ab)/\R22 ds r
abbrev R24(ds:List De)(r:Rl):Prop:=(∀a∈r.guard,er a=ab)/\R23 ds r
abbrev R25(ds:List De)(r:Rl):Prop:=(∀a∈r.remove,cC a=ab)/\R24 ds r
abbrev R26(ds:List De)(r:Rl):Prop:=(∀a∈r.keep,cC a=ab)/\R25 ds r
theorem ajs(ds:List De)(r:Rl)(h:NT ds r)(h1:∀a∈r.keep,cC a=ab)(h2:∀a∈r.remove,cC a=ab)(h3:∀a∈r.guard,er a=ab)(hR:R23 ds r↔O):RS.sat asK CC (gW λn=>n=0↔O) [k0,k1,k2] [eK ds,aR r,x2,x3,x4,x5,x6]:=by
 have hl:=h.s.b;refine aw r.body.length (λj (b:Bool)=>[iI j,iB b]) (λj _=>∀x∈r.body.take j,er x=ab) af ?_ (by simp) λj b hj hI=>?_
 ·simp[SE.den,aj]
 by_cases ai:j<r.body.length
 ·have hw:=aD ai (by omega);have hm:=asO ai;have ac_:=v138 r.body[j] (h.n.gs _ (atx _ hm));simp[SE.den,ai,hw,mI ai,aj,aA];refine⟨_,ac_,?_⟩;cases hq:er r.body[j]<;>simp[aA]
  ·exact cE hR λm=>by have:=m _ hm;simp[hq]at this
  exact .mk ab rfl (by omega) (aC (p:=λx=>er x=ab) ai hI hq)
 ·have h4:=aK ai hI;have h:=h.ok h1 h2 h3 h4;have hR:=cD hR h4;obtain⟨g1,g2⟩:=LN h;obtain⟨g3,g4⟩:=afW h;have hc:=oN (a:=dA [r.keep,r.remove]) (b:=db [r.guard,r.body]) (by omega);unfold R22 at hR;generalize dA [r.keep,r.remove]=u at g1 g2 hc hR;generalize db [r.guard,r.body]=v at g3 g4 hc hR;simp[SE.den,ai,aj,cellsOf];refine⟨_,g2,_,g4,?_⟩;simp[hc];exact ajr ds r h (u++v) (by rw[atc];omega) hR
theorem ajt(ds:List De)(r:Rl)(h:NT ds r)(h1:∀a∈r.keep,cC a=ab)(h2:∀a∈r.remove,cC a=ab)(hR:R24 ds r↔O):RT.sat asK CC (gW λn=>n=0↔O) [k0,k1] [eK ds,aR r,x2,x3,x4,x5]:=by
 have hl:=h.s.g;refine aw r.guard.length (λj (_:Unit)=>[iI j]) (λj _=>∀x∈r.guard.take j,er x=ab) () ?_ (by simp) λj b hj hI=>?_
 ·simp[SE.den,aj]
 by_cases ai:j<r.guard.length
 ·have hw:=aD ai (by omega);have hm:=asO ai;have ac_:=v138 r.guard[j] (h.n.gs _ (atz _ hm));simp[SE.den,ai,hw,mI ai,aj,aA];refine⟨_,ac_,?_⟩;cases hq:er r.guard[j]<;>simp[aA]
  ·exact cE hR λm=>by have:=m _ hm;simp[hq]at this
  exact .mk () rfl (by omega) (aC (p:=λx=>er x=ab) ai hI hq)
 ·have h3:=aK ai hI;simp[SE.den,ai,aj];exact ajs ds r h h1 h2 h3 (cD hR h3)
theorem aju(ds:List De)(r:Rl)(h:NT ds r)(h1:∀a∈r.keep,cC a=ab)(hR:R25 ds r↔O):RU.sat asK CC (gW λn=>n=0↔O) [k0] [eK ds,aR r,x2,x3]:=by
 have hl:=h.s.h;refine aw r.remove.length (λj (b:Bool)=>[iI j,iB b]) (λj _=>∀x∈r.remove.take j,cC x=ab) af ?_ (by simp) λj b hj hI=>?_
 ·simp[SE.den,aj]
 by_cases ai:j<r.remove.length
 ·have hw:=aD ai (by omega);have hm:=asO ai;have Hl:=v45 r.remove[j] (h.n.hs _ (atx _ hm));simp[SE.den,ai,hw,ly ai,aj,aA];refine⟨_,Hl,?_⟩;cases hq:cC r.remove[j]<;>simp[aA]
  ·exact cE hR λm=>by have:=m _ hm;simp[hq]at this
  exact .mk ab rfl (by omega) (aC (p:=λx=>cC x=ab) ai hI hq)
 ·have h2:=aK ai hI;simp[SE.den,ai,aj];exact ajt ds r h h1 h2 (cD hR h2)
theorem ajv(ds:List De)(r:Rl)(h:NT ds r)(hR:R26 ds r↔O):RV.sat asK CC (gW λn=>n=0↔O) [] [eK ds,aR r,x2]:=by
 have hl:=h.s.h;refine aw r.keep.length (λj (_:Unit)=>[iI j]) (λj _=>∀x∈r.keep.take j,cC x=ab) () ?_ (by simp) λj b hj hI=>?_
 ·simp[SE.den,aj]
 by_cases ai:j<r.keep.length
 ·have hw:=aD ai (by omega);have hm:=asO ai;have Hl:=v45 r.keep[j] (h.n.hs _ (atz _ hm));simp[SE.den,ai,hw,ly ai,aj,aA];refine⟨_,Hl,?_⟩;cases hq:cC r.keep[j]<;>simp[aA]
  ·exact cE hR λm=>by have:=m _ hm;simp[hq]at this
  exact .mk () rfl (by omega) (aC (p:=λx=>cC x=ab) ai hI hq)
 ·have h1:=aK ai hI;simp[SE.den,ai,aj];exact aju ds r h h1 (cD hR h1)
theorem af4(ds:List De)(r:Rl):(r.keep++r.remove≠[]/\R26 ds r)↔uO ds r:=by
 have hw:=λh1 h2=>af3 (r:=r) (n:=r.vars) (Td h1 h2)
 have hv:VV r↔∀g∈r.guard,∀v∈varsOf g.ts,v∈varsOf (gg (r.keep++r.remove)):=by
  rw[<-aa5];exact⟨λh v hv=>(NS r v).1 (h v hv),λh v hv=>(NS r v).2 (h v hv)⟩
 constructor
 ·rintro⟨h0,h1,h2,h3,h4,h5,h6,h7,h8,h9,Ep,Dw,DB,TI⟩;have hA:∀a∈r.keep++r.remove,cC a=ab:=λa ha=>(as8.1 ha).elim (h1 a) (h2 a);have hG:∀a∈r.guard++r.body,er a=ab:=λa ha=>(as8.1 ha).elim (h3 a) (h4 a)
  exact⟨h0,hA,hG,(hw (λa ha=>lB (hA a ha)) (λa ha=>(vo (hG a ha)).2)).2 h5,h6,
   λa ha=>(as8.1 ha).elim (h7 a) (h8 a),λa ha=>(as8.1 ha).elim (h9 a) (Ep a),Dw,DB,hv.1 TI⟩
 ·rintro⟨h0,hA,hG,h5,h6,hM⟩
  exact⟨h0,λa ha=>hA a (atz _ ha),λa ha=>hA a (atx _ ha),λa ha=>hG a (atz _ ha),λa ha=>hG a (atx _ ha),
   (hw (λa ha=>lB (hA a ha)) (λa ha=>(vo (hG a ha)).2)).1 h5,h6,λa ha=>hM.h a (atz _ ha),λa ha=>hM.h a (atx _ ha),
   λa ha=>hM.c a (atz _ ha),λa ha=>hM.c a (atx _ ha),hM.g,hM.b,hv.2 hM.v⟩
theorem v84(ds:List De)(r:Rl)(h:NT ds r):∃n,(n=0↔uO ds r)/\CC 84 af [eK ds,ph r] (iI n):=by
 have h3:=h.s.h;have hg:=h.s.g;have hb:=h.s.b;have hw:as7.wrap ((r.keep.length:Int)+r.remove.length)=r.keep.length+r.remove.length:=cQ (by omega) (by omega);refine CC.LA _ ara n84 t84 (by intro x hx;rcases aty.1 hx with rfl|hx;exact Ie _;obtain rfl:=atF.1 hx;exact jK r) (by rfl) ?_;have hR:=af4 ds r;generalize uO ds r=O at hR;rw[js];simp[aew,SE.den,aj,hw];refine⟨_,aex ab (.az []),?_⟩;by_cases hp:0<r.keep.length+r.remove.length
 ·have aW:r.keep++r.remove≠[]:=λe=>by have:=congrArg List.length e;simp at this;simp[this]at hp
  left;refine⟨by omega,?_⟩;left;refine⟨by omega,?_⟩;left;refine⟨by omega,?_⟩;right;refine⟨by omega,?_⟩;exact ajv ds r h (cD hR aW)
 ·right;refine⟨by omega,?_⟩;have:r.keep++r.remove=[]:=List.eq_nil_of_length_eq_zero (by rw[atc];omega);exact⟨rfl,λo=>(hR.2 o).1 this⟩
end
end Go.Proofs.YtggffkaadeagbaaGreat
