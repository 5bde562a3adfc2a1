/- A part of the proof, no condition: the check of a rule, of the reference and of the program. -/
import Derived.Test.YtpfogalbnijcoaaGreatRkA
import Derived.Test.YtpfogalbnijcoaaGreatRiJ
import Derived.Test.YtpfogalbnijcoaaGreatRiM
open List renaming take_succ_eq_append_getElem->ase,map_append->au8,flatten_append->ath,mem_flatten->auE,mem_map->asv,length_append->ass,getElem_mem->ar5,mem_append->asn,take_of_length_le->asf,mem_cons->asS,mem_singleton->asU,mem_append_left->asN,mem_append_right->asM
open Bool renaming and_eq_true->ar4
open Nat renaming lt_succ_iff_lt_or_eq->aun
open Option.some renaming injEq->ar6
open Go.Proofs.Tryz renaming prog->ar1
open Go.IntKind renaming i64->asC
open Option renaming some->aa,none->ah
open Bool renaming true->ab,false->af
set_option linter.all false
namespace Go.Proofs.YtpfogalbnijcoaaGreat
open Go Go.Ev
def fU(l:List At):List Tm:=(l.map At.ts).flatten
def mD(l:List Gl):List Tm:=(l.map Gl.ts).flatten
theorem JN{l:List At}{i:Nat}(h:i<l.length):fU (l.take (i+1))=fU (l.take i)++l[i].ts:=by
 unfold fU;rw[ase h,au8,ath];simp
theorem Xb{l:List Gl}{i:Nat}(h:i<l.length):mD (l.take (i+1))=mD (l.take i)++l[i].ts:=by
 unfold mD;rw[ase h,au8,ath];simp
theorem E_{l:List At}{t:Tm}:t∈fU l↔∃a∈l,t∈a.ts:=by
 simp only[fU,auE,asv];exact⟨λ⟨_,⟨a,h1,h2⟩,h3⟩=>⟨a,h1,h2▸h3⟩,λ⟨a,h1,h2⟩=>⟨_,⟨a,h1,rfl⟩,h2⟩⟩
theorem M7{l:List Gl}{t:Tm}:t∈mD l↔∃a∈l,t∈a.ts:=by
 simp only[mD,auE,asv];exact⟨λ⟨_,⟨a,h1,h2⟩,h3⟩=>⟨a,h1,h2▸h3⟩,λ⟨a,h1,h2⟩=>⟨_,⟨a,h1,rfl⟩,h2⟩⟩
theorem pW{ts:List Tm}(h:∀t∈ts,dv t):Vr (varsOf ts):=by
 show Vr (Bp (fy ts));rw[<-yS];exact Vr.nil.cO (Xa h)
theorem v203(r:Rl)(h:Ju r)(hf:Bm r):CC 245 af [gO r] (iL (varsOf (fU (r.keep++r.remove)))):=by
 refine CC.CV ald n203 t203 (by simpa using fx r) (by rfl) ?_;have sa:=WR r (by have:=h.h;omega);have hl:=h.h;have h1:=h.hs;have h2:=hf.hs;rw[<-ass]at hl;rw[jc]at sa⊢;generalize r.keep++r.remove=hs at sa hl h1 h2⊢;simp[Zn,SE.den,aj];refine⟨_,sa,?_⟩;simp;unfold QA;refine aw hs.length (λi (a:List Tm)=>[iI i,iT a]) (λi a=>a=fU (hs.take i)/\a.length<=8*i/\∀t∈a,WF t) [] ?_ (by simp[fU]) λi a hi hI=>?_
 ·simp[SE.den]
 obtain⟨iz,oj,iw⟩:=hI;by_cases ai:i<hs.length
 ·have hw:=aD ai (by omega);have hm:=ar5 ai;have hk:=h1 _ hm;have hc:=WS (a:=a) (b:=hs[i].ts) (by omega);simp[SE.den,ai,hw,r9 ai,aj,hc]
  exact .mk (a++hs[i].ts) (by simp) (by omega) ⟨by rw[JN ai,iz],by simp;omega,λt ht=>by
   rcases asn.1 ht with ht|ht
   ·exact iw t ht
   ·exact h2 _ hm t ht⟩
 ·rw[asf (by omega)]at iz;have hb:=adQ a (by unfold Sm;omega) iw;simp[SE.den,ai,aj];rw[iz]at hb⊢;exact⟨_,hb,by simp⟩
def vD(r:Rl):List Tm:=fU (r.keep++r.remove)++mD (r.guard++r.body)
theorem aqk(r:Rl)(h:Ju r)(hf:Bm r):CC 203 af [gO r] (iL (varsOf (vD r))):=by
 refine CC.CV ak8 n153 t153 (by simpa using fx r) (by rfl) ?_;have sa:=WR r (by have:=h.h;omega);have yU:=ab4 r (by have:=h.g;have:=h.b;omega);have hl:=h.h;have M8:r.guard.length+r.body.length<=12:=by have:=h.g;have:=h.b;omega
 have h1:=h.hs;have h2:=hf.hs;have g1:=h.gs;have g2:=hf.gs;unfold vD;rw[<-ass]at hl M8;rw[jc]at sa yU⊢;generalize r.keep++r.remove=hs at sa hl h1 h2⊢;generalize r.guard++r.body=gs at yU M8 g1 g2⊢;simp[Zh,SE.den,aj];refine⟨_,sa,?_⟩;simp;unfold Qr;refine aw hs.length (λi (a:List Tm)=>[iI i,iT a]) (λi a=>a=fU (hs.take i)/\a.length<=8*i/\∀t∈a,WF t) [] ?_ (by simp[fU]) λi a hi hI=>?_
 ·simp[SE.den]
 obtain⟨iz,oj,iw⟩:=hI;by_cases ai:i<hs.length
 ·have hw:=aD ai (by omega);have hm:=ar5 ai;have hk:=h1 _ hm;have hc:=WS (a:=a) (b:=hs[i].ts) (by omega);simp[SE.den,ai,hw,r9 ai,aj,hc]
  exact .mk (a++hs[i].ts) (by simp) (by omega) ⟨by rw[JN ai,iz],by simp;omega,λt ht=>by
   rcases asn.1 ht with ht|ht
   ·exact iw t ht
   ·exact h2 _ hm t ht⟩
 ·rw[asf (by omega)]at iz;simp[SE.den,ai,aj];refine⟨_,yU,?_⟩;simp;unfold Qq;refine aw gs.length (λi (a:List Tm)=>[iI i,iT a]) (λi a=>a=fU hs++mD (gs.take i)/\a.length<=24+8*i/\∀t∈a,WF t) a ?_ ⟨by simp[mD,iz],by omega,iw⟩ λj a hj hJ=>?_
  ·simp[SE.den]
  obtain⟨kA,bD,eU⟩:=hJ;by_cases ai:j<gs.length
  ·have hw:=aD ai (by omega);have hm:=ar5 ai;have hk:=g1 _ hm;have hc:=WS (a:=a) (b:=gs[j].ts) (by omega);simp[SE.den,ai,hw,kU ai,aj,hc]
   exact .mk (a++gs[j].ts) (by simp) (by omega) ⟨by rw[Xb ai,kA,List.append_assoc],by simp;omega,λt ht=>by
    rcases asn.1 ht with ht|ht
    ·exact eU t ht
    ·exact(g2 _ hm).2 t ht⟩
  ·rw[asf (by omega)]at kA;have hb:=adQ a (by unfold Sm;omega) eU;simp[SE.den,ai,aj];rw[kA]at hb⊢;exact⟨_,hb,by simp⟩
structure vE(ds:List De)(r:Rl):Prop where
 h:∀a∈r.keep++r.remove,bB ds a.s a.ts.length=ab
 c:JM ds (r.guard++r.body)
 g:∀g∈r.guard,kq g.op=ab\/g.op=1
 b:∀g∈r.body,kq g.op=af
 v:∀g∈r.guard,∀v∈varsOf g.ts,v∈varsOf (fU (r.keep++r.remove))
theorem v154(ds:List De)(hd:Sm ds)(r:Rl)(h:Ju r)(hf:Bm r):∃n,(n=0↔vE ds r)/\CC 204 af [eo ds,gO r] (iI n):=by
 refine CC.KV _ ak_ n154 t154 (by intro x hx;rcases asS.1 hx with rfl|hx;exact HL _;obtain rfl:=asU.1 hx;exact fx r) (by rfl) ?_;have aci:=v203 r h hf
 have aij:Vr (varsOf (fU (r.keep++r.remove))):=pW λt ht=>by
  obtain⟨a,ha,ht⟩:=E_.1 ht;exact(hf.hs a ha t ht).2
 have aik:=aij.len;have sa:=WR r (by have:=h.h;omega);have yU:=ab4 r (by have:=h.g;have:=h.b;omega);have hl:=h.h;have M8:r.guard.length+r.body.length<=12:=by have:=h.g;have:=h.b;omega
 have hg:=h.g;have hb:=h.b;have g2:=hf.gs;have g1:=h.gs;have hM1:=λm:vE ds r=>m.h;have hM2:=λm:vE ds r=>m.c;have hM3:=λm:vE ds r=>m.g;have hM4:=λm:vE ds r=>m.b;have hM5:=λm:vE ds r=>m.v;have hM:=λa b c d e=>(⟨a,b,c,d,e⟩:vE ds r);generalize vE ds r=M at hM1 hM2 hM3 hM4 hM5 hM⊢;rw[<-ass]at hl M8;rw[jc]at sa yU aci⊢;generalize hV:varsOf (fU (r.keep++r.remove))=RL at aci aij aik hM5 hM;generalize r.keep++r.remove=hs at sa hl hM1 hM;obtain⟨aql,acj,ail⟩:=v201 ds (r.guard++r.body) hd (by unfold Sm;omega);generalize hgs:r.guard++r.body=gs at yU M8 ail acj hM2 hM;obtain⟨rn,rk,rr,rg,rb,rv⟩:=r;simp only at*
 simp[Zj,SE.den,aj];refine⟨_,sa,?_⟩;simp;unfold Qx;refine aw hs.length (λi (_:Unit)=>[iI i]) (λi _=>∀a∈hs.take i,bB ds a.s a.ts.length=ab) () ?_ (by simp) λi _ hi hI=>?_
 ·simp[SE.den]
 by_cases ai:i<hs.length
 ·have hw:=aD ai (by omega);obtain⟨b,hz,hb⟩:=aih ds hs[i].s hs[i].ts.length hd;simp[SE.den,ai,hw,r9 ai,aj,yN];refine⟨_,hb,?_⟩;simp[yN];by_cases h0:b=0
  ·right;exact⟨h0,.mk () rfl (by omega) (aB ai hI (hz.1 h0))⟩
  ·left;exact⟨h0,by simp[h0];exactλm=>h0 (hz.2 (hM1 m _ (ar5 ai)))⟩
 have hA:=aI ai hI;simp[SE.den,ai,aj,yN];refine⟨_,yU,?_⟩;simp;refine⟨_,ail,?_⟩;simp[yN];by_cases h0:aql=0
 rotate_left
 ·left;exact⟨h0,by simp[h0];exactλm=>h0 (acj.2 (hM2 m))⟩
 right;refine⟨h0,?_⟩;have hB:=acj.1 h0;unfold Qw;refine aw rg.length (λi (_:Unit)=>[iI i]) (λi _=>∀g∈rg.take i,kq g.op=ab\/g.op=1) () ?_ (by simp) λi3 _ hi3 rj=>?_
 ·simp[SE.den]
 by_cases DN:i3<rg.length
 ·have hw:=aD DN (by omega);have hb:=aii rg[i3].op;have hs3:=λh=>aB (p:=λg:Gl=>kq g.op=ab\/g.op=1) DN rj h;have Ou:=λm=>hM3 m _ (ar5 DN);simp[SE.den,DN,hw,kU DN,aj];refine⟨_,hb,?_⟩;cases hq:kq rg[i3].op<;>simp
  ·by_cases h0:rg[i3].op=1
   ·right;exact⟨h0,.mk () rfl (by omega) (hs3 (.inr h0))⟩
   ·left;exact⟨h0,λm=>by have:=Ou m;simp[hq,h0]at this⟩
  ·exact .mk () rfl (by omega) (hs3 (.inl hq))
 have hC:=aI DN rj;simp[SE.den,DN,aj];unfold Qv;refine aw rb.length (λi (_:Unit)=>[iI i]) (λi _=>∀g∈rb.take i,kq g.op=af) () ?_ (by simp) λi2 _ XK iw=>?_
 ·simp[SE.den]
 by_cases dY:i2<rb.length
 ·have hw:=aD dY (by omega);have hb:=aii rb[i2].op;simp[SE.den,dY,hw,kU dY,aj];refine⟨_,hb,?_⟩;cases hq:kq rb[i2].op<;>simp
  ·exact .mk () rfl (by omega) (aB dY iw hq)
  ·exactλm=>by have:=hM4 m _ (ar5 dY);simp[hq]at this
 have hD:=aI dY iw;simp[SE.den,dY,aj];refine⟨_,aci,?_⟩;simp;unfold Qu;refine aw rg.length (λi (_:Unit)=>[iI i]) (λi _=>∀g∈rg.take i,∀v∈varsOf g.ts,v∈RL) () ?_ (by simp) λi1 _ OF oj=>?_
 ·simp[SE.den]
 by_cases dZ:i1<rg.length
 ·have P0:=aD dZ (by omega);have hm:rg[i1]∈gs:=hgs▸asN _ (ar5 dZ);have hff:=g2 _ (by simpa[hgs]using hm);have hb:=v93 rg[i1] (by have:=g1 _ (by simpa[hgs]using hm);unfold Sm;omega) hff.2;have Z_:=(pW λt ht=>(hff.2 t ht).2).len;simp[SE.den,dZ,kU dZ,aj];refine⟨_,hb,?_⟩;simp;unfold Qt;generalize hl:varsOf rg[i1].ts=l at*
  refine aw l.length (λi (_:Unit)=>[iI i]) (λi _=>∀v∈l.take i,v∈RL) () ?_ (by simp) λj _ hj hJ=>?_
  ·simp[SE.den]
  by_cases ai:j<l.length
  ·have hw:=aD ai (by omega);have hb:=aqj RL l[j] (by unfold Sm;omega);simp[SE.den,ai,hw,dI ai,aj];refine⟨_,hb,?_⟩;by_cases hq:l[j]∈RL
   ·simp[hq];exact .mk () rfl (by omega) (aB ai hJ hq)
   ·simp[hq];exactλm=>hq (hM5 m _ (ar5 dZ) _ (by rw[hl];exact ar5 ai))
  ·have hE:=aI ai hJ;simp[SE.den,ai,P0];exact .mk () rfl (by omega) (aB (p:=λg:Gl=>∀v∈varsOf g.ts,v∈RL) dZ oj (by rw[hl];exact hE))
 ·simp[SE.den,dZ];exact hM hA hB hC hD (aI dZ oj)
def okV(ts:List Tm)(n:Int):Prop:=(∀(i:Nat) (h:i<(varsOf ts).length),(varsOf ts)[i]=(i:Int))/\n=((varsOf ts).length:Int)
structure uc(ds:List De)(r:Rl):Prop where
 ne:r.keep++r.remove≠[]
 hs:∀a∈r.keep++r.remove,dy a=ab
 gs:∀g∈r.guard++r.body,dX g=ab
 v:okV (vD r) r.vars
 n:r.name=[]\/fT r.name=ab
 m:vE ds r
theorem nS{a:At}(h:dy a=ab):∀t∈a.ts,dv t:=by
 simp only[dy,ar4]at h;exact RJ h.2
theorem uV{a:Gl}(h:dX a=ab):(a.op≠0->gF a.op=a.ts.length)/\∀t∈a.ts,dv t:=by
 unfold dX at h;split at h
 ·rename_i h0;exact⟨λh1=>absurd h0 h1,nS (a:=⟨a.s,a.ts⟩) h⟩
 ·simp only[ar4]at h;exact⟨λ_=>of_decide_eq_true h.1.2,RJ h.2⟩
structure SzR(r:Rl):Prop where
 hs:∀a∈r.keep++r.remove,cu a.ts<=1000000000000
 gs:∀a∈r.guard++r.body,cu a.ts<=1000000000000
theorem sL.b{a:At}(h:sL a)(hz:cu a.ts<=1000000000000):M4 a.ts:=⟨h.2.1,h.2.2,hz⟩
theorem sM.b{a:Gl}(h:sM a)(hz:cu a.ts<=1000000000000):M4 a.ts:=⟨h.2.1,h.2.2,hz⟩
theorem Bm.len{r:Rl}(h:Bm r):(varsOf (vD r)).length<=1048577:=by
 refine(pW λt ht=>?_).len;rcases asn.1 ht with ht|ht
 ·obtain⟨a,ha,ht⟩:=E_.1 ht;exact(h.hs a ha t ht).2
 ·obtain⟨a,ha,ht⟩:=M7.1 ht;exact((h.gs a ha).2 t ht).2
theorem v90(ds:List De)(hd:Sm ds)(r:Rl)(h:Ju r)(hn:Jv r)(hz:SzR r):∃n,(n=0↔uc ds r)/\CC 119 af [eo ds,gO r] (iI n):=by
 refine CC.KV _ apm n90 t90 (by intro x hx;rcases asS.1 hx with rfl|hx;exact HL _;obtain rfl:=asU.1 hx;exact fx r) (by rfl) ?_;have sa:=WR r (by have:=h.h;omega);have yU:=ab4 r (by have:=h.g;have:=h.b;omega);have hl:=h.h;have M8:r.guard.length+r.body.length<=12:=by have:=h.g;have:=h.b;omega
 have hg:=h.g;have hb:=h.b;have n1:=hn.hs;have n2:=hn.gs;have z1:=hz.hs;have z2:=hz.gs;have ack:=hn.for;rw[<-ass]at hl M8;have RM:=aqk r h;have Lf:=v154 ds hd r h;have h89:=v89 r.name hn.n;have Gk:Bm r->(varsOf (vD r)).length<=1048577:=λh=>h.len;have Dm:=λm:uc ds r=>m.ne;have Dn:=λm:uc ds r=>m.hs;have JO:=λm:uc ds r=>m.gs;have hO4:=λm:uc ds r=>m.v;have hO5:=λm:uc ds r=>m.n;have hO6:=λm:uc ds r=>m.m;have hO:=λa b c d e f=>(⟨a,b,c,d,e,f⟩:uc ds r);generalize uc ds r=O at Dm Dn JO hO4 hO5 hO6 hO⊢;generalize vE ds r=M at hO6 Lf hO;generalize vD r=ar at RM hO4 hO Gk;unfold okV at hO4 hO;rw[jc]at sa yU RM Lf⊢;generalize hhs:r.keep++r.remove=hs at sa hl n1 ack z1 Dm Dn hO;generalize hgs:r.guard++r.body=gs at yU M8 n2 ack z2 JO hO;obtain⟨rn,rk,rr,rg,rb,rv⟩:=r;simp only at*
 simp[adh,SE.den,aj];refine⟨_,sa,?_⟩;simp;refine⟨_,yU,?_⟩;simp;by_cases z0:hs=[]
 ·left;exact⟨z0,λm=>Dm m z0⟩
 right;refine⟨z0,?_⟩;right;refine⟨by omega,?_⟩;right;refine⟨by omega,?_⟩;right;refine⟨by omega,?_⟩;unfold TU;refine aw hs.length (λi (_:Unit)=>[iI i]) (λi _=>∀a∈hs.take i,dy a=ab) () ?_ (by simp) λi _ hi hI=>?_
 ·simp[SE.den]
 by_cases ai:i<hs.length
 ·have hw:=aD ai (by omega);have hm:=ar5 ai;have hb:=v49 hs[i] (n1 _ hm).1 ((n1 _ hm).b (z1 _ hm));simp[SE.den,ai,hw,r9 ai,aj];refine⟨_,hb,?_⟩;cases hq:dy hs[i]<;>simp
  ·exactλm=>by have:=Dn m _ hm;simp[hq]at this
  ·exact .mk () rfl (by omega) (aB ai hI hq)
 have hA:=aI ai hI;simp[SE.den,ai,aj];unfold TT;refine aw gs.length (λi (_:Unit)=>[iI i]) (λi _=>∀a∈gs.take i,dX a=ab) () ?_ (by simp) λi1 _ OF oj=>?_
 ·simp[SE.den]
 by_cases dZ:i1<gs.length
 ·have hw:=aD dZ (by omega);have hm:=ar5 dZ;have hb:=v152 gs[i1] (n2 _ hm).1 ((n2 _ hm).b (z2 _ hm));simp[SE.den,dZ,hw,kU dZ,aj];refine⟨_,hb,?_⟩;cases hq:dX gs[i1]<;>simp
  ·exactλm=>by have:=JO m _ hm;simp[hq]at this
  ·exact .mk () rfl (by omega) (aB dZ oj hq)
 have hB:=aI dZ oj;have hF:Bm ⟨rn,rk,rr,rg,rb,rv⟩:=ack (λa ha=>nS (hA a ha)) (λa ha=>uV (hB a ha));have RM:=RM hF;obtain⟨n154,aim,Lf⟩:=Lf hF;have Gk:=Gk hF;generalize varsOf ar=v at*
 simp[SE.den,dZ,aj];refine⟨_,RM,?_⟩;simp;unfold TS;refine aw v.length (λi (_:Unit)=>[iI i]) (λi _=>∀(j:Nat) (h:j<v.length),j<i->v[j]=(j:Int)) () ?_ (λ_ _ h=>absurd h (by omega)) λi0 _ C4 iz=>?_
 ·simp[SE.den]
 by_cases jT:i0<v.length
 ·have hw:=aD jT (by omega);simp[SE.den,jT,hw,dI jT,aj];by_cases he:v[i0]=i0
  ·right;exact⟨he,.mk () rfl (by omega) λj hj GV=>by
    rcases aun.1 GV with GV|rfl
    ·exact iz j hj GV
    ·exact he⟩
  ·left;exact⟨he,λm=>he ((hO4 m).1 i0 jT)⟩
 have hC:∀(j:Nat) (h:j<v.length),v[j]=(j:Int):=λj hj=>iz j hj (by omega);simp[SE.den,jT,aj];by_cases hv:rv=v.length
 rotate_left
 ·left;exact⟨hv,λm=>hv (hO4 m).2⟩
 right;refine⟨hv,?_⟩;by_cases mG:rn=[]
 ·right;refine⟨mG,_,Lf,?_⟩;simp;rw[aim];exact⟨λm=>hO z0 hA hB ⟨hC,hv⟩ (.inl mG) m,hO6⟩
 ·left;refine⟨mG,_,h89,?_⟩;cases hq:fT rn<;>simp
  ·exactλm=>by have:=hO5 m;simp[mG,hq]at this
  refine⟨_,Lf,?_⟩;simp;rw[aim];exact⟨λm=>hO z0 hA hB ⟨hC,hv⟩ (.inr hq) m,hO6⟩
structure o_(p:Pg):Prop where
 d:∀d∈p.decls,fT d.s=ab/\0<=d.n/\d.n<=6
 u:∀(i:Nat) (h:i<p.decls.length),bB (p.decls.take i) p.decls[i].s p.decls[i].n=af
 r:∀r∈p.rules,uc p.decls r
theorem v34(p:Pg)(h:wI p)(hz:∀r∈p.rules,SzR r):∃a n,(n=0↔o_ p)/\CC 59 af [eI p] (.az [iI a,iI n]):=by
 refine CC.ahm _ apj n34 t34 (by simpa using eJ p) (by rfl) ?_;have Dm:=λm:o_ p=>m.d;have Dn:=λm:o_ p=>m.u;have JO:=λm:o_ p=>m.r;have hO:=λa b c=>(⟨a,b,c⟩:o_ p);generalize o_ p=O at Dm Dn JO hO⊢;obtain⟨ds,rs⟩:=p;obtain⟨hd,hr,dn,wb,DP⟩:=h;simp only at*
 show WN.sat _ _ _ _ [.agg [eo ds,nj rs]];simp[WN,SE.den,aj];right;refine⟨by omega,?_⟩;unfold TQ;refine aw ds.length (λi (_:Unit)=>[iI i]) (λi _=>(∀d∈ds.take i,fT d.s=ab/\0<=d.n/\d.n<=6)/\∀(j:Nat) (h:j<ds.length),j<i->bB (ds.take j) ds[j].s ds[j].n=af) () ?_ ⟨by simp,λ_ _ h=>absurd h (by omega)⟩ λi _ hi hI=>?_
 ·simp[SE.den]
 by_cases ai:i<ds.length
 ·have hw:=aD ai (by omega);have hm:=ar5 ai;have h1:=v89 ds[i].s (dn _ hm);have h2:=aqi (ds.take i) ds[i].s ds[i].n (by unfold Sm;simp;omega);have fc:=alw (L:=ds) (l:=i) (by omega);have bw:=λm=>Dm m _ hm;simp[SE.den,ai,hw,ua ai,aj];refine⟨_,h1,?_⟩;cases b1:fT ds[i].s<;>simp
  ·exactλm=>by have:=(bw m).1;simp[b1]at this
  by_cases z1:ds[i].n<0
  ·left;exact⟨z1,λm=>by have:=(bw m).2;omega⟩
  right;refine⟨by omega,?_⟩;by_cases z2:6<ds[i].n
  ·left;exact⟨z2,λm=>by have:=(bw m).2;omega⟩
  right;refine⟨by omega,?_⟩;refine⟨_,fc,_,h2,?_⟩;simp;cases b2:bB (ds.take i) ds[i].s ds[i].n<;>simp
  ·exact .mk () rfl (by omega) ⟨aB ai hI.1 ⟨b1,by omega,by omega⟩,λj hj GV=>by
    rcases aun.1 GV with GV|rfl
    ·exact hI.2 j hj GV
    ·exact b2⟩
  ·exactλm=>by have:=Dn m i ai;simp[b2]at this
 have hA:=aI ai hI.1;simp[SE.den,ai,aj];right;refine⟨by omega,?_⟩;unfold TP;refine aw rs.length (λi (_:Unit)=>[iI i]) (λi _=>∀r∈rs.take i,uc ds r) () ?_ (by simp) λi0 _ C4 iz=>?_
 ·simp[SE.den]
 by_cases jT:i0<rs.length
 ·have hw:=aD jT (by omega);have hm:=ar5 jT;obtain⟨n,hF,hb⟩:=v90 ds (by unfold Sm;omega) rs[i0] (wb _ hm) (DP _ hm) (hz _ hm);rw[jc]at hb;simp[SE.den,jT,hw,yM jT,aj];refine⟨_,hb,?_⟩;simp[yN];by_cases z:n=0
  ·right;exact⟨z,.mk () rfl (by omega) (aB jT iz (hF.1 z))⟩
  ·left;exact⟨z,by simp[z];exactλm=>z (hF.2 (JO m _ hm))⟩
 ·simp[SE.den,jT];exact hO hA (λj hj=>hI.2 j hj (by omega)) (aI jT iz)
end Go.Proofs.YtpfogalbnijcoaaGreat
namespace Go.Proofs.YtpfogalbnijcoaaGreat
open Go Go.Ev
def Bs(a:Int):List Int->Option Int
 |[]=>aa a
 |v::l=>if v<=a then Bs (if v=a then a+1 else a) l else ah
def Xc(u:List Int):Prop:=∀(i:Nat) (h:i<u.length),u[i]=(i:Int)
def s_(n:Nat):List Int:=(List.range n).map λ(i:Nat)=>(i:Int)
theorem Lg(n:Nat):(s_ n).length=n:=by simp[s_]
theorem acm(n:Nat):s_ (n+1)=s_ n++[(n:Int)]:=by simp[s_,List.range_succ]
theorem UL{n:Nat}{v:Int}:v∈s_ n↔0<=v/\v<n:=by
 simp only[s_,asv,List.mem_range];exact⟨λ⟨i,h1,h2⟩=>by omega,λ⟨h1,h2⟩=>⟨v.toNat,by omega,by omega⟩⟩
theorem ain(n:Nat):Xc (s_ n):=λi h=>by simp[s_]
theorem RN:∀(w l:List Int),∃t,cO l w=l++t
 |[],l=>⟨[],by simp[cO]⟩
 |v::w,l=>by
  obtain⟨t,h⟩:=RN w (qS l v);show∃t,cO (qS l v) w=l++t;rw[h];unfold qS;split
  ·exact⟨t,rfl⟩
  ·exact⟨[v]++t,by simp⟩
theorem Lh:∀(w:List Int) (a:Nat) (n:Int),(∀v∈w,0<=v)->(Bs a w=aa n↔Xc (cO (s_ a) w)/\n=((cO (s_ a) w).length:Int))
 |[],a,n,_=>by
  have:cO (s_ a) []=s_ a:=rfl;rw[this,Lg];simp only[Bs,ar6];exact⟨λh=>⟨ain a,h.symm⟩,λh=>h.2.symm⟩
 |v::w,a,n,h=>by
  have h0:=h v (by simp);have hw:=λu hu=>h u (List.mem_cons_of_mem _ hu);show _↔Xc (cO (qS (s_ a) v) w)/\n=((cO (qS (s_ a) v) w).length:Int);unfold Bs qS;by_cases h1:v<a
  ·rw[if_pos (by omega),if_neg (by omega),if_pos (UL.2 ⟨h0,h1⟩)];exact Lh w a n hw
  ·rw[if_neg (λhm=>h1 (UL.1 hm).2)];by_cases h2:v=a
   ·subst h2;rw[if_pos (by omega),if_pos rfl,<-acm];exact Lh w (a+1) n hw
   ·rw[if_neg (by omega)];obtain⟨t,ht⟩:=RN w (s_ a++[v]);refine⟨λh=>(by cases h),λ⟨hr,_⟩=>?_⟩;rw[ht]at hr;have:=hr a (by simp[Lg]);simp[Lg,List.getElem_append]at this;exact absurd this h2
theorem nT{v:Int}:∀(w l:List Int),v∈cO l w↔v∈l\/v∈w
 |[],l=>by simp[cO]
 |x::w,l=>by
  show v∈cO (qS l x) w↔_;rw[nT w];unfold qS;split
  ·rename_i hx;simp only[asS];exact⟨λh=>h.elim .inl λh=>.inr (.inr h),λh=>h.elim .inl λh=>h.elim (λe=>.inl (e▸hx)) .inr⟩
  ·simp only[asn,asS,List.not_mem_nil,or_false,or_assoc]
theorem Fb(l xs:List Int)(x:Int):cO l (xs++[x])=qS (cO l xs) x:=by simp[cO,List.foldl_append]
theorem UM(l xs:List Int):cO l (Bp xs)=cO l xs:=by
 have key:∀n,cO l (Bp (xs.take n))=cO l (xs.take n):=λn=>by
  induction n with
  |zero=>rfl
  |succ n ih=>
   by_cases hn:n<xs.length
   ·rw[ase hn];generalize xs.take n=ys at ih;generalize xs[n]=x;rw[<-yS,Fb,Fb,yS];have hm:x∈Bp ys↔x∈ys:=by rw[<-yS,nT];simp
    unfold qS;by_cases hx:x∈ys
    ·rw[if_pos (hm.2 hx),if_pos ((nT _ _).2 (.inr hx)),ih]
    ·rw[if_neg (λh=>hx (hm.1 h)),Fb,ih];rfl
   ·rw[asf (by omega)]at ih⊢;exact ih
 have:=key xs.length;rwa[List.take_length]at this
theorem aag(m:List Int):∀l:List At,cO m (fa l)=cO m (fy (fU l)):=λl=>by
 induction l generalizing m with
 |nil=>rfl
 |cons a l ih=>
  have h1:fa (a::l)=varsOf a.ts++fa l:=by simp[fa]
  have h2:fy (fU (a::l))=fy a.ts++fy (fU l):=by simp[fU,fy]
  rw[h1,h2,mb,mb,ih];show cO (cO m (Bp (fy a.ts))) _=_;rw[UM]
theorem aio(m:List Int):∀l:List Gl,cO m (ko l)=cO m (fy (mD l)):=λl=>by
 induction l generalizing m with
 |nil=>rfl
 |cons a l ih=>
  have h1:ko (a::l)=varsOf a.ts++ko l:=by simp[ko]
  have h2:fy (mD (a::l))=fy a.ts++fy (mD l):=by simp[mD,fy]
  rw[h1,h2,mb,mb,ih];show cO (cO m (Bp (fy a.ts))) _=_;rw[UM]
theorem vF(a b:List Tm):fy (a++b)=fy a++fy b:=by simp[fy]
theorem Fc(a b:List At):fU (a++b)=fU a++fU b:=by simp[fU]
theorem RO(a b:List Gl):mD (a++b)=mD a++mD b:=by simp[mD]
theorem M9(r:Rl):cO [] (dr [r.keep,r.remove]++cX [r.guard,r.body])=varsOf (vD r):=by
 have e1:dr [r.keep,r.remove]=fa r.keep++fa r.remove:=by simp[dr]
 have e2:cX [r.guard,r.body]=ko r.guard++ko r.body:=by simp[cX]
 show _=cO [] (fy (vD r));rw[e1,e2,vD,vF,Fc,RO,vF,vF];simp only[mb,aag,aio]
theorem afj{r:Rl}{n:Int}(h:∀v∈dr [r.keep,r.remove]++cX [r.guard,r.body],0<=v):okV (vD r) n↔Bs 0 (dr [r.keep,r.remove]++cX [r.guard,r.body])=aa n:=by
 have:=Lh _ 0 n h;have e:s_ 0=[]:=rfl;rw[e,M9]at this;exact this.symm
theorem Xd{v:Int}{ts:List Tm}:v∈varsOf ts↔v∈fy ts:=by
 show v∈Bp (fy ts)↔_;rw[<-yS,nT];simp
theorem M_{v:Int}(l:List At):v∈fa l↔v∈fy (fU l):=by
 have:=nT (v:=v) (fa l) [];rw[aag,nT]at this;simpa using this.symm
theorem Na(r:Rl)(v:Int):v∈dr [r.keep,r.remove]↔v∈varsOf (fU (r.keep++r.remove)):=by
 have e1:dr [r.keep,r.remove]=fa r.keep++fa r.remove:=by simp[dr]
 rw[e1,asn,M_,M_,Xd,Fc,vF,asn]
theorem aah(r:Rl)(p:Int->Prop):(∀v∈cX [r.guard],p v)↔∀g∈r.guard,∀v∈varsOf g.ts,p v:=by
 have e1:cX [r.guard]=ko r.guard:=by simp[cX]
 rw[e1];simp only[ko,auE,asv];exact⟨λh g hg v hv=>h v ⟨_,⟨g,hg,rfl⟩,hv⟩,λh v ⟨_,⟨g,hg,e⟩,hv⟩=>h g hg v (e▸hv)⟩
theorem SO{r:Rl}(h1:∀a∈r.keep++r.remove,∀t∈a.ts,dv t)(h2:∀a∈r.guard++r.body,∀t∈a.ts,dv t):∀v∈dr [r.keep,r.remove]++cX [r.guard,r.body],0<=v:=λv hv=>by
 have hv:v∈cO [] (dr [r.keep,r.remove]++cX [r.guard,r.body]):=(nT _ _).2 (.inr hv);rw[M9]at hv;refine((pW λt ht=>?_).2 v hv).1;rcases asn.1 ht with ht|ht
 ·obtain⟨a,ha,ht⟩:=E_.1 ht;exact h1 a ha t ht
 ·obtain⟨a,ha,ht⟩:=M7.1 ht;exact h2 a ha t ht
end Go.Proofs.YtpfogalbnijcoaaGreat
namespace Go.Proofs.YtpfogalbnijcoaaGreat
open Go Go.Ev
theorem JP(ds:List De)(s:List UInt8)(n:Int)(hl:Sm ds):CC 54 af [eo ds,iS s,iI n] (iB (bB ds s n)):=by
 refine CC.gN apV n47 t47 (by simp) (by rfl) ?_;simp[adD,Ug,SE.den,aj];refine aw ds.length (λi (_:Unit)=>[iI i]) (λi _=>∀d∈ds.take i,d.s=s->¬d.n=n) () ?_ (by simp) λi _ hi hI=>?_
 ·simp[SE.den]
 by_cases ai:i<ds.length
 ·have hw:=aD ai hl;simp[SE.den,ai,hw,ua ai,aj,ahD];by_cases h1:s=ds[i].s/\n=ds[i].n
  ·left;exact⟨h1,E9 (ar5 ai) ⟨h1.1.symm,h1.2.symm⟩⟩
  ·right;exact⟨λh=>λh'=>h1 ⟨h,h'⟩,.mk () rfl (by omega) (aB (p:=λd:De=>d.s=s->¬d.n=n) ai hI λh h'=>h1 ⟨h.symm,h'.symm⟩)⟩
 ·simp[SE.den,ai];exact kW (aI ai hI)
theorem v143(n:Int):CC 186 af [iI n] (iB (kq n)):=by
 refine CC.gN al4 n143 t143 (by simp) (by rfl) ?_;simp[Z1,SE.den,kq];omega
abbrev DK(ds:List De)(r:Rl):Prop:=∀a∈r.keep,bB ds a.s a.ts.length=ab
abbrev DR(ds:List De)(r:Rl):Prop:=∀a∈r.remove,bB ds a.s a.ts.length=ab
abbrev KG(r:Rl):Prop:=∀g∈r.guard,kq g.op=ab\/g.op=1
abbrev KB(r:Rl):Prop:=∀g∈r.body,kq g.op=af
abbrev VV(r:Rl):Prop:=∀v∈cX [r.guard],v∈dr [r.keep,r.remove]
abbrev R5(r:Rl):Prop:=KB r/\VV r
abbrev R6(r:Rl):Prop:=KG r/\R5 r
abbrev R7(ds:List De)(r:Rl):Prop:=JM ds r.body/\R6 r
abbrev R8(ds:List De)(r:Rl):Prop:=JM ds r.guard/\R7 ds r
abbrev R9(ds:List De)(r:Rl):Prop:=DR ds r/\R8 ds r
abbrev R10(ds:List De)(r:Rl):Prop:=DK ds r/\R9 ds r
theorem cz{A B O:Prop}(h:(A/\B)↔O)(a:A):B↔O:=⟨λb=>h.1 ⟨a,b⟩,λo=>(h.2 o).2⟩
theorem cA{A B O:Prop}(h:(A/\B)↔O)(a:¬A):¬O:=λo=>a (h.2 o).1
section
variable{O:Prop}{k0 k1 k2 k3 k4 k5 k6 k7 k8 k9 k10 MY MZ:List IV->Prop}{x2 x3 x4 x5 x6 x7 x8 x9 ek jf iU kV lk rh pU ri Ab EY EH Rq Mx Mw Mv x25 x26:IV}
theorem amv(ds:List De)(hd:Sm ds)(r:Rl)(s:List UInt8)(ts:List Tm)(i:Nat)(hi:i<1000)(hk:bB ds s ts.length=ab->k5 [iI (i+1:Nat)])(bw:bB ds s ts.length=af->¬O):
 Ur.sat ar1 CC (gP λn=>n=0↔O) [k0,k1,k2,k3,k4,k5] [eo ds,aR r,x2,x3,x4,x5,x6,x7,x8,x9,ek,jf,iU,kV,iI i,.agg [iS s,iT ts]]:=by
 have fS:=aD hi (by omega);have we:=JP ds s ts.length hd;refine aw ds.length (λj (_:Unit)=>[iI j]) (λj _=>∀d∈ds.take j,¬d.s=s) () ?_ (by simp) λj _ hj hI=>?_
 ·simp[SE.den]
 by_cases ai:j<ds.length
 ·have hw:=aD ai hd;simp[SE.den,ai,hw,fS,ua ai,aj,aA];by_cases h1:ds[j].s=s
  ·left;refine⟨h1,_,we,?_⟩;cases hb:bB ds s ts.length<;>simp[aA]
   ·exact bw hb
   ·exact hk hb
  ·right;exact⟨h1,.mk () rfl (by omega) (aB (p:=λd:De=>¬d.s=s) ai hI h1)⟩
 ·have:=aI ai hI;simp[SE.den,ai,aA];exact bw (kW λd hd h=>absurd h (this d hd))
theorem amw(ds:List De)(hd:Sm ds)(r:Rl)(s:List UInt8)(ts:List Tm)(i:Nat)(hi:i<1000)(hk:bB ds s ts.length=ab->k6 [iI (i+1:Nat),iB ab])(bw:bB ds s ts.length=af->¬O):
 Us.sat ar1 CC (gP λn=>n=0↔O) [k0,k1,k2,k3,k4,k5,k6] [eo ds,aR r,x2,x3,x4,x5,x6,x7,x8,x9,ek,jf,iU,kV,lk,iI i,pU,.agg [iS s,iT ts]]:=by
 have fS:=aD hi (by omega);have we:=JP ds s ts.length hd;refine aw ds.length (λj (_:Unit)=>[iI j]) (λj _=>∀d∈ds.take j,¬d.s=s) () ?_ (by simp) λj _ hj hI=>?_
 ·simp[SE.den]
 by_cases ai:j<ds.length
 ·have hw:=aD ai hd;simp[SE.den,ai,hw,fS,ua ai,aj,aA];by_cases h1:ds[j].s=s
  ·left;refine⟨h1,_,we,?_⟩;cases hb:bB ds s ts.length<;>simp[aA]
   ·exact bw hb
   ·exact hk hb
  ·right;exact⟨h1,.mk () rfl (by omega) (aB (p:=λd:De=>¬d.s=s) ai hI h1)⟩
 ·have:=aI ai hI;simp[SE.den,ai,aA];exact bw (kW λd hd h=>absurd h (this d hd))
theorem amx(ds:List De)(hd:Sm ds)(r:Rl)(op:Int)(s:List UInt8)(ts:List Tm)(i:Nat)(hi:i<1000)(hk:bB ds s ts.length=ab->k7 [iI (i+1:Nat)])(bw:bB ds s ts.length=af->¬O):
 Ut.sat ar1 CC (gP λn=>n=0↔O) [k0,k1,k2,k3,k4,k5,k6,k7] [eo ds,aR r,x2,x3,x4,x5,x6,x7,x8,x9,ek,jf,iU,kV,lk,rh,pU,iI i,.agg [iI op,iS s,iT ts]]:=by
 have fS:=aD hi (by omega);have we:=JP ds s ts.length hd;refine aw ds.length (λj (_:Unit)=>[iI j]) (λj _=>∀d∈ds.take j,¬d.s=s) () ?_ (by simp) λj _ hj hI=>?_
 ·simp[SE.den]
 by_cases ai:j<ds.length
 ·have hw:=aD ai hd;simp[SE.den,ai,hw,fS,ua ai,aj,aA];by_cases h1:ds[j].s=s
  ·left;refine⟨h1,_,we,?_⟩;cases hb:bB ds s ts.length<;>simp[aA]
   ·exact bw hb
   ·exact hk hb
  ·right;exact⟨h1,.mk () rfl (by omega) (aB (p:=λd:De=>¬d.s=s) ai hI h1)⟩
 ·have:=aI ai hI;simp[SE.den,ai,aA];exact bw (kW λd hd h=>absurd h (this d hd))
theorem amy(ds:List De)(hd:Sm ds)(r:Rl)(op:Int)(s:List UInt8)(ts:List Tm)(i:Nat)(hi:i<1000)(hk:bB ds s ts.length=ab->k8 [iI (i+1:Nat)])(bw:bB ds s ts.length=af->¬O):
 Uu.sat ar1 CC (gP λn=>n=0↔O) [k0,k1,k2,k3,k4,k5,k6,k7,k8] [eo ds,aR r,x2,x3,x4,x5,x6,x7,x8,x9,ek,jf,iU,kV,lk,rh,pU,ri,iI i,.agg [iI op,iS s,iT ts]]:=by
 have fS:=aD hi (by omega);have we:=JP ds s ts.length hd;refine aw ds.length (λj (_:Unit)=>[iI j]) (λj _=>∀d∈ds.take j,¬d.s=s) () ?_ (by simp) λj _ hj hI=>?_
 ·simp[SE.den]
 by_cases ai:j<ds.length
 ·have hw:=aD ai hd;simp[SE.den,ai,hw,fS,ua ai,aj,aA];by_cases h1:ds[j].s=s
  ·left;refine⟨h1,_,we,?_⟩;cases hb:bB ds s ts.length<;>simp[aA]
   ·exact bw hb
   ·exact hk hb
  ·right;exact⟨h1,.mk () rfl (by omega) (aB (p:=λd:De=>¬d.s=s) ai hI h1)⟩
 ·have:=aI ai hI;simp[SE.den,ai,aA];exact bw (kW λd hd h=>absurd h (this d hd))
theorem aip(ds:List De)(hd:Sm ds)(r:Rl)(s:List UInt8)(ts:List Tm)(i:Nat)(hi:i<1000)(hk:bB ds s ts.length=ab->k5 [iI (i+1:Nat)])(bw:bB ds s ts.length=af->¬O):
 Q8.sat ar1 CC (gP λn=>n=0↔O) [k0,k1,k2,k3,k4,k5] [eo ds,aR r,x2,x3,x4,x5,x6,x7,x8,x9,ek,jf,iU,kV,lk,iI i,.agg [iS s,iT ts]]:=by
 have fS:=aD hi (by omega);have we:=JP ds s ts.length hd;refine aw ds.length (λj (_:Unit)=>[iI j]) (λj _=>∀d∈ds.take j,¬d.s=s) () ?_ (by simp) λj _ hj hI=>?_
 ·simp[SE.den]
 by_cases ai:j<ds.length
 ·have hw:=aD ai hd;simp[SE.den,ai,hw,fS,ua ai,aj,aA];by_cases h1:ds[j].s=s
  ·left;refine⟨h1,_,we,?_⟩;cases hb:bB ds s ts.length<;>simp[aA]
   ·exact bw hb
   ·exact hk hb
  ·right;exact⟨h1,.mk () rfl (by omega) (aB (p:=λd:De=>¬d.s=s) ai hI h1)⟩
 ·have:=aI ai hI;simp[SE.den,ai,aA];exact bw (kW λd hd h=>absurd h (this d hd))
theorem aiq(ds:List De)(hd:Sm ds)(r:Rl)(s:List UInt8)(ts:List Tm)(i:Nat)(hi:i<1000)(hk:bB ds s ts.length=ab->k6 [iI (i+1:Nat),iB ab])(bw:bB ds s ts.length=af->¬O):
 Q_.sat ar1 CC (gP λn=>n=0↔O) [k0,k1,k2,k3,k4,k5,k6] [eo ds,aR r,x2,x3,x4,x5,x6,x7,x8,x9,ek,jf,iU,kV,lk,rh,iI i,ri,.agg [iS s,iT ts]]:=by
 have fS:=aD hi (by omega);have we:=JP ds s ts.length hd;refine aw ds.length (λj (_:Unit)=>[iI j]) (λj _=>∀d∈ds.take j,¬d.s=s) () ?_ (by simp) λj _ hj hI=>?_
 ·simp[SE.den]
 by_cases ai:j<ds.length
 ·have hw:=aD ai hd;simp[SE.den,ai,hw,fS,ua ai,aj,aA];by_cases h1:ds[j].s=s
  ·left;refine⟨h1,_,we,?_⟩;cases hb:bB ds s ts.length<;>simp[aA]
   ·exact bw hb
   ·exact hk hb
  ·right;exact⟨h1,.mk () rfl (by omega) (aB (p:=λd:De=>¬d.s=s) ai hI h1)⟩
 ·have:=aI ai hI;simp[SE.den,ai,aA];exact bw (kW λd hd h=>absurd h (this d hd))
theorem air(ds:List De)(hd:Sm ds)(r:Rl)(op:Int)(s:List UInt8)(ts:List Tm)(i:Nat)(hi:i<1000)(hk:bB ds s ts.length=ab->k7 [iI (i+1:Nat)])(bw:bB ds s ts.length=af->¬O):
 Ra.sat ar1 CC (gP λn=>n=0↔O) [k0,k1,k2,k3,k4,k5,k6,k7] [eo ds,aR r,x2,x3,x4,x5,x6,x7,x8,x9,ek,jf,iU,kV,lk,rh,pU,ri,iI i,.agg [iI op,iS s,iT ts]]:=by
 have fS:=aD hi (by omega);have we:=JP ds s ts.length hd;refine aw ds.length (λj (_:Unit)=>[iI j]) (λj _=>∀d∈ds.take j,¬d.s=s) () ?_ (by simp) λj _ hj hI=>?_
 ·simp[SE.den]
 by_cases ai:j<ds.length
 ·have hw:=aD ai hd;simp[SE.den,ai,hw,fS,ua ai,aj,aA];by_cases h1:ds[j].s=s
  ·left;refine⟨h1,_,we,?_⟩;cases hb:bB ds s ts.length<;>simp[aA]
   ·exact bw hb
   ·exact hk hb
  ·right;exact⟨h1,.mk () rfl (by omega) (aB (p:=λd:De=>¬d.s=s) ai hI h1)⟩
 ·have:=aI ai hI;simp[SE.den,ai,aA];exact bw (kW λd hd h=>absurd h (this d hd))
theorem ais(ds:List De)(hd:Sm ds)(r:Rl)(op:Int)(s:List UInt8)(ts:List Tm)(i:Nat)(hi:i<1000)(hk:bB ds s ts.length=ab->k8 [iI (i+1:Nat)])(bw:bB ds s ts.length=af->¬O):
 Rb.sat ar1 CC (gP λn=>n=0↔O) [k0,k1,k2,k3,k4,k5,k6,k7,k8] [eo ds,aR r,x2,x3,x4,x5,x6,x7,x8,x9,ek,jf,iU,kV,lk,rh,pU,ri,Ab,iI i,.agg [iI op,iS s,iT ts]]:=by
 have fS:=aD hi (by omega);have we:=JP ds s ts.length hd;refine aw ds.length (λj (_:Unit)=>[iI j]) (λj _=>∀d∈ds.take j,¬d.s=s) () ?_ (by simp) λj _ hj hI=>?_
 ·simp[SE.den]
 by_cases ai:j<ds.length
 ·have hw:=aD ai hd;simp[SE.den,ai,hw,fS,ua ai,aj,aA];by_cases h1:ds[j].s=s
  ·left;refine⟨h1,_,we,?_⟩;cases hb:bB ds s ts.length<;>simp[aA]
   ·exact bw hb
   ·exact hk hb
  ·right;exact⟨h1,.mk () rfl (by omega) (aB (p:=λd:De=>¬d.s=s) ai hI h1)⟩
 ·have:=aI ai hI;simp[SE.den,ai,aA];exact bw (kW λd hd h=>absurd h (this d hd))
theorem amz(ds:List De)(r:Rl)(l u:List Int)(hl:Sm l)(hu:Sm u)(hR:(∀v∈u,v∈l)↔O):
 Uv.sat ar1 CC (gP λn=>n=0↔O) [k0,k1,k2,k3,k4,k5,k6,k7,k8,k9,k10] [eo ds,aR r,x2,x3,x4,x5,x6,x7,x8,x9,ek,jf,iU,kV,lk,rh,pU,ri,Ab,EY,EH,iL l,iL u]:=by
 refine aw u.length (λj (_:Unit)=>[iL l,iI j]) (λj _=>∀v∈u.take j,v∈l) () ?_ (by simp) λj _ hj hI=>?_
 ·simp[SE.den]
 by_cases ai:j<u.length
 ·have hw:=aD ai hu;have acn:=adH l u[j] hl;simp[SE.den,ai,hw,dI ai,aj,aA,cellsOf];refine⟨_,acn,?_⟩;by_cases z:u[j]∈l
  ·simp[z,aA];exact .mk () rfl (by omega) (aB ai hI z)
  ·simp[z,aA];exactλo=>z (hR.2 o _ (ar5 ai))
 ·simp[SE.den,ai];exact hR.1 (aI ai hI)
theorem ait(ds:List De)(r:Rl)(l u:List Int)(hl:Sm l)(hu:Sm u)(hR:(∀v∈u,v∈l)↔O):
 Rc.sat ar1 CC (gP λn=>n=0↔O) [k0,k1,k2,k3,k4,k5,k6,k7,k8,k9,k10] [eo ds,aR r,x2,x3,x4,x5,x6,x7,x8,x9,ek,jf,iU,kV,lk,rh,pU,ri,Ab,EY,EH,Rq,iL l,iL u]:=by
 refine aw u.length (λj (_:Unit)=>[iL l,iI j]) (λj _=>∀v∈u.take j,v∈l) () ?_ (by simp) λj _ hj hI=>?_
 ·simp[SE.den]
 by_cases ai:j<u.length
 ·have hw:=aD ai hu;have acn:=adH l u[j] hl;simp[SE.den,ai,hw,dI ai,aj,aA,cellsOf];refine⟨_,acn,?_⟩;by_cases z:u[j]∈l
  ·simp[z,aA];exact .mk () rfl (by omega) (aB ai hI z)
  ·simp[z,aA];exactλo=>z (hR.2 o _ (ar5 ai))
 ·simp[SE.den,ai];exact hR.1 (aI ai hI)
theorem amA(ds:List De)(r:Rl)(h:jx ds r)(hR:R5 r↔O):Uw.sat ar1 CC (gP λn=>n=0↔O) [k0,k1,k2,k3,k4,k5,k6,k7,k8,k9] [eo ds,aR r,x2,x3,x4,x5,x6,x7,x8,x9,ek,jf,iU,kV,lk,rh,pU,ri,Ab,EY]:=by
 have hl:=h.body.1;refine aw r.body.length (λj (_:Unit)=>[iI j]) (λj _=>∀x∈r.body.take j,kq x.op=af) () ?_ (by simp) λj b hj hI=>?_
 ·simp[SE.den,aj]
 by_cases ai:j<r.body.length
 ·have hw:=aD ai (by omega);have hm:=ar5 ai;have HX:=v143 r.body[j].op;simp[SE.den,ai,hw,kU ai,aj,aA];refine⟨_,HX,?_⟩;cases hq:kq r.body[j].op<;>simp[aA]
  ·exact .mk () rfl (by omega) (aB ai hI hq)
  ·exact cA hR λm=>by have:=m _ hm;simp[hq]at this
 ·obtain⟨g1,g2⟩:=K_ h;obtain⟨g3,g4⟩:=UB h;have hR:=cz hR (aI ai hI);unfold VV at hR;generalize dr [r.keep,r.remove]=u at g1 g2 hR;generalize cX [r.guard]=v at g3 g4 hR;simp[SE.den,ai,aj,cellsOf];exact⟨_,g2,_,g4,⟨_,rfl⟩,amz ds r u v (by unfold Sm;omega) (by unfold Sm;omega) hR⟩
theorem aiu(ds:List De)(r:Rl)(h:jx ds r)(hR:R5 r↔O):Re.sat ar1 CC (gP λn=>n=0↔O) [k0,k1,k2,k3,k4,k5,k6,k7,k8,k9] [eo ds,aR r,x2,x3,x4,x5,x6,x7,x8,x9,ek,jf,iU,kV,lk,rh,pU,ri,Ab,EY,EH]:=by
 have hl:=h.body.1;refine aw r.body.length (λj (_:Unit)=>[iI j]) (λj _=>∀x∈r.body.take j,kq x.op=af) () ?_ (by simp) λj b hj hI=>?_
 ·simp[SE.den,aj]
 by_cases ai:j<r.body.length
 ·have hw:=aD ai (by omega);have hm:=ar5 ai;have HX:=v143 r.body[j].op;simp[SE.den,ai,hw,kU ai,aj,aA];refine⟨_,HX,?_⟩;cases hq:kq r.body[j].op<;>simp[aA]
  ·exact .mk () rfl (by omega) (aB ai hI hq)
  ·exact cA hR λm=>by have:=m _ hm;simp[hq]at this
 ·obtain⟨g1,g2⟩:=K_ h;obtain⟨g3,g4⟩:=UB h;have hR:=cz hR (aI ai hI);unfold VV at hR;generalize dr [r.keep,r.remove]=u at g1 g2 hR;generalize cX [r.guard]=v at g3 g4 hR;simp[SE.den,ai,aj,cellsOf];exact⟨_,g2,_,g4,⟨_,rfl⟩,ait ds r u v (by unfold Sm;omega) (by unfold Sm;omega) hR⟩
theorem amB(ds:List De)(r:Rl)(h:jx ds r)(hR:R6 r↔O):Ux.sat ar1 CC (gP λn=>n=0↔O) [k0,k1,k2,k3,k4,k5,k6,k7,k8] [eo ds,aR r,x2,x3,x4,x5,x6,x7,x8,x9,ek,jf,iU,kV,lk,rh,pU,ri,Ab]:=by
 have hl:=h.guard.1;refine aw r.guard.length (λj (_:Unit)=>[iI j]) (λj _=>∀x∈r.guard.take j,(kq x.op=ab\/x.op=1)) () ?_ (by simp) λj b hj hI=>?_
 ·simp[SE.den,aj]
 by_cases ai:j<r.guard.length
 ·have hw:=aD ai (by omega);have hm:=ar5 ai;have HX:=v143 r.guard[j].op;have hs:=λq=>aB (p:=λx:Gl=>kq x.op=ab\/x.op=1) ai hI q;simp[SE.den,ai,hw,kU ai,aj,aA];refine⟨_,HX,?_⟩;cases hq:kq r.guard[j].op<;>simp[aA]
  ·by_cases z:r.guard[j].op=1
   ·right;exact⟨z,.mk () rfl (by omega) (hs (.inr z))⟩
   ·left;exact⟨z,cA hR λm=>by have:=m _ hm;simp[hq,z]at this⟩
  ·exact .mk () rfl (by omega) (hs (.inl hq))
 ·have hR:=cz hR (aI ai hI);simp[SE.den,ai,aj];exact amA ds r h hR
theorem aiv(ds:List De)(r:Rl)(h:jx ds r)(hR:R6 r↔O):Rf.sat ar1 CC (gP λn=>n=0↔O) [k0,k1,k2,k3,k4,k5,k6,k7,k8] [eo ds,aR r,x2,x3,x4,x5,x6,x7,x8,x9,ek,jf,iU,kV,lk,rh,pU,ri,Ab,EY]:=by
 have hl:=h.guard.1;refine aw r.guard.length (λj (_:Unit)=>[iI j]) (λj _=>∀x∈r.guard.take j,(kq x.op=ab\/x.op=1)) () ?_ (by simp) λj b hj hI=>?_
 ·simp[SE.den,aj]
 by_cases ai:j<r.guard.length
 ·have hw:=aD ai (by omega);have hm:=ar5 ai;have HX:=v143 r.guard[j].op;have hs:=λq=>aB (p:=λx:Gl=>kq x.op=ab\/x.op=1) ai hI q;simp[SE.den,ai,hw,kU ai,aj,aA];refine⟨_,HX,?_⟩;cases hq:kq r.guard[j].op<;>simp[aA]
  ·by_cases z:r.guard[j].op=1
   ·right;exact⟨z,.mk () rfl (by omega) (hs (.inr z))⟩
   ·left;exact⟨z,cA hR λm=>by have:=m _ hm;simp[hq,z]at this⟩
  ·exact .mk () rfl (by omega) (hs (.inl hq))
 ·have hR:=cz hR (aI ai hI);simp[SE.den,ai,aj];exact aiu ds r h hR
theorem amC(ds:List De)(r:Rl)(h:jx ds r)(hR:R7 ds r↔O):Uy.sat ar1 CC (gP λn=>n=0↔O) [k0,k1,k2,k3,k4,k5,k6,k7] [eo ds,aR r,x2,x3,x4,x5,x6,x7,x8,x9,ek,jf,iU,kV,lk,rh,pU,ri]:=by
 have hl:=h.body.1;refine aw r.body.length (λj (_:Unit)=>[iI j]) (λj _=>∀x∈r.body.take j,(x.op=0->bB ds x.s x.ts.length=ab)) () ?_ (by simp) λj b hj hI=>?_
 ·simp[SE.den,aj]
 by_cases ai:j<r.body.length
 ·have hw:=aD ai (by omega);have hm:=ar5 ai;have hs:=λq=>aB (p:=λx:Gl=>x.op=0->bB ds x.s x.ts.length=ab) ai hI q;simp[SE.den,ai,hw,kU ai,aj,aA];by_cases z:r.body[j].op=0
  ·left;exact⟨z,amy ds h.d r r.body[j].op r.body[j].s r.body[j].ts j (by omega) (λq=>.mk () rfl (by omega) (hs λ_=>q)) λq=>cA hR λm=>by have:=m _ hm z;simp[q]at this⟩
  ·right;exact⟨z,.mk () rfl (by omega) (hs λq=>absurd q z)⟩
 ·have hR:=cz hR (aI ai hI);simp[SE.den,ai,aj];exact amB ds r h hR
theorem aiw(ds:List De)(r:Rl)(h:jx ds r)(hR:R7 ds r↔O):Rg.sat ar1 CC (gP λn=>n=0↔O) [k0,k1,k2,k3,k4,k5,k6,k7] [eo ds,aR r,x2,x3,x4,x5,x6,x7,x8,x9,ek,jf,iU,kV,lk,rh,pU,ri,Ab]:=by
 have hl:=h.body.1;refine aw r.body.length (λj (_:Unit)=>[iI j]) (λj _=>∀x∈r.body.take j,(x.op=0->bB ds x.s x.ts.length=ab)) () ?_ (by simp) λj b hj hI=>?_
 ·simp[SE.den,aj]
 by_cases ai:j<r.body.length
 ·have hw:=aD ai (by omega);have hm:=ar5 ai;have hs:=λq=>aB (p:=λx:Gl=>x.op=0->bB ds x.s x.ts.length=ab) ai hI q;simp[SE.den,ai,hw,kU ai,aj,aA];by_cases z:r.body[j].op=0
  ·left;exact⟨z,ais ds h.d r r.body[j].op r.body[j].s r.body[j].ts j (by omega) (λq=>.mk () rfl (by omega) (hs λ_=>q)) λq=>cA hR λm=>by have:=m _ hm z;simp[q]at this⟩
  ·right;exact⟨z,.mk () rfl (by omega) (hs λq=>absurd q z)⟩
 ·have hR:=cz hR (aI ai hI);simp[SE.den,ai,aj];exact aiv ds r h hR
theorem amD(ds:List De)(r:Rl)(h:jx ds r)(hR:R8 ds r↔O):Uz.sat ar1 CC (gP λn=>n=0↔O) [k0,k1,k2,k3,k4,k5,k6] [eo ds,aR r,x2,x3,x4,x5,x6,x7,x8,x9,ek,jf,iU,kV,lk,rh,pU]:=by
 have hl:=h.guard.1;refine aw r.guard.length (λj (_:Unit)=>[iI j]) (λj _=>∀x∈r.guard.take j,(x.op=0->bB ds x.s x.ts.length=ab)) () ?_ (by simp) λj b hj hI=>?_
 ·simp[SE.den,aj]
 by_cases ai:j<r.guard.length
 ·have hw:=aD ai (by omega);have hm:=ar5 ai;have hs:=λq=>aB (p:=λx:Gl=>x.op=0->bB ds x.s x.ts.length=ab) ai hI q;simp[SE.den,ai,hw,kU ai,aj,aA];by_cases z:r.guard[j].op=0
  ·left;exact⟨z,amx ds h.d r r.guard[j].op r.guard[j].s r.guard[j].ts j (by omega) (λq=>.mk () rfl (by omega) (hs λ_=>q)) λq=>cA hR λm=>by have:=m _ hm z;simp[q]at this⟩
  ·right;exact⟨z,.mk () rfl (by omega) (hs λq=>absurd q z)⟩
 ·have hR:=cz hR (aI ai hI);simp[SE.den,ai,aj];exact amC ds r h hR
theorem aix(ds:List De)(r:Rl)(h:jx ds r)(hR:R8 ds r↔O):Rh.sat ar1 CC (gP λn=>n=0↔O) [k0,k1,k2,k3,k4,k5,k6] [eo ds,aR r,x2,x3,x4,x5,x6,x7,x8,x9,ek,jf,iU,kV,lk,rh,pU,ri]:=by
 have hl:=h.guard.1;refine aw r.guard.length (λj (_:Unit)=>[iI j]) (λj _=>∀x∈r.guard.take j,(x.op=0->bB ds x.s x.ts.length=ab)) () ?_ (by simp) λj b hj hI=>?_
 ·simp[SE.den,aj]
 by_cases ai:j<r.guard.length
 ·have hw:=aD ai (by omega);have hm:=ar5 ai;have hs:=λq=>aB (p:=λx:Gl=>x.op=0->bB ds x.s x.ts.length=ab) ai hI q;simp[SE.den,ai,hw,kU ai,aj,aA];by_cases z:r.guard[j].op=0
  ·left;exact⟨z,air ds h.d r r.guard[j].op r.guard[j].s r.guard[j].ts j (by omega) (λq=>.mk () rfl (by omega) (hs λ_=>q)) λq=>cA hR λm=>by have:=m _ hm z;simp[q]at this⟩
  ·right;exact⟨z,.mk () rfl (by omega) (hs λq=>absurd q z)⟩
 ·have hR:=cz hR (aI ai hI);simp[SE.den,ai,aj];exact aiw ds r h hR
theorem amE(ds:List De)(r:Rl)(h:jx ds r)(hR:R9 ds r↔O):UA.sat ar1 CC (gP λn=>n=0↔O) [k0,k1,k2,k3,k4,k5] [eo ds,aR r,x2,x3,x4,x5,x6,x7,x8,x9,ek,jf,iU,kV,lk]:=by
 have hl:=h.remove.1;refine aw r.remove.length (λj (b:Bool)=>[iI j,iB b]) (λj _=>∀x∈r.remove.take j,bB ds x.s x.ts.length=ab) af ?_ (by simp) λj b hj hI=>?_
 ·simp[SE.den,aj]
 by_cases ai:j<r.remove.length
 ·have hw:=aD ai (by omega);have hm:=ar5 ai;simp[SE.den,ai,hw,r9 ai,aj,aA];exact amw ds h.d r r.remove[j].s r.remove[j].ts j (by omega) (λq=>.mk ab rfl (by omega) (aB (p:=λx:At=>bB ds x.s x.ts.length=ab) ai hI q)) λq=>cA hR λm=>by have:=m _ hm;simp[q]at this
 ·have hR:=cz hR (aI ai hI);simp[SE.den,ai,aj];exact amD ds r h hR
theorem aiy(ds:List De)(r:Rl)(h:jx ds r)(hR:R9 ds r↔O):Ri.sat ar1 CC (gP λn=>n=0↔O) [k0,k1,k2,k3,k4,k5] [eo ds,aR r,x2,x3,x4,x5,x6,x7,x8,x9,ek,jf,iU,kV,lk,rh]:=by
 have hl:=h.remove.1;refine aw r.remove.length (λj (b:Bool)=>[iI j,iB b]) (λj _=>∀x∈r.remove.take j,bB ds x.s x.ts.length=ab) af ?_ (by simp) λj b hj hI=>?_
 ·simp[SE.den,aj]
 by_cases ai:j<r.remove.length
 ·have hw:=aD ai (by omega);have hm:=ar5 ai;simp[SE.den,ai,hw,r9 ai,aj,aA];exact aiq ds h.d r r.remove[j].s r.remove[j].ts j (by omega) (λq=>.mk ab rfl (by omega) (aB (p:=λx:At=>bB ds x.s x.ts.length=ab) ai hI q)) λq=>cA hR λm=>by have:=m _ hm;simp[q]at this
 ·have hR:=cz hR (aI ai hI);simp[SE.den,ai,aj];exact aix ds r h hR
theorem aiz(ds:List De)(r:Rl)(h:jx ds r)(hR:R10 ds r↔O):Q7.sat ar1 CC (gP λn=>n=0↔O) [k0,k1,k2,k3,k4] [eo ds,aR r,x2,x3,x4,x5,x6,x7,x8,x9,ek,jf,iU,kV]:=by
 have hl:=h.keep.1;refine aw r.keep.length (λj (_:Unit)=>[iI j]) (λj _=>∀x∈r.keep.take j,bB ds x.s x.ts.length=ab) () ?_ (by simp) λj b hj hI=>?_
 ·simp[SE.den,aj]
 by_cases ai:j<r.keep.length
 ·have hw:=aD ai (by omega);have hm:=ar5 ai;simp[SE.den,ai,hw,r9 ai,aj,aA];exact amv ds h.d r r.keep[j].s r.keep[j].ts j (by omega) (λq=>.mk () rfl (by omega) (aB (p:=λx:At=>bB ds x.s x.ts.length=ab) ai hI q)) λq=>cA hR λm=>by have:=m _ hm;simp[q]at this
 ·have hR:=cz hR (aI ai hI);simp[SE.den,ai,aj];exact amE ds r h hR
theorem aiA(ds:List De)(r:Rl)(h:jx ds r)(hR:R10 ds r↔O):Rj.sat ar1 CC (gP λn=>n=0↔O) [k0,k1,k2,k3,k4] [eo ds,aR r,x2,x3,x4,x5,x6,x7,x8,x9,ek,jf,iU,kV,lk]:=by
 have hl:=h.keep.1;refine aw r.keep.length (λj (_:Unit)=>[iI j]) (λj _=>∀x∈r.keep.take j,bB ds x.s x.ts.length=ab) () ?_ (by simp) λj b hj hI=>?_
 ·simp[SE.den,aj]
 by_cases ai:j<r.keep.length
 ·have hw:=aD ai (by omega);have hm:=ar5 ai;simp[SE.den,ai,hw,r9 ai,aj,aA];exact aip ds h.d r r.keep[j].s r.keep[j].ts j (by omega) (λq=>.mk () rfl (by omega) (aB (p:=λx:At=>bB ds x.s x.ts.length=ab) ai hI q)) λq=>cA hR λm=>by have:=m _ hm;simp[q]at this
 ·have hR:=cz hR (aI ai hI);simp[SE.den,ai,aj];exact aiy ds r h hR
abbrev NM(r:Rl):Prop:=r.name=[]\/fT r.name=ab
theorem aiB(ds:List De)(r:Rl)(h:jx ds r)(l:List Int)(hl:l.length<=1000000000)(hR:(Bs 0 l=aa r.vars/\NM r/\R10 ds r)↔O):Rk.sat ar1 CC (gP λn=>n=0↔O) [k0,k1,k2,k3] [eo ds,aR r,x2,x3,x4,x5,x6,x7,x8,x9,ek,iL l]:=by
 have h83:=v83 r.name;refine aw l.length (λj (a:Int)=>[iI j,iI a]) (λj a=>0<=a/\a<=j/\Bs 0 l=Bs a (l.drop j)) 0 ?_ (by simp) λj a hj hI=>?_
 ·simp[SE.den,aj]
 obtain⟨oj,iw,rj⟩:=hI;by_cases ai:j<l.length
 ·have hw:=aD ai (by omega);have hwa:asC.wrap (a+1)=a+1:=dQ (by omega) (by omega);rw[List.drop_eq_getElem_cons ai]at rj;simp[SE.den,ai,hw,dI ai,aj,cellsOf,aA];by_cases z1:l[j]<=a
  ·right;refine⟨by omega,?_⟩;by_cases z2:l[j]=a
   ·left;refine⟨z2,.mk (a+1) (by rw[hwa];rfl) (by omega) ⟨by omega,by omega,?_⟩⟩;rw[rj,Bs,if_pos z1,if_pos z2]
   ·right;refine⟨z2,.mk a rfl (by omega) ⟨by omega,by omega,?_⟩⟩;rw[rj,Bs,if_pos z1,if_neg z2]
  ·left;refine⟨by omega,cA hR ?_⟩;rw[rj,Bs,if_neg z1];exactλh=>by cases h
 ·rw[List.drop_of_length_le (by omega),Bs]at rj;simp[SE.den,ai,aj,aA];by_cases z1:r.vars=a
  ·right;refine⟨z1,?_⟩;have hR:=cz hR (by rw[rj,z1]);by_cases z2:r.name=[]
   ·left;exact⟨z2,aiz ds r h (cz hR (.inl z2))⟩
   ·right;refine⟨z2,_,h83,?_⟩;cases hb:fT r.name<;>simp[aA]
    ·exact cA hR λm=>by rcases m with m|m;exact z2 m;simp[hb]at m
    exact aiA ds r h (cz hR (.inr hb))
  ·left;refine⟨z1,cA hR ?_⟩;rw[rj];exactλh=>by cases h;exact z1 rfl
structure Nb(ds:List De)(r:Rl):Prop where
 d:Sm ds
 s:Ju r
 n:Jv r
theorem Nb.ok{ds:List De}{r:Rl}(h:Nb ds r)(h1:∀a∈r.keep,dy a=ab)(h2:∀a∈r.remove,dy a=ab)(h3:∀a∈r.guard,dX a=ab)(h4:∀a∈r.body,dX a=ab):jx ds r:=
 ⟨h.d,h.s,h.n,h.n.for (λa ha=>(asn.1 ha).elim (λq=>nS (h1 a q)) λq=>nS (h2 a q)) (λa ha=>(asn.1 ha).elim (λq=>uV (h3 a q)) λq=>uV (h4 a q))⟩
abbrev R22(ds:List De)(r:Rl):Prop:=Bs 0 (dr [r.keep,r.remove]++cX [r.guard,r.body])=aa r.vars/\NM r/\R10 ds r
abbrev R23(ds:List De)(r:Rl):Prop:=(∀a∈r.body,dX a=ab)/\R22 ds r
abbrev R24(ds:List De)(r:Rl):Prop:=(∀a∈r.guard,dX a=ab)/\R23 ds r
abbrev R25(ds:List De)(r:Rl):Prop:=(∀a∈r.remove,dy a=ab)/\R24 ds r
abbrev R26(ds:List De)(r:Rl):Prop:=(∀a∈r.keep,dy a=ab)/\R25 ds r
theorem aiC(ds:List De)(r:Rl)(h:Nb ds r)(h1:∀a∈r.keep,dy a=ab)(h2:∀a∈r.remove,dy a=ab)(h3:∀a∈r.guard,dX a=ab)(hR:R23 ds r↔O):Rm.sat ar1 CC (gP λn=>n=0↔O) [k0,k1,k2] [eo ds,aR r,x2,x3,x4,x5,x6]:=by
 have hl:=h.s.b;refine aw r.body.length (λj (b:Bool)=>[iI j,iB b]) (λj _=>∀x∈r.body.take j,dX x=ab) af ?_ (by simp) λj b hj hI=>?_
 ·simp[SE.den,aj]
 by_cases ai:j<r.body.length
 ·have hw:=aD ai (by omega);have hm:=ar5 ai;have aco:=v138 r.body[j] (h.n.gs _ (asM _ hm));simp[SE.den,ai,hw,kU ai,aj,aA];refine⟨_,aco,?_⟩;cases hq:dX r.body[j]<;>simp[aA]
  ·exact cA hR λm=>by have:=m _ hm;simp[hq]at this
  exact .mk ab rfl (by omega) (aB (p:=λx=>dX x=ab) ai hI hq)
 ·have h4:=aI ai hI;have h:=h.ok h1 h2 h3 h4;have hR:=cz hR h4;obtain⟨g1,g2⟩:=K_ h;obtain⟨g3,g4⟩:=afc h;have hc:=oh (a:=dr [r.keep,r.remove]) (b:=cX [r.guard,r.body]) (by omega);unfold R22 at hR;generalize dr [r.keep,r.remove]=u at g1 g2 hc hR;generalize cX [r.guard,r.body]=v at g3 g4 hc hR;simp[SE.den,ai,aj,cellsOf];refine⟨_,g2,_,g4,?_⟩;simp[hc];exact aiB ds r h (u++v) (by rw[ass];omega) hR
theorem aiD(ds:List De)(r:Rl)(h:Nb ds r)(h1:∀a∈r.keep,dy a=ab)(h2:∀a∈r.remove,dy a=ab)(hR:R24 ds r↔O):Rn.sat ar1 CC (gP λn=>n=0↔O) [k0,k1] [eo ds,aR r,x2,x3,x4,x5]:=by
 have hl:=h.s.g;refine aw r.guard.length (λj (_:Unit)=>[iI j]) (λj _=>∀x∈r.guard.take j,dX x=ab) () ?_ (by simp) λj b hj hI=>?_
 ·simp[SE.den,aj]
 by_cases ai:j<r.guard.length
 ·have hw:=aD ai (by omega);have hm:=ar5 ai;have aco:=v138 r.guard[j] (h.n.gs _ (asN _ hm));simp[SE.den,ai,hw,kU ai,aj,aA];refine⟨_,aco,?_⟩;cases hq:dX r.guard[j]<;>simp[aA]
  ·exact cA hR λm=>by have:=m _ hm;simp[hq]at this
  exact .mk () rfl (by omega) (aB (p:=λx=>dX x=ab) ai hI hq)
 ·have h3:=aI ai hI;simp[SE.den,ai,aj];exact aiC ds r h h1 h2 h3 (cz hR h3)
theorem aiE(ds:List De)(r:Rl)(h:Nb ds r)(h1:∀a∈r.keep,dy a=ab)(hR:R25 ds r↔O):Ro.sat ar1 CC (gP λn=>n=0↔O) [k0] [eo ds,aR r,x2,x3]:=by
 have hl:=h.s.h;refine aw r.remove.length (λj (b:Bool)=>[iI j,iB b]) (λj _=>∀x∈r.remove.take j,dy x=ab) af ?_ (by simp) λj b hj hI=>?_
 ·simp[SE.den,aj]
 by_cases ai:j<r.remove.length
 ·have hw:=aD ai (by omega);have hm:=ar5 ai;have h45:=v45 r.remove[j] (h.n.hs _ (asM _ hm));simp[SE.den,ai,hw,r9 ai,aj,aA];refine⟨_,h45,?_⟩;cases hq:dy r.remove[j]<;>simp[aA]
  ·exact cA hR λm=>by have:=m _ hm;simp[hq]at this
  exact .mk ab rfl (by omega) (aB (p:=λx=>dy x=ab) ai hI hq)
 ·have h2:=aI ai hI;simp[SE.den,ai,aj];exact aiD ds r h h1 h2 (cz hR h2)
theorem aiF(ds:List De)(r:Rl)(h:Nb ds r)(hR:R26 ds r↔O):Rp.sat ar1 CC (gP λn=>n=0↔O) [] [eo ds,aR r,x2]:=by
 have hl:=h.s.h;refine aw r.keep.length (λj (_:Unit)=>[iI j]) (λj _=>∀x∈r.keep.take j,dy x=ab) () ?_ (by simp) λj b hj hI=>?_
 ·simp[SE.den,aj]
 by_cases ai:j<r.keep.length
 ·have hw:=aD ai (by omega);have hm:=ar5 ai;have h45:=v45 r.keep[j] (h.n.hs _ (asN _ hm));simp[SE.den,ai,hw,r9 ai,aj,aA];refine⟨_,h45,?_⟩;cases hq:dy r.keep[j]<;>simp[aA]
  ·exact cA hR λm=>by have:=m _ hm;simp[hq]at this
  exact .mk () rfl (by omega) (aB (p:=λx=>dy x=ab) ai hI hq)
 ·have h1:=aI ai hI;simp[SE.den,ai,aj];exact aiE ds r h h1 (cz hR h1)
theorem afk(ds:List De)(r:Rl):(r.keep++r.remove≠[]/\R26 ds r)↔uc ds r:=by
 have hw:=λh1 h2=>afj (r:=r) (n:=r.vars) (SO h1 h2)
 have hv:VV r↔∀g∈r.guard,∀v∈varsOf g.ts,v∈varsOf (fU (r.keep++r.remove)):=by
  rw[<-aah];exact⟨λh v hv=>(Na r v).1 (h v hv),λh v hv=>(Na r v).2 (h v hv)⟩
 constructor
 ·rintro⟨h0,h1,h2,h3,h4,h5,h6,h7,h8,h9,Gy,Iu,O_,h13⟩;have hA:∀a∈r.keep++r.remove,dy a=ab:=λa ha=>(asn.1 ha).elim (h1 a) (h2 a);have hG:∀a∈r.guard++r.body,dX a=ab:=λa ha=>(asn.1 ha).elim (h3 a) (h4 a)
  exact⟨h0,hA,hG,(hw (λa ha=>nS (hA a ha)) (λa ha=>(uV (hG a ha)).2)).2 h5,h6,
   λa ha=>(asn.1 ha).elim (h7 a) (h8 a),λa ha=>(asn.1 ha).elim (h9 a) (Gy a),Iu,O_,hv.1 h13⟩
 ·rintro⟨h0,hA,hG,h5,h6,hM⟩
  exact⟨h0,λa ha=>hA a (asN _ ha),λa ha=>hA a (asM _ ha),λa ha=>hG a (asN _ ha),λa ha=>hG a (asM _ ha),
   (hw (λa ha=>nS (hA a ha)) (λa ha=>(uV (hG a ha)).2)).1 h5,h6,λa ha=>hM.h a (asN _ ha),λa ha=>hM.h a (asM _ ha),
   λa ha=>hM.c a (asN _ ha),λa ha=>hM.c a (asM _ ha),hM.g,hM.b,hv.2 hM.v⟩
theorem v84(ds:List De)(r:Rl)(h:Nb ds r):∃n,(n=0↔uc ds r)/\CC 106 af [eo ds,gO r] (iI n):=by
 have h3:=h.s.h;have hg:=h.s.g;have hb:=h.s.b;have hw:asC.wrap ((r.keep.length:Int)+r.remove.length)=r.keep.length+r.remove.length:=dQ (by omega) (by omega);refine CC.KV _ ap6 n84 t84 (by intro x hx;rcases asS.1 hx with rfl|hx;exact HL _;obtain rfl:=asU.1 hx;exact fx r) (by rfl) ?_;have hR:=afk ds r;generalize uc ds r=O at hR;rw[jc];simp[adJ,SE.den,aj,hw];refine⟨_,adK ab (.az []),?_⟩;by_cases hp:0<r.keep.length+r.remove.length
 ·have aZ:r.keep++r.remove≠[]:=λe=>by have:=congrArg List.length e;simp at this;simp[this]at hp
  left;refine⟨by omega,?_⟩;left;refine⟨by omega,?_⟩;left;refine⟨by omega,?_⟩;right;refine⟨by omega,?_⟩;exact aiF ds r h (cz hR aZ)
 ·right;refine⟨by omega,?_⟩;have:r.keep++r.remove=[]:=List.eq_nil_of_length_eq_zero (by rw[ass];omega);exact⟨rfl,λo=>(hR.2 o).1 this⟩
end
end Go.Proofs.YtpfogalbnijcoaaGreat
