/- A part of the proof, no condition: the checks of the reference come to an end, rules and programs. -/
import Derived.Test.YtggffkaadeagbaaGreatRgA
import Derived.Test.YtggffkaadeagbaaGreatEvJ
import Derived.Test.YtggffkaadeagbaaGreatRgF
open Go.Proofs.Tryz renaming prog->ar3
open List renaming length_append->asu,getElem_mem->asb,mem_append->asE,mem_cons->asZ,mem_singleton->atM
set_option linter.all false
namespace Go.Proofs.YtggffkaadeagbaaGreat
open Go Go.Ev
theorem aeh(x:Tm):∃cs,bV x=.agg cs∧cs.length=4∧cs.all ab=true:=⟨_,bo x,rfl,rfl⟩
theorem VJ{a b:List Tm}(h:a.length+b.length≤1000):gl 4 56 (iT a) (iT b)=some (iT (a++b)):=by
 have h2:=wZ (s:=4) (enc:=bV) aeh b;simp[gl,h2];omega
theorem G8{l:List Rl}{i:Nat}(h:i<l.length):cq 6 (yn l) (iI (i:Nat))=some (.agg [iS l[i].name,cS l[i].keep,cS l[i].remove,qT l[i].guard,qT l[i].body,iI l[i].vars]):=dv (by simp[h,oB]) rfl
theorem dB{l:List Int}{i:Nat}(h:i<l.length):cq 1 (iL l) (iI (i:Nat))=some (iI l[i]):=Yn (by simp[h])
structure Lz(r:Rl):Prop where
 h:r.keep.length+r.remove.length≤3
 g:r.guard.length≤6
 b:r.body.length≤6
 hs:∀a∈r.keep++r.remove,a.ts.length≤8
 gs:∀a∈r.guard++r.body,a.ts.length≤8
structure PZ(r:Rl):Prop where
 n:Sm r.name
 hs:∀a∈r.keep++r.remove,pC a
 gs:∀a∈r.guard++r.body,tG a
def WF(t:Tm):Prop:=py t∧bx t
structure AZ(r:Rl):Prop where
 hs:∀a∈r.keep++r.remove,∀t∈a.ts,WF t
 gs:∀a∈r.guard++r.body,(a.op≠0→pD a.op=a.ts.length)∧∀t∈a.ts,WF t
theorem acM(ts:List Tm)(tF:Sm ts)(hw:∀t∈ts,py t∧bx t):∃l',Vr l'∧CC 108 true [iT ts] (iL l'):=
 CC.Ef Vr ahi n108 t108 (by simp) (by rfl) (ahg ts tF hw fun l hl=>by rw[AY];exact hl)
theorem n203:(ar3.funcs[203]?).map (·.params.size)=some 1:=by kernel_rfl
theorem t203(z:IV):aD ar3 203 z=true:=by kernel_rfl
theorem apS(r:Rl)(h:Lz r)(hf:AZ r):∃l',Vr l'∧CC 203 false [oB r] (iL l'):=by
 refine CC.Ef Vr alz n203 t203 (by simpa using je r) (by rfl) ?_;have rL:=VI r (by have:=h.h;omega);have hl:=h.h;have h1:=h.hs;have h2:=hf.hs;rw[←asu]at hl;rw[iG]at rL⊢;generalize r.keep++r.remove=hs at rL hl h1 h2;simp[YT,SE.den,ab];refine⟨_,rL,?_⟩;simp;unfold PJ;refine ao hs.length (fun i (a:List Tm)=>[iI i,iT a]) (fun i a=>a.length≤8*i∧∀t∈a,WF t) [] ?_ ?_ fun i a hi hI=>?_
 ·simp[SE.den]
 ·simp
 obtain⟨vH,nS⟩:=hI;by_cases aa:i<hs.length
 ·have hw:=aw aa (by omega);have hm:=asb aa;have hk:=h1 _ hm;have hc:=VJ (a:=a) (b:=hs[i].ts) (by omega);simp[SE.den,aa,hw,kZ aa,ab,hc]
  exact .mk (a++hs[i].ts) (by simp) (by omega) ⟨by simp;omega,fun t ht=>by
   rcases asE.1 ht with ht|ht
   ·exact nS t ht
   ·exact h2 _ hm t ht⟩
 ·obtain⟨l',k1,hb⟩:=acM a (by unfold Sm;omega) nS;simp[SE.den,aa,ab];exact⟨_,hb,by simpa using k1⟩
theorem n153:(ar3.funcs[153]?).map (·.params.size)=some 1:=by kernel_rfl
theorem t153(z:IV):aD ar3 153 z=true:=by kernel_rfl
theorem apT(r:Rl)(h:Lz r)(hf:AZ r):∃l',Vr l'∧CC 153 false [oB r] (iL l'):=by
 refine CC.Ef Vr als n153 t153 (by simpa using je r) (by rfl) ?_;have rL:=VI r (by have:=h.h;omega);have yo:=abm r (by have:=h.g;have:=h.b;omega);have hl:=h.h;have IQ:r.guard.length+r.body.length≤12:=by have:=h.g;have:=h.b;omega
 have h1:=h.hs;have h2:=hf.hs;have g1:=h.gs;have g2:=hf.gs;rw[←asu]at hl IQ;rw[iG]at rL yo⊢;generalize r.keep++r.remove=hs at rL hl h1 h2;generalize r.guard++r.body=gs at yo IQ g1 g2;simp[YN,SE.den,ab];refine⟨_,rL,?_⟩;simp;unfold PA;refine ao hs.length (fun i (a:List Tm)=>[iI i,iT a]) (fun i a=>a.length≤8*i∧∀t∈a,WF t) [] ?_ ?_ fun i a hi hI=>?_
 ·simp[SE.den]
 ·simp
 obtain⟨vH,nS⟩:=hI;by_cases aa:i<hs.length
 ·have hw:=aw aa (by omega);have hm:=asb aa;have hk:=h1 _ hm;have hc:=VJ (a:=a) (b:=hs[i].ts) (by omega);simp[SE.den,aa,hw,kZ aa,ab,hc]
  exact .mk (a++hs[i].ts) (by simp) (by omega) ⟨by simp;omega,fun t ht=>by
   rcases asE.1 ht with ht|ht
   ·exact nS t ht
   ·exact h2 _ hm t ht⟩
 ·simp[SE.den,aa,ab];refine⟨_,yo,?_⟩;simp;unfold Pz;refine ao gs.length (fun i (a:List Tm)=>[iI i,iT a]) (fun i a=>a.length≤24+8*i∧∀t∈a,WF t) a ?_ ⟨by omega,nS⟩ fun j a hj hJ=>?_
  ·simp[SE.den]
  obtain⟨bk,dP⟩:=hJ;by_cases aa:j<gs.length
  ·have hw:=aw aa (by omega);have hm:=asb aa;have hk:=g1 _ hm;have hc:=VJ (a:=a) (b:=gs[j].ts) (by omega);simp[SE.den,aa,hw,lW aa,ab,hc]
   exact .mk (a++gs[j].ts) (by simp) (by omega) ⟨by simp;omega,fun t ht=>by
    rcases asE.1 ht with ht|ht
    ·exact dP t ht
    ·exact(g2 _ hm).2 t ht⟩
  ·obtain⟨l',k1,hb⟩:=acM a (by unfold Sm;omega) dP;simp[SE.den,aa,ab];exact⟨_,hb,by simpa using k1⟩
theorem n154:(ar3.funcs[154]?).map (·.params.size)=some 2:=by kernel_rfl
theorem t154(z:IV):aD ar3 154 z=true:=by kernel_rfl
theorem rM(a b:Int):da ar3 .neq 31 (iI a) (iI b)=some (iB (a !=b)):=rfl
theorem apU(ds:List De)(hd:Sm ds)(r:Rl)(h:Lz r)(hf:AZ r):∃n,CC 154 false [ek ds,oB r] (iI n):=by
 refine CC.int alv n154 t154 (by intro x hx;rcases asZ.1 hx with rfl|hx;exact G6 _;obtain rfl:=atM.1 hx;exact je r) (by rfl) ?_;obtain⟨apV,apW,ahj⟩:=apS r h hf;have aq_:=apW.len;have rL:=VI r (by have:=h.h;omega);have yo:=abm r (by have:=h.g;have:=h.b;omega);have hl:=h.h;have IQ:r.guard.length+r.body.length≤12:=by have:=h.g;have:=h.b;omega
 have hg:=h.g;have hb:=h.b;have g2:=hf.gs;have g1:=h.gs;rw[←asu]at hl IQ;rw[iG]at rL yo ahj⊢;generalize r.keep++r.remove=hs at rL hl;obtain⟨apX,ahk⟩:=apQ ds (r.guard++r.body) hd (by unfold Sm;omega);generalize hgs:r.guard++r.body=gs at yo IQ ahk;obtain⟨rn,rk,rr,rg,rb,rv⟩:=r;simp only at*
 simp[YP,SE.den,ab];refine⟨_,rL,?_⟩;simp;unfold PG;refine ao hs.length (fun i (_:Unit)=>[iI i]) (fun _ _=>True) () ?_ trivial fun i _ hi _=>?_
 ·simp[SE.den]
 by_cases aa:i<hs.length
 ·have hw:=aw aa (by omega);obtain⟨b,hb⟩:=ahc ds hs[i].s hs[i].ts.length hd;simp[SE.den,aa,hw,kZ aa,ab,rM];refine⟨_,hb,?_⟩;simp[rM];by_cases h0:b=0
  ·right;exact⟨h0,.mk () rfl (by omega) trivial⟩
  ·left;exact h0
 simp[SE.den,aa,ab,rM];refine⟨_,yo,?_⟩;simp;refine⟨_,ahk,?_⟩;simp[rM];by_cases h0:apX=0
 rotate_left
 ·left;exact h0
 right;refine⟨h0,?_⟩;unfold PF;refine ao rg.length (fun i (_:Unit)=>[iI i]) (fun _ _=>True) () ?_ trivial fun i3 _ hi3 _=>?_
 ·simp[SE.den]
 by_cases Np:i3<rg.length
 ·have hw:=aw Np (by omega);obtain⟨b,hb⟩:=ahd rg[i3].op;simp[SE.den,Np,hw,lW Np,ab];refine⟨_,hb,?_⟩;cases b<;>simp
  ·by_cases h0:rg[i3].op=1
   ·right;exact⟨h0,.mk () rfl (by omega) trivial⟩
   ·left;exact h0
  ·exact .mk () rfl (by omega) trivial
 simp[SE.den,Np,ab];unfold PE;refine ao rb.length (fun i (_:Unit)=>[iI i]) (fun _ _=>True) () ?_ trivial fun i2 _ WI _=>?_
 ·simp[SE.den]
 by_cases dT:i2<rb.length
 ·have hw:=aw dT (by omega);obtain⟨b,hb⟩:=ahd rb[i2].op;simp[SE.den,dT,hw,lW dT,ab];refine⟨_,hb,?_⟩;cases b<;>simp;exact .mk () rfl (by omega) trivial
 simp[SE.den,dT,ab];refine⟨_,ahj,?_⟩;simp;unfold PD;refine ao rg.length (fun i (_:Unit)=>[iI i]) (fun _ _=>True) () ?_ trivial fun i1 _ Nz _=>?_
 ·simp[SE.den]
 by_cases eS:i1<rg.length
 ·have AQ:=aw eS (by omega);have hm:rg[i1]∈rg++rb:=List.mem_append_left _ (asb eS);obtain⟨l,kl,hb⟩:=e93 rg[i1] (by have:=g1 _ hm;unfold Sm;omega) (g2 _ hm).2;have LA:=kl.len;simp[SE.den,eS,lW eS,ab];refine⟨_,hb,?_⟩;simp;unfold PC;refine ao l.length (fun i (_:Unit)=>[iI i]) (fun _ _=>True) () ?_ trivial fun j _ hj _=>?_
  ·simp[SE.den]
  by_cases aa:j<l.length
  ·have hw:=aw aa (by omega);obtain⟨b,hb⟩:=apR apV l[j] (by unfold Sm;omega);simp[SE.den,aa,hw,dB aa,ab];refine⟨_,hb,?_⟩;cases b<;>simp;exact .mk () rfl (by omega) trivial
  ·simp[SE.den,aa,AQ];exact .mk () rfl (by omega) trivial
 ·simp[SE.den,eS]
end Go.Proofs.YtggffkaadeagbaaGreat
namespace Go.Proofs.YtggffkaadeagbaaGreat
open Go Go.Ev
def ahl(p:Int→Prop)(z:IV):Prop:=∃b:Int,z=iI b∧p b
@[simp] theorem aq2(p:Int→Prop)(b:Int):ahl p (iI b)↔p b:=⟨fun⟨b',h1,h2⟩=>by cases h1;exact h2,fun h=>⟨b,rfl,h⟩⟩
theorem CC.VK{n:Nat}{new:Bool}{f:FuncId}{cR:af}{args:List IV}{cfg:aL}(p:Int→Prop)(he:aA ar3 cfg n new f=cR)(hl:(ar3.funcs[f]?).map (·.params.size)=some args.length)(ht:∀z,aD ar3 f z=true)(hp:∀x∈args,Pure x)(hn:noTwo cR=true)
 (hs:cR.sat ar3 CC (ahl p) [] args):∃b,p b∧CC f new args (iI b):=by
 obtain⟨z,⟨b,rfl,hb⟩,h2⟩:=CC.PS he hl (fun z _=>ht z) hp (by rintro _ ⟨b,rfl,_⟩;exact .raw _) hn hs;exact⟨b,hb,h2⟩
def ahm(p:Int→Prop)(z:IV):Prop:=∃a b:Int,z=.av [iI a,iI b]∧p b
@[simp] theorem aq3(p:Int→Prop)(a b:Int):ahm p (.av [iI a,iI b])↔p b:=⟨fun⟨a',b',h1,h2⟩=>by cases h1;exact h2,fun h=>⟨a,b,rfl,h⟩⟩
theorem CC.ahn{n:Nat}{new:Bool}{f:FuncId}{cR:af}{args:List IV}{cfg:aL}(p:Int→Prop)(he:aA ar3 cfg n new f=cR)(hl:(ar3.funcs[f]?).map (·.params.size)=some args.length)(ht:∀a b,aD ar3 f (.av [iI a,iI b])=true)(hp:∀x∈args,Pure x)(hn:noTwo cR=true)
 (hs:cR.sat ar3 CC (ahm p) [] args):∃a b,p b∧CC f new args (.av [iI a,iI b]):=by
 obtain⟨z,⟨a,b,rfl,hb⟩,h2⟩:=CC.PS he hl (by rintro _ ⟨a,b,rfl,_⟩;exact ht a b) hp (by rintro _ ⟨a,b,rfl,_⟩;exact .av _ (by simp)) hn hs;exact⟨a,b,hb,h2⟩
theorem n90:(ar3.funcs[90]?).map (·.params.size)=some 2:=by kernel_rfl
theorem t90(z:IV):aD ar3 90 z=true:=by kernel_rfl
theorem PZ.for{r:Rl}(hn:PZ r)(h1:∀a∈r.keep++r.remove,∀t∈a.ts,bx t)(h2:∀a∈r.guard++r.body,(a.op≠0→pD a.op=a.ts.length)∧∀t∈a.ts,bx t):AZ r:=
 ⟨fun a ha t ht=>⟨((hn.hs a ha).2.2 t ht).wf,h1 a ha t ht⟩,fun a ha=>⟨(h2 a ha).1,fun t ht=>⟨((hn.gs a ha).2.2 t ht).wf,(h2 a ha).2 t ht⟩⟩⟩
theorem e90(ds:List De)(hd:Sm ds)(r:Rl)(h:Lz r)(hn:PZ r):∃n,(n=0→AZ r)∧CC 90 false [ek ds,oB r] (iI n):=by
 refine CC.VK _ apw n90 t90 (by intro x hx;rcases asZ.1 hx with rfl|hx;exact G6 _;obtain rfl:=atM.1 hx;exact je r) (by rfl) ?_;have rL:=VI r (by have:=h.h;omega);have yo:=abm r (by have:=h.g;have:=h.b;omega);have hl:=h.h;have IQ:r.guard.length+r.body.length≤12:=by have:=h.g;have:=h.b;omega
 have hg:=h.g;have hb:=h.b;have n1:=hn.hs;have n2:=hn.gs;have abn:=hn.for;rw[←asu]at hl IQ;have VL:=apT r h;have P0:=apU ds hd r h;obtain⟨b89,h89⟩:=e89 r.name hn.n;rw[iG]at rL yo VL P0⊢;generalize hhs:r.keep++r.remove=hs at rL hl n1 abn;generalize hgs:r.guard++r.body=gs at yo IQ n2 abn;obtain⟨rn,rk,rr,rg,rb,rv⟩:=r;simp only at*
 simp[acB,SE.den,ab];refine⟨_,rL,?_⟩;simp;refine⟨_,yo,?_⟩;simp;by_cases z0:hs=[]
 ·left;exact z0
 right;refine⟨z0,?_⟩;right;refine⟨by omega,?_⟩;right;refine⟨by omega,?_⟩;right;refine⟨by omega,?_⟩;unfold SP;refine ao hs.length (fun i (_:Unit)=>[iI i]) (fun i _=>∀a∈hs.take i,∀t∈a.ts,bx t) () ?_ (by simp) fun i _ hi hI=>?_
 ·simp[SE.den]
 by_cases aa:i<hs.length
 ·have hw:=aw aa (by omega);obtain⟨b,hf,hb⟩:=e49 hs[i] (n1 _ (asb aa));simp[SE.den,aa,hw,kZ aa,ab];refine⟨_,hb,?_⟩;cases b<;>simp;exact .mk () rfl (by omega) (eR aa hI (hf rfl).2)
 have hA:=gV aa hI;simp[SE.den,aa,ab];unfold SO;refine ao gs.length (fun i (_:Unit)=>[iI i]) (fun i _=>∀a∈gs.take i,(a.op≠0→pD a.op=a.ts.length)∧∀t∈a.ts,bx t) () ?_ (by simp) fun i1 _ Nz vH=>?_
 ·simp[SE.den]
 by_cases eS:i1<gs.length
 ·have hw:=aw eS (by omega);obtain⟨b,hf,hb⟩:=apP gs[i1] (n2 _ (asb eS));simp[SE.den,eS,hw,lW eS,ab];refine⟨_,hb,?_⟩;cases b<;>simp;exact .mk () rfl (by omega) (eR eS vH (hf rfl))
 have hF:AZ ⟨rn,rk,rr,rg,rb,rv⟩:=abn hA (gV eS vH);obtain⟨v,kv,VL⟩:=VL hF;obtain⟨n154,P0⟩:=P0 hF;have Wh:=kv.len;simp[SE.den,eS,ab];refine⟨_,VL,?_⟩;simp;unfold SN;refine ao v.length (fun i (_:Unit)=>[iI i]) (fun i _=>True) () ?_ trivial fun i0 _ tS _=>?_
 ·simp[SE.den]
 by_cases kS:i0<v.length
 ·have hw:=aw kS (by omega);simp[SE.den,kS,hw,dB kS,ab];by_cases he:v[i0]=i0
  ·right;exact⟨he,.mk () rfl (by omega) trivial⟩
  ·left;exact he
 simp[SE.den,kS,ab];by_cases hv:rv=v.length
 rotate_left
 ·left;exact hv
 right;refine⟨hv,?_⟩;by_cases mN:rn=[]
 ·right;refine⟨mN,_,P0,?_⟩;simp;exact fun _=>hF
 ·left;refine⟨mN,_,h89,?_⟩;cases b89<;>simp;refine⟨_,P0,?_⟩;simp;exact fun _=>hF
end Go.Proofs.YtggffkaadeagbaaGreat
namespace Go.Proofs.YtggffkaadeagbaaGreat
open Go Go.Ev
def Y5:List Nat:=[123,127,126,186,189,44,79,30,102,9,10,23,31,15,257,149,89,148,198,147,199,50,191,71,214,93,163,49,152,64,164,158,95,108,206,250,213,130,131,107,129,155,34,90,51,202,153,201,200,151,203,150,204,154,91,41,67,101,99,109,157,210,12,26,28,25,14,19,100,40,39,70,69,35,53,52,68,42,58,75,24,27,22,29,61,190,66,133,128,249,121,78,183]
def Y6:List Nat:=[48,60,63,65,92,94,118,124,132,174,197,205,216,252,263,334]
def Y7:List Nat:=[185,188,254]
def Y8:List Nat:=[155]
def P1:af:=
 (fz bI 2 bI 1 aY 2 (eI 3 (pd 1 bK 2 (wD dO .neq dz dO Bz 0 2))) EX)
def Y9:af:=
 (EY (fx eg .neq bI eg Bz P1))
def aho:aL:=⟨Y5,Y6,Y7,[⟨0,53,4,[(0,(5,0))],[],[],[]⟩],Y8⟩
theorem alO:aA ar3 aho 400 true 53=Y9:=by kernel_rfl
def P2:af:=
 (fz bI 3 bI 2 aY 3 (vf 2 4 .eql 9 4 bK (wS 2 3 (rl (kV 2 5) (gQ 5) bU EX 0 3)) 0 3) Bz)
def Y_:af:=
 (kB (eI 2 P2))
def ahp:aL:=⟨Y5,Y6,Y7,[⟨0,51,2,[(0,(7,0))],[],[],[]⟩],Y8⟩
theorem alP:aA ar3 ahp 400 true 51=Y_:=by kernel_rfl
end Go.Proofs.YtggffkaadeagbaaGreat
namespace Go.Proofs.YtggffkaadeagbaaGreat
open Go Go.Ev
structure F4(p:Pg):Prop where
 d:p.decls.length≤12
 r:p.rules.length≤8
 dn:∀d∈p.decls,Sm d.s
 rs:∀r∈p.rules,Lz r
 rn:∀r∈p.rules,PZ r
theorem apY(l:List De)(s:List UInt8)(n:Int)(hl:Sm l):∃b,CC 51 true [ek l,iS s,iI n] (iB b):=by
 refine CC.bool alP n51 t51 (by simp) (by rfl) ?_;simp[Y_,P2,SE.den,ab];refine dh l.length (fun i (_:Unit)=>[iI i]) (fun _ _=>True) () ?_ ?_ fun i _ hi _=>?_
 ·simp[SE.den]
 ·trivial
 by_cases aa:i<l.length
 ·have hw:=aw aa hl;simp[SE.den,aa,hw,tH aa,ab,au];by_cases h1:l[i].s=s
  ·simp[h1];omega
  ·simp[h1];omega
 ·simp[SE.den,aa,au]
theorem alQ{L:List De}{l:Nat}(h1:l≤L.length):jF 2 (ek L) (iI 0) (iI (l:Nat))=some (ek (L.take l)):=by
 simp[jF,fa,h1,List.map_take]
theorem n34:(ar3.funcs[34]?).map (·.params.size)=some 1:=by kernel_rfl
theorem t34(a b:Int):aD ar3 34 (.av [iI a,iI b])=true:=by kernel_rfl
theorem e34(p:Pg)(h:F4 p):∃a n,(n=0→∀r∈p.rules,AZ r)∧CC 34 false [dj p] (.av [iI a,iI n]):=by
 refine CC.ahn _ apt n34 t34 (by simpa using fA p) (by rfl) ?_;obtain⟨ds,rs⟩:=p;obtain⟨hd,hr,dn,S4,Di⟩:=h;simp only at*
 show VF.sat _ _ _ _ [.agg [ek ds,yn rs]];simp[VF,SE.den,ab];right;refine⟨by omega,?_⟩;unfold SL;refine ao ds.length (fun i (_:Unit)=>[iI i]) (fun _ _=>True) () ?_ trivial fun i _ hi _=>?_
 ·simp[SE.den]
 by_cases aa:i<ds.length
 ·have hw:=aw aa (by omega);obtain⟨b1,h1⟩:=e89 ds[i].s (dn _ (asb aa));obtain⟨b2,h2⟩:=apY (ds.take i) ds[i].s ds[i].n (by unfold Sm;simp;omega);have e_:=alQ (L:=ds) (l:=i) (by omega);simp[SE.den,aa,hw,tH aa,ab];refine⟨_,h1,?_⟩;cases b1<;>simp;by_cases z1:ds[i].n<0
  ·left;exact z1
  right;refine⟨by omega,?_⟩;by_cases z2:6<ds[i].n
  ·left;exact z2
  right;refine⟨by omega,?_⟩;refine⟨_,e_,_,h2,?_⟩;simp;cases b2<;>simp;exact .mk () rfl (by omega) trivial
 simp[SE.den,aa,ab];right;refine⟨by omega,?_⟩;unfold SK;refine ao rs.length (fun i (_:Unit)=>[iI i]) (fun i _=>∀r∈rs.take i,AZ r) () ?_ (by simp) fun i0 _ tS hI=>?_
 ·simp[SE.den]
 by_cases kS:i0<rs.length
 ·have hw:=aw kS (by omega);obtain⟨n,hF,hb⟩:=e90 ds (by unfold Sm;omega) rs[i0] (S4 _ (asb kS)) (Di _ (asb kS));rw[iG]at hb;simp[SE.den,kS,hw,G8 kS,ab];refine⟨_,hb,?_⟩;simp[rM];by_cases z:n=0
  ·right;exact⟨z,.mk () rfl (by omega) (eR kS hI (hF z))⟩
  ·left;exact⟨z,fun h=>absurd h z⟩
 ·simp[SE.den,kS];exact gV kS hI
end Go.Proofs.YtggffkaadeagbaaGreat
namespace Go.Proofs.YtggffkaadeagbaaGreat
open Go Go.Ev
theorem nV{a b:List Int}(h:a.length+b.length≤1000000000):gl 1 8 (iL a) (iL b)=some (iL (a++b)):=by
 have h2:iz 1 (b.map iI)=true:=by
  unfold iz;rw[List.all_eq_true];intro e he;obtain⟨x,_,rfl⟩:=List.mem_map.1 he;rfl
 simp[gl,h2];omega
theorem n95:(ar3.funcs[95]?).map (·.params.size)=some 1:=by kernel_rfl
theorem t95(z:IV):aD ar3 95 z=true:=by kernel_rfl
theorem e95(t:Tm)(h:WF t):∃l',Vr l'∧CC 95 false [bV t] (iL l'):=by
 refine CC.Ef Vr apB n95 t95 (by simpa using jc t) (by rfl) ?_;obtain⟨l',k1,hb⟩:=abl t h.1 h.2 [] Vr.nil;rw[bo]at hb⊢;simp[acG,SE.den,ab,au,cellsOf];exact⟨_,hb,by simpa using k1⟩
theorem n35:(ar3.funcs[35]?).map (·.params.size)=some 1:=by kernel_rfl
theorem t35(z:IV):aD ar3 35 z=true:=by kernel_rfl
section rule
variable{Q:IV→Prop}{k0 k1 k2 k3 k4 k5:List IV→Prop}
theorem alR{x0 x1 x2 x3 x4 x6 x7 x8:IV}{kn:List Int}{n:Int}(hk:kn.length≤1000000000)(h:∀b,k4 [iB b]):
 S2.sat ar3 CC Q [k0,k1,k2,k3,k4] [x0,x1,x2,x3,x4,iL kn,x6,x7,x8,iI n]:=by
 refine ao kn.length (fun i (_:Unit)=>[iI i]) (fun _ _=>True) () ?_ trivial fun i _ hi _=>?_
 ·simp[SE.den]
 by_cases aa:i<kn.length
 ·have hw:=aw aa (by omega);simp[SE.den,aa,hw,dB aa,cellsOf];by_cases he:kn[i]=n
  ·left;exact⟨he,h _⟩
  ·right;exact⟨he,.mk () rfl (by omega) trivial⟩
 ·simp[SE.den,aa];exact h _
theorem ahq{x0 x1 x2 x3 x4 x6 x7 x8 x9 eZ jY ju:IV}{kn:List Int}{n:Int}(hk:kn.length≤1000000000)(h:∀b,k4 [iB b]):
 PN.sat ar3 CC Q [k0,k1,k2,k3,k4] [x0,x1,x2,x3,x4,iL kn,x6,x7,x8,x9,eZ,jY,ju,iI n]:=by
 refine ao kn.length (fun i (_:Unit)=>[iI i]) (fun _ _=>True) () ?_ trivial fun i _ hi _=>?_
 ·simp[SE.den]
 by_cases aa:i<kn.length
 ·have hw:=aw aa (by omega);simp[SE.den,aa,hw,dB aa,cellsOf];by_cases he:kn[i]=n
  ·left;exact⟨he,h _⟩
  ·right;exact⟨he,.mk () rfl (by omega) trivial⟩
 ·simp[SE.den,aa];exact h _
theorem ahr{x0 x1 x2 x3 x4 x6 x7 a c d:IV}{kn:List Int}{n:Int}(hk:kn.length≤1000000000)(h:∀b,k2 [iB b]):
 PM.sat ar3 CC Q [k0,k1,k2] [x0,x1,x2,x3,x4,iL kn,x6,x7,.agg [a,iI n,c,d]]:=by
 refine ao kn.length (fun i (_:Unit)=>[iI i]) (fun _ _=>True) () ?_ trivial fun i _ hi _=>?_
 ·simp[SE.den]
 by_cases aa:i<kn.length
 ·have hw:=aw aa (by omega);simp[SE.den,aa,hw,dB aa,cellsOf];by_cases he:kn[i]=n
  ·left;exact⟨he,h _⟩
  ·right;exact⟨he,.mk () rfl (by omega) trivial⟩
 ·simp[SE.den,aa];exact h _
theorem alS{x0 x1 x2 x3 x4 x6:IV}{kn l:List Int}(hk:kn.length≤1000000000)(hl:l.length≤1000000000)(h:∀b,k2 [iB b]):
 S3.sat ar3 CC Q [k0,k1,k2] [x0,x1,x2,x3,x4,iL kn,x6,iL l]:=by
 refine ao l.length (fun i (_:Unit)=>[iI i]) (fun _ _=>True) () ?_ trivial fun i _ hi _=>?_
 ·simp[SE.den]
 by_cases aa:i<l.length
 ·have hw:=aw aa (by omega);simp[SE.den,aa,hw,dB aa];refine fJ (fun vs=>∃b,vs=[iB b]) (alR hk fun b=>⟨b,rfl⟩) ?_;rintro vs ⟨b,rfl⟩;refine⟨rfl,?_⟩;cases b<;>simp[SE.den,hw]
  ·exact h _
  ·exact .mk () rfl (by omega) trivial
 ·simp[SE.den,aa];exact h _
theorem ahs{x0 x1 x2 x3 x4 x6 x7 x8 x9 eZ:IV}{kn l:List Int}(hk:kn.length≤1000000000)(hl:l.length≤1000000000)(h:∀b,k2 [iB b]):
 PO.sat ar3 CC Q [k0,k1,k2] [x0,x1,x2,x3,x4,iL kn,x6,x7,x8,x9,eZ,iL l]:=by
 refine ao l.length (fun i (_:Unit)=>[iI i]) (fun _ _=>True) () ?_ trivial fun i _ hi _=>?_
 ·simp[SE.den]
 by_cases aa:i<l.length
 ·have hw:=aw aa (by omega);simp[SE.den,aa,hw,dB aa];refine fJ (fun vs=>∃b,vs=[iB b]) (ahq hk fun b=>⟨b,rfl⟩) ?_;rintro vs ⟨b,rfl⟩;refine⟨rfl,?_⟩;cases b<;>simp[SE.den,hw]
  ·exact h _
  ·exact .mk () rfl (by omega) trivial
 ·simp[SE.den,aa];exact h _
end rule
theorem e35(r:Rl)(h:Lz r)(hF:AZ r):∃b,CC 35 false [oB r] (iB b):=by
 refine CC.bool apH n35 t35 (by simpa using je r) (by rfl) ?_;have h91:=c91 r (by have:=h.h;omega);have hl:=h.h;have hb:=h.b;have h1:=h.hs;have h2:=hF.hs;have g1:=h.gs;have g2:=hF.gs;rw[←asu]at hl;rw[iG]at h91⊢;generalize r.keep++r.remove=hs at h91 hl h1 h2;obtain⟨rn,rk,rr,rg,rb,rv⟩:=r;simp only at*
 simp[acK,SE.den,ab];refine⟨_,h91,?_⟩;simp;unfold PR;refine ao hs.length (fun i (a:List Int)=>[iI i,iL a]) (fun i a=>a.length≤1048577*i) [] ?_ (by simp) fun i a hi hI=>?_
 ·simp[SE.den]
 by_cases aa:i<hs.length
 ·have hw:=aw aa (by omega);have hm:=asb aa;obtain⟨l,kl,hb⟩:=e50 hs[i] (by have:=h1 _ hm;unfold Sm;omega) (h2 _ hm);have LA:=kl.len;have hc:=nV (a:=a) (b:=l) (by omega);have hr:=Y4 l;simp[SE.den,aa,hw,kZ aa,ab];refine⟨_,hb,?_⟩;simp[SE.den,hc,hr,hw];refine⟨?_,.mk (a++l) (by simp) (by omega) (by simp;omega)⟩;simp[cellsOf,au]
 simp[SE.den,aa,ab];unfold PQ;refine ao rb.length (fun i (a:List Int)=>[iI i,iL a]) (fun i a=>a.length≤4000000+i) a ?_ (by omega) fun i a hi hI=>?_
 ·simp[SE.den]
 by_cases eS:i<rb.length
 ·have hw:=aw eS (by omega);have hm:rb[i]∈rg++rb:=List.mem_append_right _ (asb eS);have zB:=g1 _ hm;obtain⟨har,iZ⟩:=g2 _ hm;obtain⟨l,kl,hb⟩:=e93 rb[i] (by unfold Sm;omega) iZ;have LA:=kl.len;simp[SE.den,eS,lW eS,ab];by_cases o3:rb[i].op=3
  ·left;exact o3
  right;refine⟨o3,?_⟩;by_cases o0:rb[i].op=0
  ·left;refine⟨o0,_,hb,?_⟩;simp;refine fJ (fun vs=>∃b,vs=[iB b]) (alS (by omega) (by omega) fun b=>⟨b,rfl⟩) ?_;rintro vs ⟨b,rfl⟩;refine⟨rfl,?_⟩;cases b<;>simp[SE.den,o0,hw];exact .mk a (by simp) (by omega) (by omega)
  right;refine⟨o0,?_⟩;by_cases o4:rb[i].op=4
  rotate_left
  ·right;refine⟨o4,?_⟩;simp[hw];exact .mk a (by simp) (by omega) (by omega)
  left;refine⟨o4,?_⟩
  have hlen:rb[i].ts.length=2:=by
   have:=har o0;rw[o4]at this;simp[pD]at this;omega
  obtain⟨t0,t1,tF⟩:∃t0 t1,rb[i].ts=[t0,t1]:=by
   match hq:rb[i].ts,hlen with
   |[a,b],_=>exact⟨a,b,rfl⟩
  have w1:WF t1:=iZ _ (by rw[tF];simp);obtain⟨l1,kl1,h95⟩:=e95 t1 w1;have tR:=kl1.len;rw[bo]at h95;have i0:cq 4 (iT rb[i].ts) (iI 0)=some (bV t0):=by rw[tF];exact rI (l:=[t0,t1]) (i:=0) (by simp)
  have i1:cq 4 (iT rb[i].ts) (iI 1)=some (bV t1):=by rw[tF];exact rI (l:=[t0,t1]) (i:=1) (by simp)
  rw[bo]at i0 i1;simp only[iT]at i0 i1;simp[SE.den,i0,ab];by_cases kk:t0.k=1
  rotate_left
  ·left;exact kk
  right;refine⟨kk,?_⟩;refine fJ (fun vs=>∃b,vs=[iB b]) (ahr (by omega) fun b=>⟨b,rfl⟩) ?_;rintro vs ⟨b,rfl⟩;refine⟨rfl,?_⟩;cases b<;>simp[SE.den,i1,ab];refine⟨_,h95,?_⟩;simp;refine fJ (fun vs=>∃b,vs=[iB b]) (ahs (by omega) (by omega) fun b=>⟨b,rfl⟩) ?_;rintro vs ⟨b,rfl⟩;refine⟨rfl,?_⟩;have hc:=nV (a:=a) (b:=[t0.n]) (by simp;omega);simp only[iL,List.map_cons,List.map_nil]at hc;cases b<;>simp[SE.den,i0,ab,au,cellsOf,hc,hw];exact .mk (a++[t0.n]) (by simp) (by omega) (by simp;omega)
 ·simp[SE.den,eS]
theorem n12:(ar3.funcs[12]?).map (·.params.size)=some 1:=by kernel_rfl
theorem t12(z:IV):aD ar3 12 z=true:=by kernel_rfl
theorem e12(p:Pg)(h:F4 p):∃n,(n=0→∀r∈p.rules,AZ r)∧CC 12 false [dj p] (iI n):=by
 refine CC.VK _ aps n12 t12 (by simpa using fA p) (by rfl) ?_;obtain⟨a34,n34,hF,h34⟩:=e34 p h;obtain⟨ds,rs⟩:=p;obtain⟨hd,hr,dn,S4,Di⟩:=h;simp only at*
 change CC 34 false [.agg [ek ds,yn rs]] _ at h34;show VE.sat _ _ _ _ [.agg [ek ds,yn rs]];simp[VE,SE.den,ab];refine⟨_,h34,?_⟩;simp;by_cases z:n34=0
 rotate_left
 ·left;exact z
 right;refine⟨z,?_⟩;unfold SJ;refine ao rs.length (fun i (_:Unit)=>[iI i]) (fun _ _=>True) () ?_ trivial fun i _ hi _=>?_
 ·simp[SE.den]
 by_cases aa:i<rs.length
 ·have hw:=aw aa (by omega);obtain⟨b,hb⟩:=e35 rs[i] (S4 _ (asb aa)) (hF z _ (asb aa));rw[iG]at hb;simp[SE.den,aa,hw,G8 aa,ab];refine⟨_,hb,?_⟩;cases b<;>simp;exact .mk () rfl (by omega) trivial
 ·simp[SE.den,aa];exact hF z
end Go.Proofs.YtggffkaadeagbaaGreat
