/- Lemmas, a part of the proof; no conditions. -/
import Derived.Test.YtabefplkfkfdfaaGreatPAg
open Go.Ev.SE renaming den->UU
open Go.Proofs.Tryz renaming prog->Z2,underlying28->aKm,underlying214->aJ9
open List renaming append_eq_nil_iff->aJK,take_length->Wc,length_flatten->QM,replicate->Xp,map_set->aK3,mem_iff_getElem->P7,length_eraseIdx->aJX,mem_of_mem_eraseIdx->aJC,findIdx?_eq_none_iff->aJz,findIdx?_cons->aJ_
open Option renaming bind_some->Z8,map_eq_some_iff->Lq
open And renaming intro->Xb
open Go.IntKind renaming i64->QY
open Go.Value renaming int->P3
open Prod renaming fst->Yd
open Go.Op renaming equal->We,equalIn->NI
open Go.Instr renaming checkKey->ZC,findKey->YA,findAsking->Qu,sameBits->Xi
open Go renaming undef->ZL,TypeId->VK
open Std.Legacy.Range renaming forIn_eq_forIn_range'->aKN,size->aKO
open Option renaming some->aa,none->ah
open Bool renaming true->ab,false->af
set_option linter.all false
def Xg:=@List.getD_eq_getElem?_getD
def Zj:=@List.pairwise_iff_getElem
def X3:=@Bool.and_true
def V_:=@Bool.and_false
def X1:=@Bool.eq_false_iff
namespace Go.Proofs.YtabefplkfkfdfaaGreat
open Go Go.Ev
variable{Q:IV->Prop}{eZ x0 x1 x2 x3 x4 x6 x7 ey gW iW x8 x9 lT nX rD tT tU x5:IV}{k0 k1 k2:aj IV->Prop}
def atM(i:Nat)(hi:i<1000)(ks vs:aj Int)(fk:Sm vs)(pl:aj Bool)(iv:i<pl.length)(now:aj Int)(aFM:now.length<=1000)
 (hy:(∀v∈vs,v∈ks)->k1 [iI (i+1:Nat),Ga (pl.set i ab),iL (now++[(i:Int)])])
 (hn:(¬∀v∈vs,v∈ks)->k1 [iI (i+1:Nat),Ga pl,iL now]):
 ack.sat Z2 CC Q [k0,k1] [x0,x1,x2,x3,x4,tV ks,x6,x7,iI i,Ga pl,iL now,eZ,iL vs]:=by
 have mU:=aS hi ak;refine aJ vs.length (λj (_:Unit)=>[iI j]) (λj _=>∀v∈vs.take j,v∈ks) () ?_ az λj _ hj hI=>?_
 .rfl
 by_cases aq:j<vs.length
 .have hw:=aS aq fk;have td:=aGO (O:=[tV ks,iI vs[j]]) (m:=.var 0) (key:=.var 1) (ks:=ks) (k:=vs[j]) rfl rfl;simp[UU]at td;simp[UU,aq,hw];rw[td];refine⟨iB (decide (vs[j]∈ks)),rfl,?_⟩;by_cases z:vs[j]∈ks
  .simp[z];exact .mk () rfl ak (bN aq hI z)
  .simp
   grind
 .have cQ:=cb aq hI;simp[UU,aZ,aD,lL (show now.length<=100000000 by omega),atq iv,ay8 ab iv]
  grind
def atN(k:Nat)(hk:k<1000)(ks vs:aj Int)(fk:Sm vs)(hc:∀q,(∀v,v∈q↔v∈ks\/v∈vs)->k0 [iI (k+1:Nat),tV q,x9,eZ]):
 StQ aIt Q [k0,k1] [x0,x1,x2,x3,iI k,tV ks,x6,x7,x8,x9,ey,eZ,iW,gW,iL vs]:=by
 have hwk:=aS hk ak;refine aJ vs.length (λj (q:aj Int)=>[iI j,tV q]) (λj q=>∀v,v∈q↔v∈ks\/v∈vs.take j) ks ?_ az λj q hj hI=>?_
 .rfl
 by_cases aq:j<vs.length
 .have hw:=aS aq fk;have ku:=ajb (O:=[tV q,iI vs[j]]) (m:=.var 0) (key:=.var 1) (ks:=q) (k:=vs[j]) rfl rfl;simp[UU]at ku;simp only[iI]at ku;simp[UU,aq,hw,jf aq];refine⟨_,ku,.mk _ rfl ak λv=>?_⟩;rw[BD,hI,ZN aq,ZV,Z3,or_assoc]
 .simp[UU]
  grind
def atO(r:Rl)(h:iF r)(gq:pB r)(hf:gy r)(hs:aj At)(Ue:hs=r.aA++r.aC)(doneZQ:aj Int)(hd:doneZQ.length<=100)(k:Nat)(hk:k<=doneZQ.length)(ks:aj Int)(dZ:∀v,v∈ks↔v∈bg (l8 hs (doneZQ.take k)))(out:aj (aj Int))(qE:out.length<=1000)
 (aFp:k=doneZQ.length->Q (eQ (out++[iK (EE hs doneZQ k) r.aL 0])))
 (aeO:k<doneZQ.length->∀q,(∀v,v∈q↔v∈bg (l8 hs (doneZQ.take (k+1))))->k0 [iI (k+1:Nat),tV q,Ga (r.aL.map (zn hs doneZQ k)),eQ (out++[iK (EE hs doneZQ k) r.aL 0])]):
 adk.sat Z2 CC Q [k0] [cy r,iL doneZQ,db hs,x3,iI k,tV ks,Ga (r.aL.map (xB hs doneZQ k)),eQ out]:=by
 have hg6:=h.g;have hwk:=aS (show k<1000 by omega) ak;have hgG:∀g∈r.aL,tR g/\∀t∈g.ts,WF t:=λg hg=>⟨gq.gs g (YR _ hg),(hf.gs g (YR _ hg)).2⟩;have hhA:∀a∈hs,vI a/\∀t∈a.ts,WF t:=λa ha=>⟨gq.hs a (Ue▸ha),hf.hs a (Ue▸ha)⟩;rw[bQ];refine aJ r.aL.length (λi (now:aj Int)=>[iI i,Ga (Gb (zn hs doneZQ k) (xB hs doneZQ k) r.aL i),iL now]) (λi now=>now++iK (EE hs doneZQ k) (r.aL.drop i) i=iK (EE hs doneZQ k) r.aL 0/\now.length<=i) [] ?_ az λi now hi hI=>?_
 .rfl
 have⟨hI,JO⟩:=hI;by_cases aq:i<r.aL.length
 .have hw:=aS aq ak;have iv:i<(Gb (zn hs doneZQ k) (xB hs doneZQ k) r.aL i).length:=by simp_all[abw]
  have eW:=atq iv;rw[atr aq]at eW;have GB:=aoN (f:=zn hs doneZQ k) (g:=xB hs doneZQ k) aq;have U0:=akp (f:=zn hs doneZQ k) (g:=xB hs doneZQ k) aq;have⟨hgn,hgw⟩:=hgG _ (Z4 aq);rw[MT aq]at hI;simp[UU,aq,hw,sj aq,aw,eW,aD];cases hb:xB hs doneZQ k r.aL[i]with
  |true=>
   have hr:=aoM hb;right;rw[EE,hb,hr]at hI;simp[xA]at hI;refine⟨az,.mk now ?_ ak ⟨hI,ak⟩⟩
   grind
  |false=>
   left;have J5:=c87 af r.aL[i] hgn (λt ht=>(hgw t ht).2);have Cb:=(jQ λt ht=>(hgw t ht).2:Vr (bg r.aL[i].ts)).len;have iQ:=aoO (g:=r.aL[i]) dZ;refine⟨az,_,J5,?_⟩;simp;refine atM i ak ks _ ak _ iv now ak (λhm=>?_) λhm=>?_
   .rw[att hm]at iQ;rw[EE,hb,iQ]at hI;rw[iQ]at GB;rw[GB];simp[xA]at hI;exact .mk (now++[(i:Int)]) rfl ak ⟨aI,aI⟩
   .rw[atu hm]at iQ;rw[EE,hb,iQ]at hI;simp[xA]at hI;refine .mk now ?_ ak ⟨hI,ak⟩
    grind
 .have pR:i=r.aL.length:=ak;rw[ZX ak,iK,Z_]at hI
  have hpd:Gb (zn hs doneZQ k) (xB hs doneZQ k) r.aL i=r.aL.map (zn hs doneZQ k):=by
   simp_all[Gb,pR]
  rw[hpd];subst hI;have hc:=Ao (a:=out) (v:=iK (EE hs doneZQ k) r.aL 0) ak;simp[UU,aq,hc,aw,aD];by_cases Cf:k=doneZQ.length
  .grind
  right;have gR:k<doneZQ.length:=ak;have bI:=Dn (hs:=hs) gR;refine⟨ak,?_⟩;simp[jf gR,aD,hwk];by_cases z0:doneZQ[k]<0
  .left;refine⟨z0,aeO gR ks λv=>?_⟩;rw[dZ,bI];have:gB hs doneZQ[k]=[]:=by grind [gB]
   grind
  right;refine⟨ak,?_⟩;by_cases z1:(hs.length:Int)<=doneZQ[k]
  .left;refine⟨z1,aeO gR ks λv=>?_⟩;rw[dZ,bI]
   have:gB hs doneZQ[k]=[]:=by
    simp_all[gB]
   grind
  right;refine⟨ak,?_⟩;have mB:doneZQ[k]=((doneZQ[k].toNat:Nat):Int):=ak;have cR:doneZQ[k].toNat<hs.length:=ak;have hA:=lI cR;rw[<-mB]at hA;have⟨rP,Cp⟩:=hhA _ (Z4 cR);have Nz:=c46 af hs[doneZQ[k].toNat] rP (λt ht=>(Cp t ht).2);have Cb:=(jQ λt ht=>(Cp t ht).2:Vr (bg hs[doneZQ[k].toNat].ts)).len
  have Xd:gB hs doneZQ[k]=hs[doneZQ[k].toNat].ts:=by
   grind [gB]
  simp[hA];refine⟨_,Nz,?_⟩;simp;refine atN k ak ks _ ak λq hq=>aeO gR q λv=>?_;rw[hq,dZ,bI,lJ,lJ,lJ,Xd,oO,ZV]
def atP(r:Rl)(h:iF r)(gq:pB r)(hf:gy r)(hs:aj At)(Ue:hs=r.aA++r.aC)(doneZQ:aj Int)(hd:doneZQ.length<=100)(hQ:Q (eQ (dV hs r.aL doneZQ))):
 StQ adS Q [] [cy r,iL doneZQ,db hs,Ga (r.aL.map λ_=>af)]:=by
 refine fg (λ(a:Nat×aj Int)=>[iI a.1,tV a.2,Ga (r.aL.map (xB hs doneZQ a.1)),eQ ((dV hs r.aL doneZQ).take a.1)]) (λa=>a.1<=doneZQ.length/\∀v,v∈a.2↔v∈bg (l8 hs (doneZQ.take a.1))) (λa=>doneZQ.length- a.1) (0,[]) ?_ ⟨ak,by simp[l8,lJ,fm]⟩ λa ha=>?_
 .simp[UU,xB]
 have⟨k,ks⟩:=a;have⟨rP,Cp⟩:=ha;have hl:k<(dV hs r.aL doneZQ).length:=by rw[qf];omega
 have bI:=ahv hl
 have PQ:(dV hs r.aL doneZQ).take k++[iK (EE hs doneZQ k) r.aL 0]=(dV hs r.aL doneZQ).take (k+1):=by
  rw[ZN hl,bI]
 have hw:=atO (Q:=Q) (k0:=GK (λ(a:Nat×aj Int)=>[iI a.1,tV a.2,Ga (r.aL.map (xB hs doneZQ a.1)),eQ ((dV hs r.aL doneZQ).take a.1)]) (λa=>a.1<=doneZQ.length/\∀v,v∈a.2↔v∈bg (l8 hs (doneZQ.take a.1))) (λa=>doneZQ.length- a.1) (k,ks))
  (x3:=Ga (r.aL.map λ_=>af))
  r h gq hf hs Ue doneZQ hd k rP ks Cp ((dV hs r.aL doneZQ).take k) eE (λCf=>by
    rw[PQ,Wg (by rw[qf];omega)];exact hQ) (λgR q hq=>.mk (k+1,q) (by
    rw[PQ];simp[xB]) ⟨eE,hq⟩ eE)
 rw[bQ]at*
 simp[UU];exact hw
def atQ(r:Rl)(h:iF r)(gq:pB r)(hf:gy r)(doneZQ:aj Int)(hd:doneZQ.length<=100):CC 161 ab [cy r,iL doneZQ] (eQ (dV (r.aA++r.aC) r.aL doneZQ)):=by
 refine CC.of aoX kr kr (JA r doneZQ) (Eu _) ?_;have Cu:=Ny r (by have:=h.h;omega);have hw:=atP (Q:=(·=eQ (dV (r.aA++r.aC) r.aL doneZQ))) r h gq hf _ rfl doneZQ hd rfl
 have Jo:kS 10 (iI r.aL.length) (iB af)=aa (Ga (r.aL.map λ_=>af)):=by
  have h6:=h.g;have h7:(r.aL.length:Int)<=1000000:=ak;simp[kS,aD,h7];exact(List.map_const' ..).symm
 have aFq:kS 7 (iI (doneZQ.length+1)) (iB ab)=aa (iI (doneZQ.length+1)):=by
  grind [kS]
 have hwd:=aS (show doneZQ.length<1000 by omega) ak;rw[bQ]at*
 generalize dV (r.aA++r.aC) r.aL doneZQ=P at*
 simp[ahF,UU,aw];refine⟨_,Cu,?_⟩
 simp_all
def atS(x:Pn)(hx:Lw x)(hQ:Q (iB ab)):
 (amF 7).sat Z2 CC Q [k0,k1,k2] [x0,bT x,x2,x3,x4,x5,x6,x7,x8,x9,ey,eZ,iW,gW,lT,rD,nX,tT,eQ x.jg,tU]:=by
 have hN:=bT.eq_1 x;have hs:=hx.t;have lD:=hx.ts;rw[hN];generalize x.jg=ts at*
 refine aJ ts.length (λi (_:Unit)=>[iI i]) (λ_ _=>True) () ?_ trivial λi _ hi _=>?_
 .rfl
 by_cases aq:i<ts.length
 .have hw:=aS aq hs;have QG:=k93 ts[i] ts[i] (lD _ (Z4 aq));simp[UU,aq,hw,tS aq]at QG⊢;exact⟨_,QG,by simpa using .mk () rfl ak trivial⟩
 .simp[UU,aq];omega
def atT(x:Pn)(hx:Lw x)(hQ:Q (iB ab)):
 (amG 7).sat Z2 CC Q [k0,k1] [x0,bT x,x2,x3,x4,x5,x6,x7,x8,x9,ey,eZ,iW,gW,lT,rD,nX,eQ x.jJ,eQ x.jg]:=by
 have hN:=bT.eq_1 x;have hs:=hx.k;have dZ:=hx.ks;refine aJ x.jJ.length (λi (_:Unit)=>[iI i]) (λ_ _=>True) () ?_ trivial λi _ hi _=>?_
 .rfl
 by_cases aq:i<x.jJ.length
 .have hw:=aS aq hs;have QG:=as0 x.jJ[i] x.jJ[i] (dZ _ (Z4 aq));rw[hN];simp[UU,aq,hw,tS aq,aD]at QG⊢;exact⟨_,QG,by simpa using .mk () rfl ak trivial⟩
 .have hw:=atS (Q:=Q) (k0:=k0) (k1:=k1) (k2:=qJ x.jJ.length (λi (_:Unit)=>[iI i]) (λ_ _=>True) i) (x0:=x0) (x2:=x2) (x3:=x3) (x4:=x4) (x5:=x5) (x6:=x6) (x7:=x7) (x8:=x8) (x9:=x9) (ey:=ey) (eZ:=eZ) (iW:=iW) (gW:=gW) (lT:=lT) (rD:=rD) (nX:=nX) (tT:=eQ x.jJ) (tU:=iI i) x hx hQ;rw[hN]at*
  simp[UU,aq];omega
def atU(x:Pn)(hx:Lw x)(ho:x.bj.length<=50)(r:Rl)(h:iF r)(gq:pB r)(hf:gy r)(hv:pq (r.aA++r.aC).length x.bj)(Co:x.jJ=eA (r.aA++r.aC) [x.o.h] x.bj)(htx:x.jg=dV (r.aA++r.aC) r.aL (x.o.h::x.bj))(hQ:Q (iB ab)):
 (Ta 7 Yn (.ok (.var 6))).sat Z2 CC Q [k0] [x0,bT x,x2,x3,cy r,x5,db (r.aA++r.aC),x7,x8,x9,ey,eZ,iW]:=by
 have hN:=bT.eq_1 x;have yg:=h.h;rw[<-UR]at yg;have zk:=λdoneZQ (hd:doneZQ.length<=100) n a ha=>ako ab r (r.aA++r.aC) yg h.hs gq.hs hf.hs doneZQ hd n a ha;have BZ:=atQ r h gq hf (x.o.h::x.bj) aI;rw[<-htx]at BZ;have aDb:=λ(k1:aj IV->Prop) (gW lT rD nX:IV)=>atT (Q:=Q) (k0:=k0) (k1:=k1) (x0:=x0) (x2:=x2) (x3:=x3) (x4:=cy r) (x5:=x5) (x6:=db (r.aA++r.aC)) (x7:=x7) (x8:=x8) (x9:=x9) (ey:=ey) (eZ:=eZ) (iW:=iW) (gW:=gW) (lT:=lT) (rD:=rD) (nX:=nX) x hx hQ;simp only[hN,bQ,Co]at*
 clear Co htx;generalize hO:x.bj=aO at*
 generalize hS:r.aA++r.aC=hs at*
 unfold Ta Yn;refine aJ aO.length (λi (q:aj (aj Int))=>[iI i,iI x.o.r,iI x.o.h,iL (x.o.h::aO.take i),eQ q]) (λi q=>q++eA hs (x.o.h::aO.take i) (aO.drop i)=eA hs [x.o.h] aO/\q.length<=i) [] ?_ az λi q hi hI=>?_
 .rfl
 have⟨hI,ED⟩:=hI;by_cases aq:i<aO.length
 .have nC:=aS aq ak;have⟨hv0,Np⟩:=hv _ (Z4 aq);have mB:aO[i]=((aO[i].toNat:Nat):Int):=ak;have cR:aO[i].toNat<hs.length:=ak;have sD:=zk (x.o.h::aO.take i) aI aO[i].toNat _ (UN cR);rw[<-mB]at sD
  have rP:gB hs aO[i]=hs[aO[i].toNat].ts:=by
   grind [gB]
  rw[UQ aq,eA,rP]at hI;have bI:x.o.h::aO.take (i+1)=(x.o.h::aO.take i)++[aO[i]]:=az;have dz:=lL (a:=x.o.h::aO.take i) (v:=aO[i]) aI;have oT:=Ao (a:=q) (v:=gm hs (x.o.h::aO.take i) hs[aO[i].toNat].ts) ak;generalize hD:x.o.h::aO.take i=D at*
  simp[UU,aq,nC,jf aq,aw];refine⟨_,sD,?_⟩;simp[aw,aZ,aD,dz,oT];refine .mk (q++[gm hs D hs[aO[i].toNat].ts]) ?_ ak ⟨aI,aI⟩
  grind
 .rw[ZX ak,eA,Z_]at hI;have:=aDb (qJ aO.length (λi (q:aj (aj Int))=>[iI i,iI x.o.r,iI x.o.h,iL (x.o.h::aO.take i),eQ q]) (λi (q:aj (aj Int))=>q++eA hs (x.o.h::aO.take i) (aO.drop i)=eA hs [x.o.h] aO/\q.length<=i) i) (iI i) (iI x.o.r) (iI x.o.h) (iL (x.o.h::aO.take i));rw[Wg ak]at*
  simp[UU,aq];exact⟨_,BZ,jw⟩
def atV(x:Pn)(hx:Lw x)(ho:x.bj.length<=50)(r:Rl)(h:iF r)(gq:pB r)(hf:gy r)(n:Nat)(hn:(r.aA++r.aC).length=n)(bM:pq n x.bj)(Co:x.jJ=eA (r.aA++r.aC) [x.o.h] x.bj)(htx:x.jg=dV (r.aA++r.aC) r.aL (x.o.h::x.bj))(hQ:Q (iB ab)):
 (aeH 7 Yn (.ok (.var 6))).sat Z2 CC Q [] [x0,bT x,x2,x3,cy r,x5,db (r.aA++r.aC),x7,iL (lN n)]:=by
 have hN:=bT.eq_1 x;have Ba:=h.h;rw[<-UR,hn]at Ba;have hL:=nD n;have hrg:=ahi n;refine aJ n (λi (_:Unit)=>[iI i,iI n,iI n,iL (lN n)]) (λ_ _=>True) () ?_ trivial λi _ hi _=>?_
 .simp[UU,hL]
 by_cases aq:i<n
 .have hw:=aS aq ak;have cR:i<(lN n).length:=ak;have gQ:=hrg i cR;rw[hN];simp[UU,aq,hw,jf cR,aD,gQ];exact .mk () rfl ak trivial
 .have:=atU (Q:=Q) (k0:=qJ n (λi (_:Unit)=>[iI i,iI n,iI n,iL (lN n)]) (λ_ _=>True) i) (x0:=x0) (x2:=x2) (x3:=x3) (x5:=x5) (x7:=x7) (x8:=iL (lN n)) (x9:=iI i) (ey:=iI n) (eZ:=iI n) (iW:=iL (lN n)) x hx ho r h gq hf (hn▸bM) Co htx hQ;rw[hN]at*
  simp[UU,aq,aZ];omega
variable{i m:Nat}{r:Rl}
def k32(p:Pg)(hp:f_ p)(hf:∀r∈p.aX,gy r)(x:Pn)(hx:Lw x)(h6:x.bj.length<=6)(h:pJ p x.o i m r)(Ut:qY (r.aA++r.aC).length m x.bj=ab)(JY:x=fp r x.o x.bj):CC 32 af [bc p,bT x] (iB ab):=by
 refine CC.dB aC1 kr (λ_=>kr) (abu p x) cE ?_;have J5:=k87 p hp;have qE:=qz p.aX hp.rs;have h86:=k86 (occs p.aX) x.o (by have:=hp.r;omega);have hN:=bT.eq_1 x;have hP:=bc.eq_1 p;have hO:=eS.eq_1 x.o;have gQ:=h.ru;have⟨hi,gQ⟩:=Z5.1 gQ;have dE:=gQ▸Z4 hi;have j8:=hp.rs r dE;have hR:=nQ hi;rw[gQ]at hR;rw[decide_eq_true (nS.2 ⟨i,m,r,h⟩),hO]at h86;have Cu:=Ny r (by have:=j8.h;omega);have jm:=By (a:=[x.o.h]) (b:=x.bj) aI;have yp:cu 6 (FW p.aX) (iI x.o.r)=aa (.agg [iS r.name,db r.aA,db r.aC,gw r.aL,gw r.bC,iI r.vars]):=by grind [h.or]
 have W7:=h.or
 have aFN:StQ abv (Ah (·=ab)) [] [bc p,bT x,kY (occs p.aX),iB ab,cy r,cy r,db (r.aA++r.aC),iL (x.o.h::x.bj)]:=by
  refine jI (λvs=>∃L:aj Int,vs=[iL L]/\L.Perm (x.o.h::x.bj)/\L.Pairwise (·<=·)) ?_ λvs fk=>?_
  .have:=atx (Q:=Ah (·=ab)) (k0:=GL λvs=>∃L:aj Int,vs=[iL L]/\L.Perm (x.o.h::x.bj)/\L.Pairwise (·<=·)) (x0:=bc p) (x1:=bT x) (x2:=kY (occs p.aX)) (x3:=iB ab) (x4:=cy r) (x5:=cy r) (x6:=db (r.aA++r.aC)) (x.o.h::x.bj) az aI λL h1 h2=>⟨L,rfl,h1,h2⟩;generalize occs p.aX=l at*
   simp[UU]at this⊢;omega
  .obtain⟨L,rfl,h1,h2⟩:=fk;exists rfl;obtain rfl:=(aoQ (n:=(r.aA++r.aC).length) (L:=L) (by have:=h.lt;omega) (h.oh▸h1) h2).2 Ut;have Co:x.jJ=eA (r.aA++r.aC) [x.o.h] x.bj:=by rw[JY];rfl
   have htx:x.jg=dV (r.aA++r.aC) r.aL (x.o.h::x.bj):=by rw[JY];rfl
   have:=atV (Q:=Ah (·=ab)) (x0:=bc p) (x2:=kY (occs p.aX)) (x3:=iB ab) (x5:=cy r) (x7:=iL (x.o.h::x.bj)) x hx ak r j8 (hp.rn r dE) (hf r dE) _ rfl (MV Ut).1 Co htx az;have e:=nD (r.aA++r.aC).length;generalize occs p.aX=l at*
   generalize r.aA++r.aC=hs at*
   simp[UU,e];omega
 simp only[bQ,hN,hP]at*
 generalize occs p.aX=l at*
 generalize r.aA++r.aC=hs at*
 simp[atk,UU,aw];exists _,J5;simp;exists _,h86;have z1:¬(x.o.r<0):=ak;have z2:¬((p.aX.length:Int)<=x.o.r):=ak;simp[z1,z2,yp];exists ak,ak,_,Cu;simp[aZ,aD]
 grind
structure In where
 op:Int
 a:Int
 b:Int
 g:Gl
 ts:aj Tm
def eR:Gl:=⟨0,[],[]⟩
def encI(i:In):IV:=.agg [iI i.op,iI i.a,iI i.b,iI i.g.op,iS i.g.s,iT i.g.ts,iT i.ts]
abbrev cP(l:aj In):IV:=.tree 7 (l.map encI)
def aer(i:In):Pure (encI i):=.agg _ az
@[simp] theorem aDc(l:aj In):Pure (cP l):=lS 7 encI (λa=>⟨_,rfl,az⟩) l
def aoY(x:In):∃cs,encI x=.agg cs/\cs.length=7/\cs.all aw=ab:=⟨_,rfl,rfl,rfl⟩
variable{a:aj In}
def MX{b:aj In}(h:a.length+b.length<=1000000):dG 7 96 (cP a) (cP b)=aa (cP (a++b)):=by
 have h2:=Dl (s:=7) (enc:=encI) aoY b;simp[dG,h2];omega
def gF{i:In}(h:a.length<=100000):dG 7 96 (cP a) (.tree 7 [.agg [iI i.op,iI i.a,iI i.b,iI i.g.op,iS i.g.s,iT i.g.ts,iT i.ts]])=aa (cP (a++[i])):=MX (a:=a) (b:=[i]) eE
def BG(l:aj In):∀e∈l.map encI,(aD e).length=7:=λe he=>by obtain⟨x,_,rfl⟩:=Z6.1 he;rfl
def HG(l:aj In):∀c∈flat (l.map encI),Pure c/\aw c=ab:=λc hc=>by
 unfold flat at hc;obtain⟨e,he,hc⟩:=XC.1 hc;obtain⟨x,_,rfl⟩:=Z6.1 he;simp only[encI,aD,ZP,List.not_mem_nil,or_false]at hc;rcases hc with rfl|rfl|rfl|rfl|rfl|rfl|rfl<;>exact⟨az,rfl⟩
def cZ(h:Int)(kn:aj Int):aj Tm->Nat->aj In
 |[],_=>[]
 |t::ts,i=>(if(i:Int)∈kn then[]else[⟨1,h,i,eR,[t]⟩])++cZ h kn ts (i+1)
variable{h:Int}{ts:aj Tm}
def Gc{kn:aj Int}(hi:i<ts.length):cZ h kn (ts.drop i) i=(if(i:Int)∈kn then[]else[⟨1,h,i,eR,[ts[i]]⟩])++cZ h kn (ts.drop (i+1)) (i+1):=by
 rw[UQ hi,cZ]
def su(h:Int)(kn:aj Int):∀(ts:aj Tm) (i:Nat),(cZ h kn ts i).length<=ts.length
 |[],_=>by simp[cZ]
 |t::ts,i=>by
  have:=su h kn ts (i+1);rw[cZ,UR,Zx];split<;>simp<;>omega
def cW(gs:aj Gl)(l:aj Int):aj In:=l.map λv=>⟨2,0,0,(gs[v.toNat]?).getD eR,[]⟩
def vw(n:Nat)(l:aj Int):Prop:=∀v∈l,0<=v/\v<n
def atW:dK Z2 40=7:=kr
def atX:dK Z2 41=7:=kr
def aDd:dK Z2 43=7:=kr
def aDe(s:aj UInt8)(ts:aj Tm)(lD:ts.length<=1000)(h:Int)(kn:aj Int)(hk:Sm kn):ad8.sat Z2 CC (·=cP (cZ h kn ts 0)) [] [.agg [iS s,iT ts],iI h,iL kn]:=by
 simp[ad8,UU,aw];unfold aaZ;refine aJ ts.length (λi (q:aj In)=>[iI i,cP q]) (λi q=>q++cZ h kn (ts.drop i) i=cZ h kn ts 0/\q.length<=i) [] ?_ az λi q hi hI=>?_
 .simp[UU]
 obtain⟨hI,ED⟩:=hI;by_cases aq:i<ts.length
 .have hw:=aS aq ak;have aks:=asB kn (i:Int) hk;rw[Gc aq]at hI;have hc:=gF (a:=q) (i:=⟨1,h,i,eR,[ts[i]]⟩) ak
  have hc:dG 7 96 (cP q) (.tree 7 [.agg [iI 1,iI h,iI i,iI 0,iS [],iT [],.tree 4 [.agg [iI ts[i].k,iI ts[i].n,iS ts[i].s,iT ts[i].ts]]]])=aa (cP (q++[⟨1,h,i,eR,[ts[i]]⟩])):=by
   rw[<-hc,<-bL];rfl
  simp[UU,aq,hw,aw];refine⟨_,aks,?_⟩;by_cases e:(i:Int)∈kn
  .rw[aW e,Qy]at hI;simp[e,aw];exact .mk q rfl ak ⟨hI,ak⟩
  .rw[aY e]at hI;simp[e,aw,iJ aq,bL,aD];exact⟨_,hc,.mk (q++[⟨1,h,i,eR,[ts[i]]⟩]) rfl ak ⟨by rw[<-hI];simp,eE⟩⟩
 .rw[ZX ak,cZ,Z_]at hI;simp[UU,aq,hI,aw]
def aDf(s:aj UInt8)(ts:aj Tm)(lD:ts.length<=1000)(h:Int)(kn:aj Int)(hk:Sm kn)(h0:cZ h kn ts 0=[]):StQ ad9 (·=cP []) [] [.agg [iS s,iT ts],iI h,iL kn]:=by
 have cQ:∀(i:Nat),i<=ts.length->cZ h kn (ts.drop i) i=[]:=by
  intro i;induction i with
  |zero=>intro _;exact h0
  |succ i ih=>
   intro hi;have:=ih ak;rw[Gc ak,aJK]at this;exact this.2
 simp[ad9,UU,aw];unfold aa0;refine aJ ts.length (λi (_:Unit)=>[iI i]) (λ_ _=>True) () ?_ trivial λi _ hi _=>?_
 .simp[UU]
 by_cases aq:i<ts.length
 .have hw:=aS aq ak;have aks:=asB kn (i:Int) hk
  have e:(i:Int)∈kn:=by
   have:=cQ i hi;rw[Gc aq,aJK]at this;by_cases e:(i:Int)∈kn
   .exact e
   .rw[aY e]at this;cases this.1
  simp[UU,aq,hw,aw];exists _,aks;simp[e,aw];exact .mk () rfl ak trivial
 .simp[UU,aq,aw]
def aHL(s:aj UInt8)(ts:aj Tm)(h:Int)(kn:aj Int):∀x∈[IV.agg [iS s,iT ts],iI h,iL kn],Pure x:=by
 intro x hx;rcases ZP.1 hx with rfl|hx
 .exact .agg _ az
 rcases ZP.1 hx with rfl|hx
 .simp
 obtain rfl:=Z3.1 hx;simp
def amT(aH:Bool)(s:aj UInt8)(ts:aj Tm)(lD:ts.length<=1000)(h:Int)(kn:aj Int)(hk:Sm kn):CC 2182 aH [.agg [iS s,iT ts],iI h,iL kn] (cP (cZ h kn ts 0)):=by
 have h1:=atW
 have hc:jX Z2 (dK Z2 40) 40 [.agg [iS s,iT ts],iI h,iL kn] ((cZ h kn ts 0).map encI):=by
  by_cases hp:cZ h kn ts 0=[]
  .exact .agb (nm:=ab) mixed uK axW kr (aHL s ts h kn) (by rw[h1];exact BG _) (HG _) az (by rw[h1,hp];exact aDf s ts lD h kn hk hp)
  .exact .nu (nm:=af) mixed uK axV kr (aHL s ts h kn) (by rw[h1];exact BG _) (HG _) (λ_=>by simpa using hp) (by rw[h1];exact aDe s ts lD h kn hk)
 have h2:=sR.X7 (aH:=aH) (tQ rfl) hc;rw[gk,atW]at h2;unfold CC;rw[gk];exact h2
variable{gs:aj Gl}
def aeg{l:aj Int}(h:i<l.length):cW gs (l.take (i+1))=cW gs (l.take i)++[⟨2,0,0,(gs[l[i].toNat]?).getD eR,[]⟩]:=by
 unfold cW;rw[ZN h,Nj];rfl
def aDg(r:Rl)(l:aj Int)(hl:l.length<=1000)(hv:vw r.aL.length l):StQ ad_ (·=cP (cW r.aL l)) [] [cy r,iL l]:=by
 rw[bQ];simp[ad_,UU,aw];unfold aa1;refine aJ l.length (λi (q:aj In)=>[iI i,cP q]) (λi q=>q=cW r.aL (l.take i)) [] ?_ (by simp[cW]) λi q hi hI=>?_
 .simp[UU]
 have ED:q.length=i:=by rw[hI];simp[cW];omega
 by_cases aq:i<l.length
 .have hw:=aS aq ak;obtain⟨v0,v1⟩:=hv _ (Z4 aq);have mB:l[i]=((l[i].toNat:Nat):Int):=ak;have cR:l[i].toNat<r.aL.length:=ak;have hG:=sj cR;rw[<-mB]at hG;have bI:=aeg (gs:=r.aL) aq;rw[<-hI,UN cR,Tb]at bI;have hc:=gF (a:=q) (i:=⟨2,0,0,r.aL[l[i].toNat],[]⟩) ak;simp only[Wk]at hc;simp[UU,aq,hw,aw,jf aq,hG,aD];exact⟨_,hc,.mk _ rfl ak (by rw[bI])⟩
 .rw[Wg ak]at hI;simp[UU,aq,hI,aw]
def aDh(r:Rl)(l:aj Int)(h0:l=[]):StQ aea (·=cP []) [] [cy r,iL l]:=by
 subst h0;rw[bQ];simp[aea,UU,aw];unfold aa2;refine aJ 1 (λi (_:Unit)=>[iI 0]) (λ_ _=>True) () ?_ trivial λi _ hi _=>?_
 .simp[UU]
 simp[UU,aw]
def aeP(aH:Bool)(r:Rl)(l:aj Int)(hl:l.length<=1000)(hv:vw r.aL.length l):CC 2183 aH [cy r,iL l] (cP (cW r.aL l)):=by
 have h1:=atX
 have hc:jX Z2 (dK Z2 41) 41 [cy r,iL l] ((cW r.aL l).map encI):=by
  by_cases hp:l=[]
  .exact .agb (nm:=ab) mixed uK axY kr (JA r l) (by rw[h1];exact BG _) (HG _) az (by rw[h1,show cW r.aL l=[] by rw[hp];rfl];exact aDh r l hp)
  .exact .nu (nm:=af) mixed uK axX kr (JA r l) (by rw[h1];exact BG _) (HG _) (λ_=>by simpa[cW]using hp) (by rw[h1];exact aDg r l hl hv)
 have h2:=sR.X7 (aH:=aH) (tQ rfl) hc;rw[gk,atX]at h2;unfold CC;rw[gk];exact h2
def nY(hs:aj At)(h:Int)(a:At)(e:Int):aj In:=match hs[e.toNat]? with
 |some b=>if b.s=a.s/\b.ts.length=a.ts.length then[⟨4,h,e,eR,[]⟩]else[]
 |none=>[]
def jD(hs:aj At)(h:Int)(a:At)(es:aj Int):aj In:=es.flatMap (nY hs h a)
def aeQ(hs:aj At)(h:Int)(a:At)(e:Int):(nY hs h a e).length<=1:=by
 unfold nY;split
 .split<;>simp
 .simp
def zp(hs:aj At)(h:Int)(a:At):∀es:aj Int,(jD hs h a es).length<=es.length
 |[]=>by simp[jD]
 |e::es=>by
  have h1:=zp hs h a es;have h2:=aeQ hs h a e;unfold jD at*
  rw[List.flatMap_cons,UR,Zx];omega
variable{a:At}{hs:aj At}
def aK1{es:aj Int}(hi:i<es.length):jD hs h a (es.take (i+1))=jD hs h a (es.take i)++nY hs h a es[i]:=by
 unfold jD;rw[ZN hi,List.flatMap_append];simp
def nH(hs:aj At)(gs:aj Gl)(ax:aj Ac)(x:Pn)(k:Nat)(n:Int)(a:At)(ps te:aj Int):aj In:=
 ⟨3,n,nR ax ⟨a.s,a.ts.length,ps⟩,eR,mA a.ts ps⟩::(jD hs n a (x.o.h::x.bj.take k)++cZ n ps a.ts 0++cW gs te)
structure Dq(p:Pg)(x:Pn)(k i n:Nat)(r:Rl)(a:At)(ps te:aj Int):Prop where
 h:Part p x k i n r a ps
 t:x.jg[k+2]?=aa te
 pl:ps.length<=400
 tl:te.length<=1000
 tv:vw r.aL.length te
 ov:pq (r.aA++r.aC).length (x.o.h::x.bj)
 ol:x.bj.length<=50
def TZ(j:Nat):IV->aF IV
 |.agg cs=>(cs[j]?).bind yA
 |_=>ah
def aku(n:Nat):IV->aF IV
 |.agg cs=>if cs.length=n/\cs.all aw then aa (.agg cs)else ah
 |_=>ah
def acF(x:IV):IV->aF IV
 |.agg cs=>aa (.agg (x::cs))
 |_=>ah
def trF(q:Nat):IV->aF IV
 |.agg cs=>if 0<q/\cs.all (λe=>(aD e).length==q)then aa (.tree q cs)else ah
 |_=>ah
def tpF:IV->aF IV
 |.agg cs=>aa (.aU cs)
 |_=>ah
def sw{j:Nat}{cs:aj IV}:TZ j (.agg cs)=(cs[j]?).bind yA:=by rw[TZ]
def OJ{n:Nat}{cs:aj IV}:aku n (.agg cs)=if cs.length=n/\cs.all aw then aa (.agg cs)else ah:=by rw[aku]
def MY{x:IV}{cs:aj IV}:acF x (.agg cs)=aa (.agg (x::cs)):=by rw[acF]
def Sv{q:Nat}{cs:aj IV}:trF q (.agg cs)=if 0<q/\cs.all (λe=>(aD e).length==q)then aa (.tree q cs)else ah:=by rw[trF]
def aoZ{cs:aj IV}:tpF (.agg cs)=aa (.aU cs):=by rw[tpF]
def fT{B β:Type}{a:B}{f:B->aF β}:(aa a).bind f=f a:=by rw[Z8]
variable{O:aj IV}{P:Program}{c:aj In}{n k:Nat}
def ml{x:Nat}:(SE.var x).den P O=O[x]? :=by rw[UU]
def Sw{n:Int}:(SE.i n).den P O=aa (iI n):=by rw[UU]
def akv{t:Bool}:(SE.b t).den P O=aa (iB t):=by rw[UU]
def aDi{l:aj UInt8}:(SE.s l).den P O=aa (iS l):=by rw[UU]
def tW{e:SE}:(SE.ok e).den P O=(e.den P O).bind yA:=by rw[UU]
def ahG{n:Nat}{e:SE}:(SE.qG n e).den P O=(e.den P O).bind (aku n):=by rw[UU];rfl
def BH{e:SE}{j:Nat}:(SE.bt e j).den P O=(e.den P O).bind (TZ j):=by rw[UU];rfl
def HH{q:Nat}{e x:SE}:(SE.idx q e x).den P O=(e.den P O).bind λa1=>(x.den P O).bind λb1=>cu q a1 b1:=by rw[UU]
def uS{e:SE}:(SE.len e).den P O=(e.den P O).bind KO:=by rw[UU]
def amU:SE.an.den P O=aa (.agg []):=by rw[UU]
def azh{q:Nat}{r:SE}:(SE.tr q r).den P O=(r.den P O).bind (trF q):=by rw[UU];rfl
def amV{a r:SE}:(SE.ac a r).den P O=(a.den P O).bind λx=>(r.den P O).bind (acF x):=by rw[UU];rfl
def azi{r:SE}:(SE.tp r).den P O=(r.den P O).bind tpF:=by rw[UU];rfl
def atY{q b:Nat}{e f:SE}:(SE.cat q b e f).den P O=(e.den P O).bind λa1=>(f.den P O).bind λb1=>dG q b a1 b1:=by rw[UU]
def HI{op:BinOp}{t:VK}{a b:SE}:(SE.bin op t a b).den P O=(a.den P O).bind λx1=>(b.den P O).bind λy1=>dN P op t x1 y1:=by rw[UU]
def azj{op:UnOp}{a:SE}:(SE.un op a).den P O=(a.den P O).bind (U_ P op):=by rw[UU]
def azk{e:SE}:(SE.rw e).den P O=(e.den P O).bind λz=>if aZ z then aa z else ah:=by rw[UU]
def Zk{q:Nat}{e lo hi:SE}:(SE.sub q e lo hi).den P O=(e.den P O).bind λa1=>(lo.den P O).bind λb1=>(hi.den P O).bind λc1=>wi q a1 b1 c1:=by rw[UU]
def fW:=Xb @fT<|Xb @ml<|Xb @Sw<|Xb @akv<|Xb @aDi<|Xb @tW<|Xb @ahG<|Xb @BH<|Xb @HH<|Xb @uS<|Xb @azh<|Xb @amV<|Xb @amU<|Xb @azi<|Xb @sw<|Xb @OJ<|Xb @MY<|Xb @Sv<|Xb @aoZ<|Xb @atY<|Xb @HI<|Xb @azj<| @azk
def tF(n k:Nat):au:=
 (.loop (.ac (.i 0) (.ac (.var n) .an))
 (.aQ (.ok (.bin .lss 3 (.var (n+2)) (.len (.ok (.var (n+1))))))
 (.test (.ok (.bin .lss 3 (.var (n+2)) (.len (.ok (.var (n+1))))))
 (.bind (.idx 1 (.ok (.var (n+1))) (.var (n+2)))
 (.aQ (.ok (.var (n+4)))
 (.bind (.idx 3 (.bt (.var 5) 3) (.ok (.var (n+4))))
 (.aQ (.qG 3 (.var (n+5)))
 (.bind (.cat 7 96 (.var (n+3)) (.tr 7 (.ac (.ac (.i 2) (.ac (.i 0) (.ac (.i 0) (.ac (.bt (.var (n+5)) 0) (.ac (.bt (.var (n+5)) 1) (.ac (.bt (.var (n+5)) 2) (.ac (.tr 4 .an) .an))))))) .an)))
 (.aQ (.ok (.bin .add 3 (.var (n+2)) (.i 1)))
 (.next (k+1) (.ac (.ok (.bin .add 3 (.var (n+2)) (.i 1))) (.ac (.var (n+6)) .an)))))))))
 (.next k (.ac (.var (n+3)) .an)))))
def mF(n k:Nat)(C A W H:SE):au:=
 (.loop (.ac (.i 0) (.ac C .an))
 (.aQ (.ok (.bin .lss 3 (.var n) (.len A)))
 (.test (.ok (.bin .lss 3 (.var n) (.len A)))
 (.bind (.idx 4 A (.var n))
 (.aQ (.qG 4 (.var (n+2)))
 (.call 95 af (.ac W (.ac (.var n) .an))
 (.aQ (.ok (.var (n+3)))
 (.aQ (.ok (.un .not (.ok (.var (n+3)))))
 (.test (.ok (.un .not (.ok (.var (n+3)))))
 (.bind (.cat 7 96 (.var (n+1)) (.tr 7 (.ac (.ac (.i 1) (.ac H (.ac (.var n) (.ac (.i 0) (.ac (.s []) (.ac (.tr 4 .an) (.ac (.tr 4 (.ac (.ac (.bt (.var (n+2)) 0) (.ac (.bt (.var (n+2)) 1) (.ac (.bt (.var (n+2)) 2) (.ac (.bt (.var (n+2)) 3) .an)))) .an)) .an))))))) .an)))
 (.aQ (.ok (.bin .add 3 (.var n) (.i 1)))
 (.next (k+1) (.ac (.ok (.bin .add 3 (.var n) (.i 1))) (.ac (.var (n+4)) .an)))))
 (.aQ (.ok (.bin .add 3 (.var n) (.i 1)))
 (.next (k+1) (.ac (.ok (.bin .add 3 (.var n) (.i 1))) (.ac (.var (n+1)) .an))))))))))
 (.next k (.ac (.var (n+1)) .an)))))
def tX(c n d:Nat)(φ E ρ:SE):au:=
 (.loop (.ac (.ok (.bin .sub 3 (.len (.bt (.var 5) 4)) (.i 1))) (.ac (.var c) φ))
 (.aQ (.ok (.bin .geq 3 (.var n) (.i 0)))
 (.test (.ok (.bin .geq 3 (.var n) (.i 0)))
 (.bind (.idx 3 E (.var n))
 (.aQ (.qG 3 (.var d))
 (.bind (.cat 7 96 (.var (n+1)) (.tr 7 (.ac (.ac (.i 9) (.ac (.i 0) (.ac (.i 0) (.ac (.bt (.var d) 0) (.ac (.bt (.var d) 1) (.ac (.bt (.var d) 2) (.ac (.tr 4 .an) .an))))))) .an)))
 (.aQ (.ok (.bin .sub 3 (.var n) (.i 1)))
 (.next 3 (.ac (.ok (.bin .sub 3 (.var n) (.i 1))) (.ac (.var (d+1)) ρ)))))))
 (.aQ (.rw (.bt (.var 2) 0))
 (.aQ (.rw (.bt (.var 5) 5))
 (.bind (.cat 7 96 (.var (n+1)) (.tr 7 (.ac (.ac (.i 10) (.ac (.bt (.var 2) 0) (.ac (.bt (.var 5) 5) (.ac (.i 0) (.ac (.s []) (.ac (.tr 4 .an) (.ac (.tr 4 .an) .an))))))) .an)))
 (.next 1 (.ac (.var d) .an))))))))
def Zl:au:=
 (.qH (jP cK (nw 15) 24 (qx 2 cK (nw 23) (zf 2 25 9 24 (lV 25) (p5 2 cK (nw 15) 2 26 26 (p5 2 cK (nw 23) 2 27 27 (.nx 3 (ph .eql (iX 26) (iX 27)) .an))) (.next 3 (kI eY))))) 1 (.test (.var 24) (Ms (nw 15) (nw 23) (CL 22 (ry (.i 4) (nw 15) (Ve (nw 23) 4)) (si 21 25))) (si 21 22)))
def cE6(F:SE):au:=
 (.qH
 (.aQ (.len (.ok (.var 25)))
 (tF 24 3)) 1
 (.next 1 (.ac F (.ac (.var 26) .an))))
def cE7(F:SE):au:=
 (.qH
 (.bind (.idx 2 (.ok (.var 6)) (.ok (.var 15)))
 (.aQ (.qG 2 (.var 24))
 (.aQ (.len (.bt (.var 24) 1))
 (mF 25 3 (.var 22) (.bt (.var 24) 1) (.ok (.var 23)) (.ok (.var 15)))))) 1
 (.aQ (.ok (.bin .add 3 (.var 12) (.i 2)))
 (.bind (.idx 1 (.bt (.var 2) 5) (.ok (.bin .add 3 (.var 12) (.i 2))))
 (.aQ (.ok (.var 25))
 (cE6 F)))))
def cE8(F:SE):au:=
 (.loop (.ac (.i 0) (.ac (.var 18) .an))
 (.aQ (.ok (.bin .lss 3 (.var 21) (.len (.ok (.var 20)))))
 (.test (.ok (.bin .lss 3 (.var 21) (.len (.ok (.var 20)))))
 (.bind (.idx 1 (.ok (.var 20)) (.var 21))
 (.aQ (.ok (.var 23))
 Zl))
 (.bind (.idx 1 (.bt (.var 2) 4) (.var 12))
 (.aQ (.ok (.var 23))
 (cE7 F))))))
def cE9(F:SE):au:=
 (.call 98 af (.ac (.ac (.bt (.var 0) 0) (.ac (.bt (.var 0) 1) .an)) (.ac (.ac (.bt (.var 2) 0) (.ac (.bt (.var 2) 1) (.ac (.bt (.var 2) 2) (.ac (.bt (.var 2) 3) (.ac (.bt (.var 2) 4) (.ac (.bt (.var 2) 5) .an)))))) (.ac (.var 12) .an)))
 (.aQ (.ok (.var 17))
 (.bind (.cat 7 96 (.var 14) (.tr 7 (.ac (.ac (.i 3) (.ac (.ok (.var 15)) (.ac (.ok (.var 16)) (.ac (.i 0) (.ac (.s []) (.ac (.tr 4 .an) (.ac (.ok (.var 17)) .an))))))) .an)))
 (.aQ (.rw (.bt (.var 2) 1))
 (.bind (.sub 1 (.bt (.var 2) 3) (.i 0) (.var 12))
 (.call 99 ab (.ac (.tr 1 (.ac (.tr 1 (.ac (.bt (.var 2) 1) .an)) (.ac (.var 19) .an))) .an)
 (.aQ (.ok (.var 20))
 (.aQ (.len (.ok (.var 20)))
 (cE8 F)))))))))
def Sx:au:=
 (.qH (pZ (CY 2) 12 15 (o6 97 (MI (ow (eB 2 2 2 2 2 2) 12)) (pY (nw 16) (nw 16) (cE9 (.i 13)) (cE9 (.var 13))))) 2 (wD 0 12 15 16))
def Sy:au:=
 (uI (ow nA 15) ek 16 ek (tH (.var 16) (CL 17 (r8 (.i 6) 16 FO) (si 16 18))) (BY AH (kc 101 (eB 5 5 5 5 5 5) 18 (nw 18) (My 17 7 FO (FG (wY 5 2) (FC ek 19 8 2 0 ek 4 (qa (tX 20 21 23 .an (.bt (.var 5) 4) .an))) (tX 19 20 22 .an (.bt (.var 5) 4) .an))) (FG (wY 5 2) (FC ek 17 8 2 0 ek 4 (qa (tX 19 20 22 .an (.bt (.var 5) 4) .an))) (tX 17 19 21 .an (.bt (.var 5) 4) .an))) (wY 5 2) (FC ek 17 8 2 0 ek 4 (qa (tX 18 19 21 .an (.bt (.var 5) 4) .an))) (qa (tX 17 18 20 .an (.bt (.var 5) 4) .an))))
def Sz:au:=
 (uI (ow nA 14) ek 15 ek (tH FM (CL 16 (r8 (.i 6) 15 FO) (si 15 17))) (BY AH (kc 101 (eB 5 5 5 5 5 5) 17 vn (My 16 7 FO (FG (wY 5 2) (FC ek 18 8 2 0 ek 4 (qa (tX 19 20 23 (.ac (.tr 7 (.ac (.ac (.i 7) (.ac (.i 0) (.ac (.i 0) (.ac (.i 0) (.ac (.s []) (.ac (.tr 4 .an) (.ac (.tr 4 .an) .an))))))) .an)) .an) (.bt (.var 5) 4) (.ac (.var 22) .an)))) (tX 18 19 22 (.ac (.tr 7 (.ac (.ac (.i 7) (.ac (.i 0) (.ac (.i 0) (.ac (.i 0) (.ac (.s []) (.ac (.tr 4 .an) (.ac (.tr 4 .an) .an))))))) .an)) .an) (.bt (.var 5) 4) (.ac (.var 21) .an)))) (FG (wY 5 2) (FC ek 16 8 2 0 ek 4 (qa (tX 18 19 22 (.ac (.tr 7 (.ac (.ac (.i 8) (.ac (.bt (.var 2) 0) (.ac (.len (.ok (.var 6))) (.ac (.i 0) (.ac (.s []) (.ac (.tr 4 .an) (.ac (.tr 4 .an) .an))))))) .an)) .an) (.bt (.var 5) 4) (.ac (.var 21) .an)))) (tX 16 18 21 (.ac (.bt (.var 5) 4) .an) (.var 20) (.ac (.var 20) .an)))) (wY 5 2) (FC ek 16 8 2 0 ek 4 (qa (tX 17 18 21 (.ac (.tr 7 (.ac (.ac (.i 8) (.ac (.bt (.var 2) 0) (.ac (.len (.ok (.var 6))) (.ac (.i 0) (.ac (.s []) (.ac (.tr 4 .an) (.ac (.tr 4 .an) .an))))))) .an)) .an) (.bt (.var 5) 4) (.ac (.var 20) .an)))) (qa (tX 16 17 20 (.ac (.bt (.var 5) 4) .an) (.var 19) (.ac (.var 19) .an)))))
def abD:au:=
 (.qH (yW I_ (wY 5 2) ek (.test (wY 5 2) (FC ek 14 5 2 0 ek 4 (.aQ nA Sy)) (.aQ nA Sz))) 1 (rz .neq 38 13 bB (Hu (ow (adV bB eY 7) 13)) (vo 15 15 200 7 6 2 0 2 1 15)))
def abE:au:=
 (xx (BW bB (o7 11)) 3 12 FJ Sx abD)
def abF:au:=
 (.qH (.aQ (kj 10) (tF 9 0)) 1 (.aQ FJ abE))
def abG:au:=
 (.qH (.aQ (kj 8) (tF 7 0)) 1 (yY 1 (wJ 2) gM 10 abF))
def abH:au:=
 (.qH (p5 2 cK vl 2 7 7 (mF 8 0 (.tr 7 .an) (.bt (.var 7) 1) (.tr 1 .an) (.bt (.var 2) 1))) 1 (yY 1 (wJ 2) bB 8 abG))
def atZ:au:=
 (zb (Em 6 2 (kc 31 gZ 3 cw (Mx 7 2) (p6 32 gZ (eB 2 2 2 2 2 2) 4 (fC cT (Mx 7 2) (qb ny 5 (oA 33 5 5 5 5 5 5 6 abH)))))))
def aDj:bG Z2 (dr [aP 1 11064 1000082 [] [(5,0)],aP 1 11064 1000074 [] [(5,0)],aP 0 11 1000051 [] [(5,0)],aP 0 11 1000045 [] [(5,0)],aP 0 11 1000039 [] [(5,0)],aP 0 11 1000066 [] [(5,0),(8,0)],aP 3 11067818000 1 [3] [(5,3),(5,0),(4,10),(8,3),(8,0)],aP 1 11067 7 [4] [(5,0),(4,10),(8,0)] [36,35,34,33,32,31,30,29,28,27,26,25,24,23,22,21,20,19,18,17,16,15,14,13,12,11,10,9,8,7],aP 0 11 9 [55] [(5,3),(5,0),(4,11),(4,10)] [53,52,51,50,49,48,47,46,45,44,43,42,41,40,39,38,37,36,35,34,33,32,31,30,29,28,27,26,25,24,23,22,21,19,18,17,16,15,14,13,12,11],aP 0 11 1000063 [] [(5,0),(4,11),(8,0)],aP 2 11064083 1 [8] [(5,0),(8,0)],aP 2 11064075 1 [17] [(5,0),(8,0)] [14,13,12,11,10,9,8],aP 1 11064 7 [52] [(5,0),(8,0)] [49,48,47,46,45,44,43,42,41,40,39,38,37,36,35,34,33,32,31,30,29,28,27,26,25,24,23,22,21,20,19,18,17,16,15,14],aP 1 11052 1 [8] [(5,3),(5,0),(4,10)],aP 1 11046 1 [8] [(5,3),(5,0),(4,10)],aP 1 11040 1 [17] [(5,3),(5,0),(4,10)] [14,13,12,11,10,9,8],aP 1 11064 1000059 [59]]) 11=atZ:=kr
def at0:au:=
 (wR 5 4 1 23 3 24 5 4 24 26 (wU 25 9 26 0 26 1 26 2 2 3 24 1 27) (wQ 25 10 2 0 4 (vo 26 26 200 7 6 2 0 2 1 26)))
def at1:au:=
 (wR 5 4 1 22 3 23 5 4 23 25 (wU 24 9 25 0 25 1 25 2 2 3 23 1 26) (wQ 24 10 2 0 4 (vo 25 25 200 7 6 2 0 2 1 25)))
def at2:au:=
 (wR 5 4 1 22 3 23 5 4 23 25 (wU 24 9 25 0 25 1 25 2 2 3 23 1 26) (wQ 24 10 2 0 4 (vo 25 25 200 7 6 2 0 2 1 25)))
def at3:au:=
 (wR 5 4 1 20 3 22 5 4 22 24 (wU 23 9 24 0 24 1 24 2 2 3 22 1 25) (wQ 23 10 2 0 4 (vo 24 24 200 7 6 2 0 2 1 24)))
def at4:au:=
 (wR 5 4 1 21 3 22 5 4 22 24 (wU 23 9 24 0 24 1 24 2 2 3 22 1 25) (wQ 23 10 2 0 4 (vo 24 24 200 7 6 2 0 2 1 24)))
def at5:au:=
 (wR 5 4 1 20 3 21 5 4 21 23 (wU 22 9 23 0 23 1 23 2 2 3 21 1 24) (wQ 22 10 2 0 4 (vo 23 23 200 7 6 2 0 2 1 23)))
def ahH:au:=
 (uI (ow nA 18) ek 19 ek (tH (.var 19) (CL 20 (r8 (.i 6) 19 FO) (fx 19 21))) (BY AH (kc 45 (eB 5 5 5 5 5 5) 21 (nw 21) (My 20 7 FO (FG vn (Jb ek ny ek (FA 22 8 2 0 ek 4 (qa at0))) at1)) (FG vn (Jb ek ny ek (FA 20 8 2 0 ek 4 (qa at2))) at3)) vn (Jb ek ny ek (FA 20 8 2 0 ek 4 (qa at4))) (qa at5)))
def at6:au:=
 (wR 5 4 1 22 3 23 5 4 23 25 (wU 24 9 25 0 25 1 25 2 2 3 23 1 26) (wQ 24 10 2 0 4 (vo 25 25 200 7 6 2 0 2 1 25)))
def at7:au:=
 (wR 5 4 1 21 3 22 5 4 22 24 (wU 23 9 24 0 24 1 24 2 2 3 22 1 25) (wQ 23 10 2 0 4 (vo 24 24 200 7 6 2 0 2 1 24)))
def aua:au:=
 (wR 5 4 1 21 3 22 5 4 22 24 (wU 23 9 24 0 24 1 24 2 2 3 22 1 25) (wQ 23 10 2 0 4 (vo 24 24 200 7 6 2 0 2 1 24)))
def ao0:au:=
 (wR 5 4 1 19 3 21 5 4 21 23 (wU 22 9 23 0 23 1 23 2 2 3 21 1 24) (wQ 22 10 2 0 4 (vo 23 23 200 7 6 2 0 2 1 23)))
def ao1:au:=
 (wR 5 4 1 20 3 21 5 4 21 23 (wU 22 9 23 0 23 1 23 2 2 3 21 1 24) (wQ 22 10 2 0 4 (vo 23 23 200 7 6 2 0 2 1 23)))
def ao2:au:=
 (wR 5 4 1 19 3 20 5 4 20 22 (wU 21 9 22 0 22 1 22 2 2 3 20 1 23) (wQ 21 10 2 0 4 (vo 22 22 200 7 6 2 0 2 1 22)))
def abI:au:=
 (uI (ow nA 16) ek 18 ek (tH (.var 18) (CL 19 (r8 (.i 6) 18 FO) (fx 18 20))) (BY AH (kc 45 (eB 5 5 5 5 5 5) 20 (nw 20) (My 19 7 FO (FG vn (Jb ek ny ek (FA 21 8 2 0 ek 4 (qa at6))) at7)) (FG vn (Jb ek ny ek (FA 19 8 2 0 ek 4 (qa aua))) ao0)) vn (Jb ek ny ek (FA 19 8 2 0 ek 4 (qa ao1))) (qa ao2)))
def abJ:au:=
 (uI (p_ 14) FJ 15 FJ (o6 42 (MI (ow (eB 2 2 2 2 2 2) 15)) (pY vn vn (Mx 7 13) (o6 2185 (MI (ow (eB 2 2 2 2 2 2) 15)) (pH 7 96 16 (.var 18) (CK 15 19))))) (tN 44 (eB 5 5 5 5 5 5) vn (Jb ek ny ek (FA 16 5 2 0 ek 4 (.aQ nA ahH))) (.aQ nA abI)))
def aub:au:=
 (zb (Em 6 2 (jO 9 gZ (qS 3) wM (Dj wM bB (Mx 7 2) (p6 38 gZ (eB 2 2 2 2 2 2) 4 (fC cT (Mx 7 2) (qb ny 5 (oA 39 5 5 5 5 5 5 6 (jP cK vl 7 (o6 2182 (uG (kM 7 7) 2 1 (kI AF)) (yY 1 (wJ 2) bB 9 (kq 2183 (eB 5 5 5 5 5 5) iD (pH 7 96 8 lF (yY 1 (wJ 2) gM 12 (kq 2183 (eB 5 5 5 5 5 5) vm (pH 7 96 11 AO abJ))))))))))))))))
def aDk:bG Z2 (dr [aP 0 12 27 [16] [(4,0)] [65,98,124,134],aP 0 12 19 [15] [(4,0)] [65,98],aP 0 12 10 [13] [(4,0)] [65]]) 12=aub:=kr
def Gd(g:Gl):In:=⟨9,0,0,g,[]⟩
def GU(n v:Int):In:=⟨10,n,v,eR,[]⟩
def vy(n m:Int):In:=⟨8,n,m,eR,[]⟩
def zq:In:=⟨7,0,0,eR,[]⟩
def qZ(gs:aj Gl):aj In:=(gs.map Gd).reverse
def q0(gs:aj Gl)(m:Nat):aj In:=qZ (gs.drop m)
def abK(gs:aj Gl):q0 gs 0=qZ gs:=rfl
def ae5(gs:aj Gl):q0 gs gs.length=[]:=by simp[q0,qZ]
def aHh(h:m<gs.length):q0 gs m=q0 gs (m+1)++[Gd gs[m]]:=by
 unfold q0 qZ;rw[UQ h,ZM,List.reverse_cons]
def Ge(gs:aj Gl)(m:Nat):(q0 gs m).length<=gs.length:=by
 unfold q0 qZ;simp
def kz(o:Oc)(c:aj In):IV:=.agg [iI o.r,iI o.h,iB o.k,cP c]
def Ar{c d:Nat}{φ E ρ:SE}{w:aj IV}{u0 u1 u2 u3:IV}(hw:w=[]/\d=n+2\/(∃y,w=[y])/\d=n+3)(x:Pn)(r:Rl)(hX:lA Z2 O φ=aa w)(hE:∀a b I,E.den Z2 (O++(a::b::(w++I)))=aa (gw r.bC))(hY:∀a b I,lA Z2 (O++(a::b::(w++I))) ρ=aa w)
 (hb:r.bC.length<=6)(code:aj In)(hl:code.length<=5000)(h2:O[2]?=aa (bT x))(h5:O[5]?=aa (.agg [u0,u1,u2,u3,gw r.bC,iI r.vars]))(hc:O[c]?=aa (cP code))(hn:O.length=n)(hQ:k1 [cP (code++qZ r.bC++[GU x.o.r r.vars])]):
 (tX c n d φ E ρ).sat Z2 CC Q [k0,k1,k2] O:=by
 subst hn;rw[bT.eq_1 x]at h2;have a2:=λI=>wo (I:=I) h2;have a5:=λI=>wo (I:=I) h5;have g2:=λI (h:2<(O++I).length)=>EB h (a2 I);have g5:=λI (h:5<(O++I).length)=>EB h (a5 I);unfold tX;refine fg (λ(m:Nat)=>iI ((m:Int) - 1)::cP (code++q0 r.bC m)::w) (λm=>m<=r.bC.length) (λm=>m) r.bC.length ?_ (XS _) λm hm=>?_
 .simp[-Z8,fW,h5,hc,hX,F4 (show r.bC.length<=1000 by omega),ae5,aw]
 rcases m with _|m
 .have Zm:=gF (a:=code++q0 r.bC 0) (i:=GU x.o.r r.vars) (by have:=Ge r.bC 0;rw[UR];omega);rw[abK]at*
  generalize code++qZ r.bC++[GU x.o.r r.vars]=C1 at*
  generalize code++qZ r.bC=C at*
  rcases hw with⟨rfl,rfl⟩|⟨⟨y,rfl⟩,rfl⟩
  all_goals
   simp[-Z8,fW,a2,a5,g2,g5,F8,YY,aw,aZ,aD];exact⟨_,Zm,by simpa[F8,ml]using hQ⟩
 .have hmb:m<r.bC.length:=ak;have hG:=sj hmb;have DO:QY.wrap ((m:Int) - 1)=(m:Int) - 1:=eU ak ak;have Zm:=gF (a:=code++q0 r.bC (m+1)) (i:=Gd r.bC[m]) (by have:=Ge r.bC (m+1);rw[UR];omega);rw[ZZ,<-aHh hmb]at Zm;have tq:((m+1:Nat):Int) - 1=(m:Int):=ak;simp only[tq];generalize code++q0 r.bC (m+1)=C1 at*
  have hE0:=hE (iI m) (cP C1) [];have hY0:=hY (iI m) (cP C1);rcases hw with⟨rfl,rfl⟩|⟨⟨y,rfl⟩,rfl⟩
  all_goals
   simp only[Qy,Z_,List.cons_append]at hE0 hY0;simp[-Z8,fW,F8,YY,hE0,hY0,hG,DO,aw,aD,Nat.add_assoc];exact⟨_,Zm,.mk m rfl ak ak⟩
def B_(n:Int):In:=⟨6,n,0,eR,[]⟩
def qg(n m:Int):In:=⟨5,n,m,eR,[]⟩
def lW(kl m:Nat):aj In:=(List.range (m- kl)).map λ(j:Nat)=>B_ ((kl+j:Nat):Int)
def LH(kl:Nat):lW kl kl=[]:=by simp[lW]
def EF(kl m:Nat):(lW kl m).length=m- kl:=by simp[lW]
def Gf{kl:Nat}(h:kl<=m):lW kl (m+1)=lW kl m++[B_ m]:=by
 unfold lW;rw[show m+1- kl=(m- kl)+1 by omega,List.range_succ,Nj];simp only[ZM,Wk];rw[show kl+(m- kl)=m by omega]
def pw(b:Bool):aj In:=if b then[zq]else[]
def qi(b:Bool)(n m:Int):aj In:=if b then[vy n m]else[]
def nI(x:Pn)(r:Rl)(code:aj In):aj In:=
 code++lW r.aA.length (r.aA++r.aC).length++pw (x.o.k&& !gl (j9 r) r.bC)++qi (decide (r.aC=[])) x.o.r (r.aA++r.aC).length++qZ r.bC++[GU x.o.r r.vars]
def auc(x:Pn)(r:Rl)(h:iF r)(hn:pB r)(hf:gy r)(hz:zH r)(pz:r.aC=[])(code:aj In)(hl:code.length<=1000)(hQ:k1 [cP (nI x r code)]):
 StQ Sy Q [k0,k1] [x0,x1,bT x,x3,x4,cy r,db (r.aA++r.aC),x7,x8,x9,ey,eZ,iW,gW,lT,cP code]:=by
 obtain⟨⟨o1,o2,o3⟩,od,kn,te⟩:=x;have hN:bT ⟨⟨o1,o2,o3⟩,od,kn,te⟩=.agg [iI o1,iI o2,iB o3,iL od,eQ kn,eQ te]:=rfl;have pR:=WV r h hn hf;have hb:=h.b;have DV:=h.h;have bf:(r.aA++r.aC).length=r.aA.length+r.aC.length:=UR
 have JO:(r.aC.length:Int)=0:=by
  rw[pz];rfl
 unfold nI at hQ;rw[decide_eq_true pz]at hQ;rw[bQ]at pR;rw[hN,bQ];generalize gl (j9 r) r.bC=ib at*
 generalize r.aA++r.aC=hs at*
 unfold Sy;refine fg (λ(m:Nat)=>[iI m,cP (code++lW r.aA.length m)]) (λm=>r.aA.length<=m/\m<=hs.length) (λm=>hs.length- m) r.aA.length ?_ ⟨XS _,ak⟩ λm hm=>?_
 .simp[-Z8,fW,LH]
 obtain⟨tq,O8⟩:=hm;have py:=EF r.aA.length m;by_cases aq:m<hs.length
 .have hw:=aS aq ak;have hc:=gF (a:=code++lW r.aA.length m) (i:=B_ m) (by rw[UR];omega);rw[ZZ,<-Gf tq]at hc;generalize code++lW r.aA.length m=C1 at*
  simp[-Z8,fW,aq,hw,aZ,aD,aw];exact⟨_,hc,.mk (m+1) rfl ⟨ak,ak⟩ ak⟩
 .have vZ:m=hs.length:=ak;subst vZ;have Uy:(code++lW r.aA.length hs.length).length<=2000:=by rw[UR];omega
  generalize code++lW r.aA.length hs.length=C at*
  cases o3 with
  |false=>
   simp[-Z8,fW,pz,aZ,aD,aw];exists _,gF (a:=C) (i:=vy o1 hs.length) J_;simp only[pw,qi,YI,Pb,X3,V_,T8,TN,if_true,if_false,Z_,reduceCtorEq,W8]at hQ;exact Ar (c:=18) (.inl ⟨rfl,rfl⟩) ⟨⟨o1,o2,af⟩,od,kn,te⟩ r rfl (λ_ _ _=>rfl) (λ_ _ _=>rfl) hb _ J_ rfl rfl rfl rfl hQ
  |true=>
   simp[-Z8,fW,aw];exists _,pR;cases ib with
   |false=>
    simp[-Z8,fW,pz,aZ,aD,aw];exists _,gF (a:=C) (i:=zq) J_;have lO:C.length+1<=2001:=ak;generalize HJ:C++[zq]=C1 at*
    have aDl:C1.length<=2001:=by rw[<-HJ];simp;omega
    exists _,gF (a:=C1) (i:=vy o1 hs.length) J_;simp only[pw,qi,YI,Pb,X3,V_,T8,TN,if_true,if_false,Z_,reduceCtorEq,W8,HJ]at hQ;exact Ar (c:=20) (.inl ⟨rfl,rfl⟩) ⟨⟨o1,o2,ab⟩,od,kn,te⟩ r rfl (λ_ _ _=>rfl) (λ_ _ _=>rfl) hb _ J_ rfl rfl rfl rfl hQ
   |true=>
    simp[-Z8,fW,pz,aZ,aD,aw];exists _,gF (a:=C) (i:=vy o1 hs.length) J_;simp only[pw,qi,YI,Pb,X3,V_,T8,TN,if_true,if_false,Z_,reduceCtorEq,W8]at hQ;exact Ar (c:=19) (.inl ⟨rfl,rfl⟩) ⟨⟨o1,o2,ab⟩,od,kn,te⟩ r rfl (λ_ _ _=>rfl) (λ_ _ _=>rfl) hb _ J_ rfl rfl rfl rfl hQ
def aud(x:Pn)(r:Rl)(h:iF r)(hn:pB r)(hf:gy r)(hz:zH r)(pz:r.aC≠[])(code:aj In)(hl:code.length<=1000)(hQ:k1 [cP (nI x r code)]):
 StQ Sz Q [k0,k1] [x0,x1,bT x,x3,x4,cy r,db (r.aA++r.aC),x7,x8,x9,ey,eZ,iW,gW,cP code]:=by
 obtain⟨⟨o1,o2,o3⟩,od,kn,te⟩:=x;have hN:bT ⟨⟨o1,o2,o3⟩,od,kn,te⟩=.agg [iI o1,iI o2,iB o3,iL od,eQ kn,eQ te]:=rfl;have pR:=WV r h hn hf;have hb:=h.b;have DV:=h.h;have bf:(r.aA++r.aC).length=r.aA.length+r.aC.length:=UR
 have JO:¬(r.aC.length:Int)=0:=by
  intro h0;exact pz (List.eq_nil_of_length_eq_zero ak)
 unfold nI at hQ;rw[decide_eq_false pz]at hQ;rw[bQ]at pR;rw[hN,bQ];generalize gl (j9 r) r.bC=ib at*
 generalize r.aA++r.aC=hs at*
 unfold Sz;refine fg (λ(m:Nat)=>[iI m,cP (code++lW r.aA.length m)]) (λm=>r.aA.length<=m/\m<=hs.length) (λm=>hs.length- m) r.aA.length ?_ ⟨XS _,ak⟩ λm hm=>?_
 .simp[-Z8,fW,LH]
 obtain⟨tq,O8⟩:=hm;have py:=EF r.aA.length m;by_cases aq:m<hs.length
 .have hw:=aS aq ak;have hc:=gF (a:=code++lW r.aA.length m) (i:=B_ m) (by rw[UR];omega);rw[ZZ,<-Gf tq]at hc;generalize code++lW r.aA.length m=C1 at*
  simp[-Z8,fW,aq,hw,aZ,aD,aw];exact⟨_,hc,.mk (m+1) rfl ⟨ak,ak⟩ ak⟩
 .have vZ:m=hs.length:=ak;subst vZ;have Uy:(code++lW r.aA.length hs.length).length<=2000:=by rw[UR];omega
  generalize code++lW r.aA.length hs.length=C at*
  cases o3 with
  |false=>
   simp[-Z8,fW,pz,aZ,aD,aw];simp only[pw,qi,YI,Pb,X3,V_,T8,TN,if_true,if_false,Z_,reduceCtorEq,W8]at hQ;exact Ar (c:=16) (.inr ⟨⟨_,rfl⟩,rfl⟩) ⟨⟨o1,o2,af⟩,od,kn,te⟩ r rfl (λ_ _ _=>rfl) (λ_ _ _=>rfl) hb _ J_ rfl rfl rfl rfl hQ
  |true=>
   simp[-Z8,fW,aw];exists _,pR;cases ib with
   |false=>
    simp[-Z8,fW,pz,aZ,aD,aw];exists _,gF (a:=C) (i:=zq) J_;simp only[pw,qi,YI,Pb,X3,V_,T8,TN,if_true,if_false,Z_,reduceCtorEq,W8]at hQ;exact Ar (c:=18) (.inr ⟨⟨_,rfl⟩,rfl⟩) ⟨⟨o1,o2,ab⟩,od,kn,te⟩ r rfl (λ_ _ _=>rfl) (λ_ _ _=>rfl) hb _ J_ rfl rfl rfl rfl hQ
   |true=>
    simp[-Z8,fW,pz,aZ,aD,aw];simp only[pw,qi,YI,Pb,X3,V_,T8,TN,if_true,if_false,Z_,reduceCtorEq,W8]at hQ;exact Ar (c:=16) (.inr ⟨⟨_,rfl⟩,rfl⟩) ⟨⟨o1,o2,ab⟩,od,kn,te⟩ r rfl (λ_ _ _=>rfl) (λ_ _ _=>rfl) hb _ J_ rfl rfl rfl rfl hQ
def QN(hs:aj At)(x:Pn)(k:Nat):At:=((x.bj[k]?).bind λv=>hs[v.toNat]?).getD ⟨[],[]⟩
def zr(hs:aj At)(ax:aj Ac)(x:Pn)(k:Nat):Int:=nR ax ⟨(QN hs x k).s,(QN hs x k).ts.length,x.jJ.getD k []⟩
def w7(hs:aj At)(gs:aj Gl)(ax:aj Ac)(x:Pn)(k:Nat):aj In:=nH hs gs ax x k (x.bj.getD k 0) (QN hs x k) (x.jJ.getD k []) (x.jg.getD (k+2) [])
def iG(hs:aj At)(gs:aj Gl)(ax:aj Ac)(x:Pn)(base:aj In):Nat->aj In
 |0=>base
 |k+1=>iG hs gs ax x base k++w7 hs gs ax x k
def oD(r:Rl)(x:Pn):aj In:=cZ x.o.h [] (gB (r.aA++r.aC) x.o.h) 0++cW r.aL (x.jg.getD 0 [])++cW r.aL (x.jg.getD 1 [])
def wv(x:Pn)(r:Rl)(code:aj In):aj In:=if r.aC=[]then code++[qg x.o.r (r.aA++r.aC).length]else code
def l9(r:Rl)(ax:aj Ac)(x:Pn):aj In:=nI x r (wv x r (iG (r.aA++r.aC) r.aL ax x (oD r x) x.bj.length))
structure Good(p:Pg)(x:Pn)(i m:Nat)(r:Rl):Prop where
 oc:pJ p x.o i m r
 part:∀k<x.bj.length,∃n a ps te,Dq p x k i n r a ps te/\a.ts.length<=8/\te.length<=6
 t:∃t0 t1,x.jg[0]?=aa t0/\x.jg[1]?=aa t1/\t0.length<=6/\t1.length<=6/\vw r.aL.length t0/\vw r.aL.length t1
 ol:x.bj.length<=3
variable{p:Pg}{ps te:aj Int}{x:Pn}
def SA(h:Dq p x k i n r a ps te):
 QN (r.aA++r.aC) x k=a/\x.bj.getD k 0=n/\x.jJ.getD k []=ps/\x.jg.getD (k+2) []=te:=by
 have h1:=h.h.od;have h2:=h.h.hd;have h3:=h.h.kn;have h4:=h.t;refine⟨?_,?_,?_,?_⟩
 .unfold QN;rw[h1,Z8,show((n:Int)).toNat=n from rfl,h2];rfl
 .rw[Xg,h1];rfl
 .rw[Xg,h3];rfl
 .rw[Xg,h4];rfl
def Gg(h:Dq p x k i n r a ps te)(ax:aj Ac):
 zr (r.aA++r.aC) ax x k=nR ax ⟨a.s,a.ts.length,ps⟩:=by
 obtain⟨h1,h2,h3,h4⟩:=SA h;unfold zr;rw[h1,h3]
def uT(h:Dq p x k i n r a ps te)(ax:aj Ac):
 w7 (r.aA++r.aC) r.aL ax x k=nH (r.aA++r.aC) r.aL ax x k n a ps te:=by
 obtain⟨h1,h2,h3,h4⟩:=SA h;unfold w7;rw[h1,h2,h3,h4]
variable{ax:aj Ac}
def aIb{n:Int}:(nH hs gs ax x k n a ps te).length<=2+x.bj.length+a.ts.length+te.length:=by
 unfold nH;have h1:=zp hs n a (x.o.h::x.bj.take k);have h2:=su n ps a.ts 0;rw[Zx,UR,UR];have h3:(cW gs te).length=te.length:=by simp[cW]
 rw[Zx,PY]at h1;omega
def Gh(hg:Good p x i m r)(ax:aj Ac)(base:aj In):∀k,k<=x.bj.length->(iG (r.aA++r.aC) r.aL ax x base k).length<=base.length+30*k
 |0,_=>by simp[iG]
 |k+1,hk=>by
  have ih:=Gh hg ax base k ak;obtain⟨n,a,ps,te,h1,h2,h3⟩:=hg.part k ak;have hl:=hg.ol;rw[iG,UR,uT h1 ax];have:=aIb (hs:=r.aA++r.aC) (gs:=r.aL) (ax:=ax) (x:=x) (k:=k) (n:=n) (a:=a) (ps:=ps) (te:=te);omega
def JC(vs:aj Int):∀(ts:aj Tm) (i:Nat),(qB vs ts i).length<=ts.length
 |[],_=>by simp[qB]
 |t::ts,i=>by
  have:=JC vs ts (i+1);rw[qB,UR,Zx];unfold Ur;split<;>simp<;>omega
def LI(h:∀a∈hs,a.ts.length<=8):∀(vs doneZQ:aj Int),∀l∈eA hs doneZQ vs,l.length<=8
 |[],_,l,hl=>by simp[eA]at hl
 |v::vs,doneZQ,l,hl=>by
  rw[eA]at hl;rcases ZP.1 hl with rfl|hl
  .unfold gm;exact Nat.le_trans (JC _ _ _) (akj h)
  .exact LI h vs _ l hl
def aIA{doneZQ:aj Int}:∀l∈dV hs gs doneZQ,l.length<=gs.length/\vw gs.length l:=by
 intro l hl
 have aue:∀p:Gl->Bool,(iK p gs 0).length<=gs.length/\vw gs.length (iK p gs 0):=λp=>⟨aHS p gs 0,λv hv=>by
  have:=acO gs 0 hv;omega⟩
 unfold dV at hl;rcases ZP.1 hl with rfl|hl
 .exact aue _
 .obtain⟨k,_,rfl⟩:=Z6.1 hl;exact aue _
def SB(hp:f_ p)(h:pJ p x.o i m r)(hr:wu p x=ab):Good p x i m r:=by
 rw[BF h,VM,decide_eq_true_eq]at hr;obtain⟨h1,h2⟩:=hr;obtain⟨h3,h4⟩:=MV h1;obtain⟨hi,gQ⟩:=Z5.1 h.ru;have dE:r∈p.aX:=gQ▸Z4 hi;have hs:=hp.rs r dE;have Ba:=hs.h;rw[<-UR]at Ba;have hg6:=hs.g;have sD:x.jJ=eA (r.aA++r.aC) [x.o.h] x.bj:=by rw[h2];rfl
 have hte:x.jg=dV (r.aA++r.aC) r.aL (x.o.h::x.bj):=by rw[h2];rfl
 have gR:x.jJ.length=x.bj.length:=by rw[sD,Jz]
 have Cq:x.jg.length=x.bj.length+2:=by rw[hte,qf];simp
 have akw:∀l∈x.jg,l.length<=r.aL.length/\vw r.aL.length l:=by rw[hte];exact aIA
 have ov:pq (r.aA++r.aC).length (x.o.h::x.bj):=by
  intro v hv;rcases ZP.1 hv with rfl|hv
  .have:=h.lt;rw[h.oh];omega
  .exact h3 v hv
 refine⟨h,λk hk=>?_,?_,ak⟩
 .obtain⟨v0,v1⟩:=h3 _ (Z4 hk);have aq:x.bj[k].toNat<(r.aA++r.aC).length:=ak;have q8:k<x.jJ.length:=ak;have wm:k+2<x.jg.length:=ak;have hto:=akw _ (Z4 wm);have hko:x.jJ[k].length<=8:=LI hs.hs _ _ _ (by rw[<-sD];exact Z4 q8);refine⟨x.bj[k].toNat,_,_,_,⟨⟨h.or,h.ru,?_,UN aq,UN q8⟩,UN wm,ak,ak,hto.2,ov,ak⟩,hs.hs _ (Z4 aq),ak⟩;rw[UN hk]
  congr 1;omega
 .have h0:0<x.jg.length:=ak;have h1:1<x.jg.length:=ak;have a0:=akw _ (Z4 h0);have a1:=akw _ (Z4 h1);exact⟨_,_,UN h0,UN h1,ak,ak,a0.2,a1.2⟩
def auf:aj Nat:=Qr++[44,268,192,154,227,33,212,85,155,233,199,164,230,194,166,204,280]
def aug:aj Nat:=Ir++[251,172,178,231,214]
def auh:aj Nat:=[201]
def aui:aj Nat:=[185,247,209,500195,500196]
def amW(l:aj Hint):fz:=⟨auf,aug,auh,l++[],aui⟩
def ahI:au:=
 (yM 6 gL (.nr (FE gL 0)))
def azl:bG Z2 (amW []) 44=ahI:=kr
def ahJ:au:=
 (yM 6 gL (.nr (FE gL 0)))
def azm:bG Z2 (amW []) 212=ahJ:=kr
def aDm(r:Rl):CC 44 af [cy r] (iB (decide (r.aC=[]))):=by
 refine CC.of azl kr kr (by simpa using fO r) az ?_;simp[ahI,UU,cy,aw];rw[Ts];simp
def aDn(r:Rl):CC 212 af [cy r] (iB (decide (r.aC=[]))):=by
 refine CC.of azm kr kr (by simpa using fO r) az ?_;simp[ahJ,UU,cy,aw];rw[Ts];simp
def xU.form{ds:aj De}(h:xU ds r)(hn:pB r):gy r:=
 ⟨λa ha t ht=>⟨oM.wf t ((hn.hs a ha).2.2 t ht),EA (h.hs a ha) t ht⟩,λg hg=>⟨(Aj (h.gs g hg)).1,λt ht=>⟨oM.wf t ((hn.gs g hg).2.2 t ht),(Aj (h.gs g hg)).2 t ht⟩⟩⟩
def aci(p:Pg)(ax:aj Ac)(x:Pn):∀y∈[bc p,dC ax,bT x],Pure y:=by
 intro y hy;rcases ZP.1 hy with rfl|hy
 .exact cz p
 rcases ZP.1 hy with rfl|hy
 .simp
 obtain rfl:=Z3.1 hy;exact qc x
def azn:aj Nat:=Vp
def aDo:aj Nat:=X9
def aDp:aj Nat:=RX
def aDq:aj Nat:=RY
def azo(l:aj Hint):fz:=⟨azn,aDo,aDp,l++[⟨999997,0,0,[],[],[],[]⟩,⟨999999,0,0,[],[],[],[]⟩],aDq⟩
def SC:au:=
 (sg wL 4 dQ bS 4 (fE cK (.rws cK) (pH 1 8 5 cK (fx 4 7))) I4)
def ao3:au:=
 (sg wL 3 dQ bS 3 (fE cS (.rws cS) (pH 1 8 4 cS (fx 3 6))) FF)
def abL:au:=
 (sg (I0 bB) 1 dQ bS 1 (Dh cw (pY (FN js) (FN js) (.fail 146) (sb 0 1 (FN js)))) (rz .lss 3 2 bB (.fail 146) (Qj (wE 2 0) (wE 2 0) (.bind (.dec 8 (wE 2 0) (.k .i64 0)) (fE (.idx 1 kO bB) dQ SC)) (.aQ dQ ao3))))
def aeR:au:=
 (CM dQ abL)
def azp:jc Z2 (azo [aP 0 99 11 [6,27] [(0,0)] [24],aP 0 99 3 [3,11]]) 400 ab 99=aeR:=kr
variable{C:Cr}{k':aj IV->Prop}{ks:aj (aj IV->Prop)}{BC Cv HE:IV}
def amX{C A W H:SE}(h:Int)(a:At)(eG:a.ts.length<=8)(code:aj In)(hl:code.length<=1000)(ps:aj Int)(nf:Sm ps)(hn:O.length=n)(gR:ks.length=k+1)(iR:ks[k]?=aa k')(hC:C.den Z2 O=aa (cP code))(hA:∀I,A.den Z2 (O++I)=aa (iT a.ts))(hW:∀I,W.den Z2 (O++I)=aa (iL ps))(hH:∀I,H.den Z2 (O++I)=aa (iI h))
 (hk:k' [cP (code++cZ h ps a.ts 0)]):(mF n k C A W H).sat Z2 CC Q ks O:=by
 subst hn;unfold mF;refine aJ a.ts.length (λi (q:aj In)=>[iI i,cP (code++q)]) (λi q=>q++cZ h ps (a.ts.drop i) i=cZ h ps a.ts 0/\q.length<=i) [] ?_ az λi q hi hI=>?_
 .simp[-Z8,fW,hC]
 have lO:∀x,(ks++[x])[k]?=aa k':=λx=>by rw[VJ ak,iR]
 have q8:∀x,(ks++[x])[k+1]?=aa x:=λx=>by rw[<-gR];simp
 obtain⟨hI,ED⟩:=hI;by_cases aq:i<a.ts.length
 .have hw:=aS aq ak;have h95:=(Vz ps (i:Int) nf).aez (tQ rfl);rw[Gc aq]at hI;have hc:=gF (a:=code++q) (i:=⟨1,h,i,eR,[a.ts[i]]⟩) (by rw[UR];omega);have hT:=iJ aq;rw[bL]at hT
  have sK:dG 7 96 (cP (code++q)) (.tree 7 [.agg [iI 1,iI h,iI i,iI 0,iS [],iT [],.tree 4 [.agg [iI a.ts[i].k,iI a.ts[i].n,iS a.ts[i].s,iT a.ts[i].ts]]]])=aa (cP (code++(q++[⟨1,h,i,eR,[a.ts[i]]⟩]))):=by
   rw[<-ZZ,<-hc,<-bL];rfl
  clear hc;generalize HJ:code++(q++[(⟨1,h,i,eR,[a.ts[i]]⟩:In)])=C1 at*
  generalize hC0:code++q=C0 at*
  simp[-Z8,fW,F8,YY,hA,hW,hH,q8,aq,hw,hT,aD,aw];refine⟨_,h95,?_⟩;by_cases e:(i:Int)∈ps
  .rw[aW e,Qy]at hI;simp[-Z8,fW,F8,e,aw];exact .mk q (by rw[hC0];rfl) ak ⟨hI,ak⟩
  .rw[aY e]at hI;simp[-Z8,fW,F8,hH,e,aD,aw];exact⟨_,sK,by simpa[fW,F8]using .mk (q++[⟨1,h,i,eR,[a.ts[i]]⟩]) (by rw[HJ];rfl) ak ⟨by rw[<-hI];simp,eE⟩⟩
 .rw[ZX ak,cZ,Z_]at hI;subst hI;generalize code++cZ h ps a.ts 0=C at*
  simp[-Z8,fW,F8,YY,hA,lO,aq,aD,aw];exact hk
def aeS(r:Rl)(l:aj Int)(QC:l.length<=1000)(hv:vw r.aL.length l)(code:aj In)(hl:code.length<=1000)(hn:O.length=n)(h5:O[5]?=aa (cy r))(gR:ks.length=k+1)(iR:ks[k]?=aa k')(hk:k' [cP (code++cW r.aL l)]):
 (tF n k).sat Z2 CC Q ks (O++[cP code,iL l]):=by
 subst hn;rw[bQ]at h5;have a5:=λI=>wo (I:=I) h5;have g5:=λI (h:5<(O++I).length)=>EB h (a5 I);have lO:∀x,(ks++[x])[k]?=aa k':=λx=>by rw[VJ ak,iR]
 have q8:∀x,(ks++[x])[k+1]?=aa x:=λx=>by rw[<-gR];simp
 unfold tF;refine aJ l.length (λi (_:Unit)=>[iI i,cP (code++cW r.aL (l.take i))]) (λ_ _=>True) () ?_ trivial λi _ hi _=>?_
 .simp[-Z8,fW,F8,YY,cW]
 have ED:(cW r.aL (l.take i)).length<=1000:=by simp[cW];omega
 by_cases aq:i<l.length
 .have hw:=aS aq ak;obtain⟨v0,v1⟩:=hv _ (Z4 aq);have mB:l[i]=((l[i].toNat:Nat):Int):=ak;have cR:l[i].toNat<r.aL.length:=ak;have hG:=sj cR;rw[<-mB]at hG;have bI:=aeg (gs:=r.aL) aq;rw[UN cR,Tb]at bI;have hc:=gF (a:=code++cW r.aL (l.take i)) (i:=⟨2,0,0,r.aL[l[i].toNat],[]⟩) (by rw[UR];omega);rw[ZZ,<-bI]at hc;generalize HJ:code++cW r.aL (l.take (i+1))=C1 at*
  generalize code++cW r.aL (l.take i)=C0 at*
  have hL:=jf aq;generalize l[i]=v at*
  simp[-Z8,fW,F8,YY,a5,g5,q8,aq,hw,hL,hG,aD,aw];exact⟨_,hc,by simpa[fW,F8]using .mk () (by rw[HJ];rfl) ak trivial⟩
 .have Fc:i=l.length:=ak;rw[Fc,Wc];generalize code++cW r.aL l=C at*
  simp[-Z8,fW,F8,YY,lO,aD,aw];exact hk
def azq(ls:aj (aj Int))(hl:ls.length<=1000)(hf:ls.flatten.length<=100000):
 StQ SC (Ai (·=ls.flatten)) [k0] [eQ ls,x1,x2,x3]:=by
 unfold SC;refine aJ ls.length (λi (a:aj Int)=>[iI i,iL a]) (λi a=>a=(ls.take i).flatten) [] ?_ az λi a hi hI=>?_
 .simp[UU]
 by_cases aq:i<ls.length
 .have hw:=aS aq ak;have Ro:=Sj ls (i+1);have ht:=aG7 aq;rw[ht,<-hI,UR]at Ro;rw[<-hI]at ht;have hc:=By (a:=a) (b:=ls[i]) ak;simp[UU,aq,hw,ag3 aq,hc, -QM];exact⟨λ_ _ x hx=>by simp[aD]at hx;subst hx;rfl,.mk _ rfl ak ht.symm⟩
 .have he:i=ls.length:=ak;subst he;rw[Wc]at hI;subst hI;generalize ls.flatten=q at*
  simp[UU]
def auj(ls:aj (aj Int))(hl:ls.length<=1000)(hf:ls.flatten.length<=100000)(hp:ls.flatten≠[]):StQ aeR (Ai (·=ls.flatten)) [] [eQ ls]:=by
 simp only[aeR,Ot,UU,List.getElem?_cons_zero,Z8,ajx];exists ⟨_,rfl⟩,⟨_,rfl⟩;unfold abL;refine aJ ls.length (λi (a:Int)=>[iI i,iI a]) (λi a=>a=((ls.take i).flatten.length:Int)) 0 ?_ az λi a hi hI=>?_
 .simp[UU]
 have hle:=Sj ls i;by_cases aq:i<ls.length
 .have hw:=aS aq ak;have Ro:=Sj ls (i+1)
  have ht:((ls.take (i+1)).flatten.length:Int)=a+(ls[i].length:Int):=by
   rw[aG7 aq,UR,hI];omega
  have JQ:QY.wrap (a+(ls[i].length:Int))=a+(ls[i].length:Int):=eU ak ak;have hnn:¬a+(ls[i].length:Int)<0:=ak;simp[UU,aq,hw,ag3 aq,JQ,hnn, -QM];exact .mk _ rfl ak ht.symm
 .have he:i=ls.length:=ak;subst he;rw[Wc]at hI;have s_:0<ls.flatten.length:=List.length_pos_iff.2 hp;have hnn:¬a<0:=ak;have hw:QY.wrap a=a:=eU ak ak;have VQ:0<a:=ak
  have aDr:(Xp a.toNat (IV.raw (P3 QY 0)))[0]?=aa (iI 0):=by
   rw[List.getElem?_replicate,aW ak]
  have eW:cu 1 (.tree 1 (Xp a.toNat (iI 0))) (iI 0)=aa (iI 0):=cM (i:=0) aDr rfl;simp[UU,aq,hw,hnn,VQ,kS, -QM];exact⟨_,⟨⟨ak,ak,rfl⟩,rfl⟩,⟨_,eW⟩,azq ls hl hf⟩
def k99(ls:aj (aj Int))(hl:ls.length<=1000)(hf:ls.flatten.length<=100000)(hp:ls.flatten≠[]):CC 99 ab [eQ ls] (iL ls.flatten):=
 CC.w6 azp kr (λ_=>kr) (by simpa using Eu ls) cE (auj ls hl hf hp)
def azr(n j:Nat)(hj:j<1000)(a:At)(ha:hs[n]?=aa a)(e:Int)(he:0<=e/\e<hs.length)(C:aj In)(Uy:C.length<=1000)(hk:k2 [iI (j+1:Nat),cP (C++nY hs n a e)]):
 Zl.sat Z2 CC Q [k0,k1,k2] [x0,x1,x2,x3,x4,x5,db hs,x7,x8,x9,ey,eZ,iW,gW,lT,iI n,nX,tT,Cv,tU,BC,iI j,cP C,iI e]:=by
 obtain⟨hn,F9⟩:=Z5.1 ha;have hA:=lI hn;rw[F9]at hA;have mB:e=((e.toNat:Nat):Int):=ak;have cR:e.toNat<hs.length:=ak;have hB:=lI cR;rw[<-mB]at hB;have hw:=aS hj ak
 have hap:nY hs n a e=if hs[e.toNat].s=a.s/\hs[e.toNat].ts.length=a.ts.length then[⟨4,n,e,eR,[]⟩]else[]:=by
  unfold nY;rw[UN cR]
 have hc:=gF (a:=C) (i:=⟨4,n,e,eR,[]⟩) ak;rw[hap]at hk;generalize hs[e.toNat]=b at*
 unfold Zl;refine jI (λvs=>vs=[iB (decide (a.s=b.s)&&decide (a.ts.length=b.ts.length))]) ?_ λvs fk=>?_
 .simp[-Z8,fW,hA,hB,aw];by_cases e1:a.s=b.s
  .left;refine⟨e1,?_⟩;show _=_;simp[e1];rw[Ts];simp;omega
  .right;refine⟨e1,?_⟩;show _=_;simp[e1]
 .subst fk;refine⟨rfl,?_⟩;by_cases e1:a.s=b.s/\a.ts.length=b.ts.length
  .rw[aW ⟨e1.1.symm,e1.2.symm⟩]at hk;rw[decide_eq_true e1.1,decide_eq_true e1.2];simp[-Z8,fW,hw,aZ,aD,aw];exact⟨_,hc,hk⟩
  .rw[aY (λh=>e1 ⟨h.1.symm,h.2.symm⟩),Z_]at hk
   have:(decide (a.s=b.s)&&decide (a.ts.length=b.ts.length))=af:=by
    rw[Bool.and_eq_false_iff,decide_eq_false_iff_not,decide_eq_false_iff_not];by_cases q:a.s=b.s
    .exact .inr λw=>e1 ⟨q,w⟩
    .exact .inl q
   rw[this];simp[-Z8,fW,hw,aw];exact hk
def auk(x:Pn)(r:Rl)(k n:Nat)(q8:k<=1000)(a:At)(ha:hs[n]?=aa a)(eG:a.ts.length<=8)(ps te:aj Int)(nf:Sm ps)(ht:x.jg[k+2]?=aa te)(Cq:te.length<=100)(hv:vw r.aL.length te)(C:aj In)(Uy:C.length<=500)
 (hk:k1 [gW,cP (C++cZ n ps a.ts 0++cW r.aL te)]):
 (cE7 (.var 13)).sat Z2 CC Q [k0,k1,k2] [x0,x1,bT x,x3,x4,cy r,db hs,x7,x8,x9,ey,eZ,iI k,gW,lT,iI n,nX,tT,Cv,tU,BC,HE,cP C,iL ps]:=by
 obtain⟨hn,F9⟩:=Z5.1 ha;have hA:=lI hn;rw[F9]at hA;obtain⟨mH,K9⟩:=Z5.1 ht;have hT:cu 1 (eQ x.jg) (iI ((k:Int)+2))=aa (iL x.jg[k+2]):=tS mH;rw[K9]at hT;have akx:QY.wrap ((k:Int)+2)=(k:Int)+2:=eU ak ak;have G5:=su n ps a.ts 0;have hN:=bT.eq_1 x;have hy4:=λk3'=>amX (Q:=Q) (ks:=[k0,k1,k2,k3']) (n:=25) (k:=3) (O:=[x0,x1,bT x,x3,x4,cy r,db hs,x7,x8,x9,ey,eZ,iI k,gW,lT,iI n,nX,tT,Cv,tU,BC,HE,cP C,iL ps,.agg [iS a.s,iT a.ts]]) (C:=.var 22) (A:=.bt (.var 24) 1) (W:=.ok (.var 23)) (H:=.ok (.var 15)) n a eG C ak ps nf rfl rfl rfl rfl (λ_=>rfl) (λ_=>rfl) λ_=>rfl;unfold cE7;refine jI (λvs=>vs=[cP (C++cZ n ps a.ts 0)]) ?_ λvs fk=>?_
 .simp[-Z8,fW,hA,aw];exact hy4 _ rfl
 .subst fk;exists rfl;have aul:(C++cZ n ps a.ts 0).length<=600:=by rw[UR];omega
  generalize C++cZ n ps a.ts 0=C1 at*
  have hy5:=λk3'=>aeS (Q:=Q) (n:=24) (k:=3) (ks:=[k0,k1,k2,k3']) (O:=[x0,x1,bT x,x3,x4,cy r,db hs,x7,x8,x9,ey,eZ,iI k,gW,lT,iI n,nX,tT,Cv,tU,BC,HE,cP C,iL ps]) r te ak hv C1 ak rfl rfl rfl rfl;rw[hN]at*
  simp[-Z8,fW,akx,hT,aw];unfold cE6;refine jI (λvs=>vs=[cP (C1++cW r.aL te)]) ?_ λvs fk=>?_
  .simp[-Z8,fT,ml,tW,uS];exact hy5 _ rfl
  .subst fk;exists rfl;generalize C1++cW r.aL te=C2 at*
   simp[-Z8,fT,ml,Sw,tW,uS];exact hk
def aum(x:Pn)(r:Rl)(k n:Nat)(q8:k<=1000)(a:At)(ha:hs[n]?=aa a)(eG:a.ts.length<=8)(ps te:aj Int)(nf:Sm ps)(sD:x.jJ[k]?=aa ps)(ht:x.jg[k+2]?=aa te)(Cq:te.length<=100)(hv:vw r.aL.length te)(es:aj Int)(q9:es.length<=50)(lk:pq hs.length es)(C:aj In)(Uy:C.length<=300)
 (hk:k1 [gW,cP (C++jD hs n a es++cZ n ps a.ts 0++cW r.aL te)]):
 (cE8 (.var 13)).sat Z2 CC Q [k0,k1] [x0,x1,bT x,x3,x4,cy r,db hs,x7,x8,x9,ey,eZ,iI k,gW,lT,iI n,nX,tT,cP C,tU,iL es]:=by
 obtain⟨ub,Bv⟩:=Z5.1 sD;have hK:=tS ub;rw[Bv]at hK;have hN:=bT.eq_1 x;unfold cE8;refine aJ es.length (λj (_:Unit)=>[iI j,cP (C++jD hs n a (es.take j))]) (λ_ _=>True) () ?_ trivial λj _ hj _=>?_
 .simp[Sw,amV,amU,ml,jD]
 have ED:=zp hs n a (es.take j);rw[PY]at ED;by_cases aq:j<es.length
 .have bI:=aK1 (hs:=hs) (h:=n) (a:=a) aq;have hy:=λkk=>azr (Q:=Q) (k0:=k0) (k1:=k1) (k2:=kk) (x0:=x0) (x1:=x1) (x2:=bT x) (x3:=x3) (x4:=x4) (x5:=cy r) (x7:=x7) (x8:=x8) (x9:=x9) (ey:=ey) (eZ:=eZ) (iW:=iI k) (gW:=gW) (lT:=lT) (nX:=nX) (tT:=tT) (Cv:=cP C) (tU:=tU) (BC:=iL es) n j ak a ha es[j] (lk _ (Z4 aq)) (C++jD hs n a (es.take j)) (by rw[UR];omega);rw[ZZ,<-bI]at hy;generalize HJ:C++jD hs n a (es.take (j+1))=C1 at*
  generalize C++jD hs n a (es.take j)=C0 at*
  simp[-Z8,fT,ml,tW,uS,HH,HI,aq,jf aq];exact hy _ (.mk () (by rw[HJ]) ak trivial)
 .have hjn:j=es.length:=ak;rw[hjn,Wc]
  have hCA:(C++jD hs n a es).length<=400:=by
   have:=zp hs n a es;rw[UR];omega
  generalize C++jD hs n a es=C1 at*
  have hy:=λkk=>auk (Q:=Q) (k0:=k0) (k1:=k1) (k2:=kk) (x0:=x0) (x1:=x1) (x3:=x3) (x4:=x4) (x7:=x7) (x8:=x8) (x9:=x9) (ey:=ey) (eZ:=eZ) (gW:=gW) (lT:=lT) (nX:=nX) (tT:=tT) (Cv:=cP C) (tU:=tU) (BC:=iL es) (HE:=iI es.length) x r k n q8 a ha eG ps te nf ht Cq hv C1 ak hk;rw[hN]at*
  simp[-Z8,fT,ml,tW,uS,HH,HI,BH,sw,hK];exact hy _
def aun(p:Pg)(hp:f_ p):∃b:Bool,(b=ab↔vK p)/\CC 31 af [bc p] (iB b):=by
 obtain⟨a,n,h1,h2⟩:=v32 p hp;refine⟨decide (n=0),by simp[h1],?_⟩;refine CC.dB aB2 kr (λ_=>kr) (by simpa using cz p) cE ?_;have hP:=bc.eq_1 p;rw[hP]at*
 simp[arE,UU,aw];exists _,h2;simp[aw];rw[Ts];simp
def k31(p:Pg)(hp:f_ p)(o:vK p):CC 31 af [bc p] (iB ab):=by
 obtain⟨b,h1,h2⟩:=aun p hp;rwa[h1.2 o]at h2
def auo(hp:f_ p)(nq:Dq p x k i n r a ps te)(eG:a.ts.length<=8)(Cq:te.length<=6)(ax:aj Ac)(hc:LC ax)(qF:0<=zr (r.aA++r.aC) ax x k)(C:aj In)(Uy:C.length<=250)
 (hk:k0 [iI (k+1:Nat),gW,cP (C++w7 (r.aA++r.aC) r.aL ax x k)]):
 Sx.sat Z2 CC Q [k0] [bc p,dC ax,bT x,x3,x4,cy r,db (r.aA++r.aC),x7,x8,x9,ey,eZ,iI k,gW,cP C]:=by
 obtain⟨gR,bM⟩:=Z5.1 nq.h.od;have qE:=nq.ol;have hO:=jf gR;rw[bM]at hO;have h97:=k97 hp nq.h ax hc;have h98:=k98 hp nq.h nq.pl;rw[uT nq ax]at hk;rw[Gg nq ax]at qF;have lk:=MU (L:=x.bj) (l:=k) ak;have h99:=k99 [[x.o.h],x.bj.take k] az eE az;have hfl:([[x.o.h],x.bj.take k]:aj (aj Int)).flatten=x.o.h::x.bj.take k:=az;rw[hfl]at h99
 have azs:pq (r.aA++r.aC).length (x.o.h::x.bj.take k):=λv hv=>nq.ov v (by
  rcases ZP.1 hv with rfl|hv
  .simp
  .exact List.mem_cons_of_mem _ (List.mem_of_mem_take hv))
 have zB:(x.o.h::x.bj.take k).length<=51:=eE;have aDs:(x.o.h::x.bj.take k).length<=50:=eE;have nf:Sm ps:=by have:=nq.pl;unfold Sm;omega
 have hwk:=aS (show k<1000 by omega) ak;generalize Bv:nR ax ⟨a.s,a.ts.length,ps⟩=pk at*
 have azt:dG 7 96 (cP C) (.tree 7 [.agg [iI 3,iI n,iI pk,iI 0,iS [],iT [],iT (mA a.ts ps)]])=aa (cP (C++[⟨3,n,pk,eR,mA a.ts ps⟩])):=gF (a:=C) (i:=⟨3,n,pk,eR,mA a.ts ps⟩) ak
 have hsE:C++nH (r.aA++r.aC) r.aL ax x k n a ps te=(C++[⟨3,n,pk,eR,mA a.ts ps⟩])++jD (r.aA++r.aC) n a (x.o.h::x.bj.take k)++cZ n ps a.ts 0++cW r.aL te:=by
  unfold nH;rw[Bv];simp
 rw[hsE]at hk;have hN:=bT.eq_1 x;have hP:=bc.eq_1 p;have aul:(C++[(⟨3,n,pk,eR,mA a.ts ps⟩:In)]).length<=300:=eE;generalize mA a.ts ps=kt at*
 generalize HJ:C++[(⟨3,n,pk,eR,kt⟩:In)]=C1 at*
 have hLL:eQ [[x.o.h],x.bj.take k]=.tree 1 [.tree 1 [iI x.o.h],iL (x.bj.take k)]:=rfl;rw[hLL]at h99;unfold Sx;refine jI (λvs=>vs=[gW,cP (C1++jD (r.aA++r.aC) n a (x.o.h::x.bj.take k)++cZ n ps a.ts 0++cW r.aL te)]) ?_ λvs fk=>?_
 .have hy:=λCn tU tT nX=>aum (Q:=Q) (k0:=k0) (k1:=Cn) (x0:=bc p) (x1:=dC ax) (x3:=x3) (x4:=x4) (x7:=x7) (x8:=x8) (x9:=x9) (ey:=ey) (eZ:=eZ) (gW:=gW) (lT:=cP C) (nX:=nX) (tT:=tT) (tU:=tU) x r k n ak a nq.h.hd eG ps te nf nq.h.kn nq.t ak nq.tv (x.o.h::x.bj.take k) aDs azs C1 aul;generalize C1++jD (r.aA++r.aC) n a (x.o.h::x.bj.take k)++cZ n ps a.ts 0++cW r.aL te=CF at*
  generalize x.o.h::x.bj.take k=es at*
  generalize x.bj.take k=tk at*
  rw[hN,hP]at*
  simp[-Z8,fW,Zk,hO,aw];refine⟨_,h97,?_⟩;simp[-Z8,fT,show¬pk<0 by omega];unfold cE9;simp[-Z8,fW,Zk,aw];refine⟨_,h98,?_⟩;simp[-Z8,fT,MY,Sv,aD,aw];refine⟨_,azt,?_⟩;simp[-Z8,fT,MY,Sv,aD,aZ,lk];refine⟨_,h99,?_⟩;simp[-Z8,fT];exact hy _ _ _ _ rfl
 .subst fk;refine⟨rfl,?_⟩;generalize C1++jD (r.aA++r.aC) n a (x.o.h::x.bj.take k)++cZ n ps a.ts 0++cW r.aL te=CF at*
  simp[-Z8,fT,ml,Sw,tW,HI,hwk];exact hk
def aup(x:Pn)(r:Rl)(h:iF r)(hn:pB r)(hf:gy r)(hz:zH r)(C:aj In)(Uy:C.length<=300)(hT:(nI x r (wv x r C)).length<=200)(hQ:Q (.aU [kz x.o (nI x r (wv x r C)),iI 0])):
 StQ abD Q [k0] [x0,x1,bT x,x3,x4,cy r,db (r.aA++r.aC),x7,x8,x9,ey,eZ,iW,iI 0,cP C]:=by
 have hN:=bT.eq_1 x;refine jI (λvs=>vs=[cP (nI x r (wv x r C))]) ?_ λvs fk=>?_
 .by_cases e:r.aC=[]
  .have sE:wv x r C=C++[qg x.o.r (r.aA++r.aC).length]:=by simp_all[wv]
   have hy:=λCn=>auc (Q:=Q) (k0:=k0) (k1:=Cn) (x0:=x0) (x1:=x1) (x3:=x3) (x4:=x4) (x7:=x7) (x8:=x8) (x9:=x9) (ey:=ey) (eZ:=eZ) (iW:=iW) (gW:=iI 0) (lT:=cP C) x r h hn hf hz e (wv x r C) aI;generalize nI x r (wv x r C)=T at*
   rw[sE]at hy;have hc:=gF (a:=C) (i:=qg x.o.r (r.aA++r.aC).length) ak;generalize HJ:C++[qg x.o.r (r.aA++r.aC).length]=C1 at*
   simp only[bQ,hN]at*
   generalize r.aA++r.aC=hs at*
   simp[-Z8,fW,e,aZ,aD]at hy⊢;exact⟨_,hc,hy _ rfl⟩
  .have sE:wv x r C=C:=by simp_all[wv]
   rw[sE];have hy:=λCn=>aud (Q:=Q) (k0:=k0) (k1:=Cn) (x0:=x0) (x1:=x1) (x3:=x3) (x4:=x4) (x7:=x7) (x8:=x8) (x9:=x9) (ey:=ey) (eZ:=eZ) (iW:=iW) (gW:=iI 0) x r h hn hf hz e C ak;generalize nI x r C=T at*
   simp only[bQ]at*
   generalize r.aA++r.aC=hs at*
   simp[-Z8,fW,e];exact hy _ rfl
 .subst fk;exists rfl;generalize nI x r (wv x r C)=T at*
  rw[hN];simp[-Z8,fW,show¬(200:Int)<T.length by omega];exact hQ
def auq(hp:f_ p)(hg:Good p x i m r)(h:iF r)(hn:pB r)(hf:gy r)(hz:zH r)(ax:aj Ac)(hc:LC ax)(qF:∀k<x.bj.length,0<=zr (r.aA++r.aC) ax x k)(base:aj In)(EG:base.length<=100)
 (hT:(nI x r (wv x r (iG (r.aA++r.aC) r.aL ax x base x.bj.length))).length<=200)(hQ:Q (.aU [kz x.o (nI x r (wv x r (iG (r.aA++r.aC) r.aL ax x base x.bj.length))),iI 0])):
 StQ abE Q [] [bc p,dC ax,bT x,x3,x4,cy r,db (r.aA++r.aC),x7,x8,x9,ey,cP base]:=by
 have qE:=hg.ol;have hN:=bT.eq_1 x;refine aJ x.bj.length (λk (_:Unit)=>[iI k,iI 0,cP (iG (r.aA++r.aC) r.aL ax x base k)]) (λk _=>True) () ?_ trivial λk _ hk _=>?_
 .rfl
 have Kk:=Gh hg ax base k ak;by_cases aq:k<x.bj.length
 .have⟨n,a,ps,te,nq,eG,Cq⟩:=hg.part k aq;have rN:iG (r.aA++r.aC) r.aL ax x base (k+1)=iG (r.aA++r.aC) r.aL ax x base k++w7 (r.aA++r.aC) r.aL ax x k:=rfl;have hy:=λkk=>auo (Q:=Q) (k0:=kk) (x3:=x3) (x4:=x4) (x7:=x7) (x8:=x8) (x9:=x9) (ey:=ey) (eZ:=cP base) (gW:=iI 0) hp nq eG Cq ax hc (qF k aq) (iG (r.aA++r.aC) r.aL ax x base k) ak;rw[<-rN]at hy;have JV:=hy (qJ x.bj.length (λk (_:Unit)=>[iI k,iI 0,cP (iG (r.aA++r.aC) r.aL ax x base k)]) (λk _=>True) k) (.mk () rfl ak trivial)
  simp_all[ml,tW,BH,uS,HI,sw]
 .have sD:k=x.bj.length:=ak;subst sD;have hy:=λkk=>aup (Q:=Q) (k0:=kk) (x0:=bc p) (x1:=dC ax) (x3:=x3) (x4:=x4) (x7:=x7) (x8:=x8) (x9:=x9) (ey:=ey) (eZ:=cP base) (iW:=iI x.bj.length) x r h hn hf hz (iG (r.aA++r.aC) r.aL ax x base x.bj.length) ak hT hQ
  simp_all[ml,tW,BH,uS,HI,sw]
def Lo(p:Pg)(hp:f_ p)(hz:∀r∈p.aX,zH r)(bM:vK p)(ax:aj Ac)(hc:LC ax)(x:Pn)(hx:Lw x)(h6:x.bj.length<=6)(h:pJ p x.o i m r)(hr:wu p x=ab)(qF:∀k<x.bj.length,0<=zr (r.aA++r.aC) ax x k)(hT:(l9 r ax x).length<=200):CC 11 af [bc p,dC ax,bT x] (.aU [kz x.o (l9 r ax x),iI 0]):=by
 refine CC.of aDj kr kr (aci p ax x) (.aU _ (by simp[kz];exact .agg _ az)) ?_;have h2:=k31 p hp bM;have hfo:=λr hr=>(bM.r r hr).form (hp.rn r hr);have tn:=hr;rw[BF h,VM,decide_eq_true_eq]at tn;have h32:=k32 p hp hfo x hx h6 h tn.1 tn.2;have hN:=bT.eq_1 x;have hP:=bc.eq_1 p;have hg:=SB hp h hr;have gQ:=h.ru;have⟨hi,gQ⟩:=Z5.1 gQ;have dE:=gQ▸Z4 hi;have j8:=hp.rs r dE;have hR:=nQ hi;rw[gQ]at hR;have yp:cu 6 (FW p.aX) (iI x.o.r)=aa (.agg [iS r.name,db r.aA,db r.aC,gw r.aL,gw r.bC,iI r.vars]):=by grind [h.or]
 have Cu:=Ny r (by have:=j8.h;omega);have DQ:=h.lt;have hA:=lI DQ;rw[<-h.oh]at hA;have⟨t0,t1,g0,g1,g2,g3,g4,g5⟩:=hg.t;have⟨l0,e0⟩:=Z5.1 g0;have⟨l1,e1⟩:=Z5.1 g1
 have hT0:cu 1 (eQ x.jg) (iI 0)=aa (iL t0):=by
  have:=tS l0
  grind
 have hT1:cu 1 (eQ x.jg) (iI 1)=aa (iL t1):=by
  have:=tS l1
  grind
 have eG:=j8.hs _ (Z4 DQ);have G5:=su x.o.h [] (r.aA++r.aC)[m].ts 0;have Cq:∀l,(cW r.aL l).length=l.length:=λl=>by simp[cW]
 have VW:=Cq t0;have htb:=Cq t1
 have Ic:oD r x=cZ x.o.h [] (r.aA++r.aC)[m].ts 0++cW r.aL t0++cW r.aL t1:=by
  unfold oD;rw[Xg,Xg,g0,g1]
  have:gB (r.aA++r.aC) x.o.h=(r.aA++r.aC)[m].ts:=by
   grind [gB,h.oh]
  grind
 have EG:(oD r x).length<=100:=aI;have hyE:=λx7 x8 x9 ey=>auq (Q:=(·=.aU [kz x.o (l9 r ax x),iI 0])) (x3:=iB ab) (x4:=iB ab) (x7:=x7) (x8:=x8) (x9:=x9) (ey:=ey) hp hg j8 (hp.rn r dE) (hfo r dE) (hz r dE) ax hc qF (oD r x) EG hT rfl;rw[Ic]at hyE;generalize IV.aU [kz x.o (l9 r ax x),iI 0]=res at*
 have JV:=λZo x8 x7=>aeS (Q:=(·=res)) (n:=9) (k:=0) (ks:=[Zo]) (O:=[bc p,dC ax,bT x,iB ab,iB ab,cy r,db (r.aA++r.aC),x7,x8]) r t1 ak g5 (cZ x.o.h [] (r.aA++r.aC)[m].ts 0++cW r.aL t0) aI rfl rfl rfl rfl;have Bi:=λZo=>aeS (Q:=(·=res)) (n:=7) (k:=0) (ks:=[Zo]) (O:=[bc p,dC ax,bT x,iB ab,iB ab,cy r,db (r.aA++r.aC)]) r t0 ak g4 (cZ x.o.h [] (r.aA++r.aC)[m].ts 0) ak rfl rfl rfl rfl;have PZ:=λZo=>amX (Q:=(·=res)) (n:=8) (k:=0) (ks:=[Zo]) (C:=.tr 7 .an) (A:=.bt (.var 7) 1) (W:=.tr 1 .an) (H:=.bt (.var 2) 1) (O:=[bc p,dC ax,bT x,iB ab,iB ab,cy r,db (r.aA++r.aC),.agg [iS (r.aA++r.aC)[m].s,iT (r.aA++r.aC)[m].ts]]) x.o.h (r.aA++r.aC)[m] ak [] az [] az rfl rfl rfl rfl (λ_=>rfl) (λ_=>rfl) λ_=>rfl;generalize cZ x.o.h [] (r.aA++r.aC)[m].ts 0++cW r.aL t0++cW r.aL t1=B2 at*
 generalize cZ x.o.h [] (r.aA++r.aC)[m].ts 0++cW r.aL t0=B1 at*
 generalize cZ x.o.h [] (r.aA++r.aC)[m].ts 0=B0 at*
 generalize(r.aA++r.aC)[m]=am at*
 have h34:StQ abH (·=res) [] [bc p,dC ax,bT x,iB ab,iB ab,cy r,db (r.aA++r.aC)]:=by
  generalize r.aA++r.aC=hs at*
  refine jI (λvs=>vs=[cP B0]) ?_ λvs fk=>?_
  .have hy:=PZ (GL λvs=>vs=[cP B0]) rfl;rw[hN]at*
   simp[-Z8,fT,ml,tW,BH,HH,uS,ahG,sw,OJ,hA,aw];omega
  .subst fk;exists rfl
   have h33:StQ abG (·=res) [] [bc p,dC ax,bT x,iB ab,iB ab,cy r,db hs,cP B0,iL t0]:=by
    refine jI (λvs=>vs=[cP B1]) ?_ λvs fk=>?_
    .have hy:=Bi (GL λvs=>vs=[cP B1]) rfl;simp[-Z8,fT,ml,tW,uS]
     grind
    .subst fk;exists rfl
     have aFO:StQ abF (·=res) [] [bc p,dC ax,bT x,iB ab,iB ab,cy r,db hs,cP B0,iL t0,cP B1,iL t1]:=by
      refine jI (λvs=>vs=[cP B2]) ?_ λvs fk=>?_
      .have hy:=JV (GL λvs=>vs=[cP B2]) (iL t0) (cP B0) rfl;simp[-Z8,fT,ml,tW,uS];exact hy
      .subst fk;exists rfl;have hy:=hyE (cP B0) (iL t0) (cP B1) (iL t1);rw[hN]at*
       simp[-Z8,fT,ml,tW,uS,BH,sw];omega
     rw[hN]at*
     simp[-Z8,fT,ml,tW,HH,BH,Sw,sw,hT1];omega
   rw[hN]at*
   simp[-Z8,fT,ml,tW,HH,BH,Sw,sw,hT0];omega
 generalize r.aA++r.aC=hs at*
 simp only[bQ,hN,hP]at*
 simp[atZ, -Z8,fW,aw];exists _,h2;simp[-Z8,fT];exists _,h32;simp[-Z8,fT,yp,sw,OJ,MY,aw];exact⟨_,Cu,by simpa[-Z8]using h34⟩
variable{x:IV}
def jh(h:Pure x):∀y∈[x],Pure y:=by
 intro y hy;obtain rfl:=Z3.1 hy;exact h
variable{k:Ac}{y:IV}
def VC{a:aj Ac}(h:a.length<=1000):dG 3 48 (dC a) (.tree 3 [.agg [iS k.s,iI k.n,iL k.ps]])=aa (dC (a++[k])):=by
 have h2:jo 3 [.agg [iS k.s,iI k.n,iL k.ps]]=ab:=rfl;simp[dG,h2,lK];omega
def azu:aj Nat:=zh++[203,160,216,175,240,11,31,8,13,14,257,72,26,71,137,70,139,210,225,145,183,75,76,111,65,112,186,140,248,224,211,170,138,249,185,9,28,27,143,77,142,141,74,144,73,146,78,18,39,16,82,44,188,189,29,79,80,149,187,147,10,148,30,38,104,83,81,168,103,62,108,42,169,107,106,45,64,63,135,110,46,66,21,12,20,23,105,40,43,41,113,171,215,174,48,98,97,116,115,268,192,154,227,87,33,51,212,94,47,114,32,85,155,233,199,101,50,49,164,230,194,166,204,202,99,86,156,280]
def aDt:aj Nat:=X9++[84,150]
def aDu:aj Nat:=RX
def aDv:aj Nat:=RY
def azv(l:aj Hint):fz:=⟨azu,aDt,aDu,l++[⟨999997,0,0,[],[],[],[]⟩,⟨999999,0,0,[],[],[],[]⟩],aDv⟩
def abM:au:=
 (uI (kT gM bB) tM 7 tM (Jj 1 ej iC (nP 83 (MI (jZ ny g_ (.mG 1 ej iC 0))) (fE iD (.idx 1 ej ga) (nP 83 (MI (jZ ny g_ (.mG 1 ej ga 0))) (mY po .gtr iD po (fx 7 7) (fx 7 8)))))) (Jj 1 ej ga (jH 1 8 6 1 (.mG 1 ej ga 0) (yR 1 ej bB ga (GI 1 8 AF lF (.aQ (IZ .add 8 1) (yR 1 ej (IZ .add 8 1) tM (pH 1 8 11 p8 (.next 0 (tc 13 9))))))))))
def abN:au:=
 (mL 1 (AJ 7) 16 (AJ 7) (yR 1 lF bB AO (yU 7 3 16 19 (vj 189 (uG (.var 14) 7 1 (Qa 7 2 7 3 7 4 7 5)) (.var 18) (ft 19 19 19) (.nt (nw 20) (.aQ (wE 13 1) (yR 1 lF bB (wE 13 1) (yU 7 3 16 22 (vj 189 (uG (.var 14) 7 1 (Qa 7 2 7 3 7 4 7 5)) (.var 21) (ft 22 22 22) (ik 23 (fC (nw 23) (r_ (.var 16) 1 8 17 1 16 (IU 5 16 24)) (IU 5 16 17))))))) (IU 5 16 17))))) (Vi 1 24 15 1 17 (wD 4 13 14 18)))
def abO:au:=
 (ajz (uG gM 7 0 (kI (Dc 1 vm))) (o8 10) .leq 13 (o8 10) abN (wH 3 15))
def abP:au:=
 (.qH (AS 188 (Ld (eB 7 7 7 7 7 7) 1) 12 abO) 1 (.next 1 (tc 11 12)))
def ao4:au:=
 (uI (Es bB C6 1) FP 9 FP (pZ ga 9 12 (vj 148 (eB 7 7 7 7 7 7) lF vm (ik 13 (jH 1 24 11 1 AV (pZ ga 9 15 (jH 1 8 10 1 (nw 15) (wD 2 9 16 14))))))) abP)
def abQ:au:=
 (.qH (tH vl ao4) 2 (.ret (J3 2 0 2 1 (r8 AH 8 (tc 9 10)))))
def ao5:au:=
 (Zi (kT fS C6) tM .gtr tM bB abM (qb ny 7 (yR 1 g_ gM Ji abQ)))
def amY:au:=
 (zb (Em 3 2 (p6 81 gZ (ft 2 2 2) 3 (fC cw (.ret (BW bB (ry eY AF (Ld AF 1)))) (yV 1306 gZ (ft 2 2 2) (tH vl ao5))))))
def azw:bG Z2 (azv [aP 0 30 1000081 [] [(10,0),(12,0),(11,0)],aP 1 30082 1000043 [] [(12,0),(11,0)],aP 2 30082044 3 [6] [(12,0),(11,0)] [11],aP 2 30082044 7 [7,8] [(13,0),(9,1)],aP 1 30082 4 [9] [(10,3),(10,0),(9,1),(9,0),(8,4)] [15],aP 0 30 5 [] [(3,0),(4,1),(4,0),(3,1)] [19,22],aP 0 30 8 [9,10] [(4,1)]]) 30=amY:=kr
def ady(hs:aj At)(doneZQ:aj Int)(ts:aj Tm):(gm hs doneZQ ts).length<=ts.length:=JC _ _ _
def Zp{L:aj Int}{a:Nat}(h1:a<=L.length):wi 1 (iL L) (iI (a:Nat)) (iI (L.length:Nat))=aa (iL (L.drop a)):=by
 simp[wi,lz,h1,List.map_drop];rw[Wg az]
abbrev uU(l:aj Pn):IV:=.tree 6 (l.map bT)
@[simp] theorem aDw(l:aj Pn):Pure (uU l):=lS 6 bT (λa=>⟨_,rfl,by simp[Eu]⟩) l
def HQ{l:aj Pn}(h:i<l.length):cu 6 (uU l) (iI (i:Nat))=aa (bT l[i]):=cM (by simp[h]) rfl
def amZ{a:aj Pn}{x:Pn}(h:a.length<=1000):dG 6 96 (uU a) (.tree 6 [bT x])=aa (uU (a++[x])):=by
 have h2:jo 6 [bT x]=ab:=rfl;simp[dG,h2];omega
def EH{B:Type}(e:B->IV)(q:B×IV):IV:=.aU [e q.1,q.2]
def iV{B:Type}(e:B->IV)(cs:aj (B×IV)):IV:=.aU (cs.map (EH e))
def rE(P:Program)(t:VK)(a1 k1 y1:IV):aF IV:=match a1 with
    |.aU ds=>match gY P t ds k1 with
     |some (aa j)=>aa (.aU (ds.set j (.aU [k1,y1])))
     |some ah=>aa (.aU (ds++[.aU [k1,y1]]))
     |none=>ah
    |_=>ah
def o_(P:Program)(t:VK)(a1 k1 d1:IV):aF IV:=match a1 with
    |.aU ds=>match gY P t ds k1 with
     |some (aa j)=>match ds[j]? with
      |some (.aU [_,y1])=>aa y1
      |_=>ah
     |some ah=>aa d1
     |none=>ah
    |_=>ah
def EI(P:Program)(t:VK)(a1 k1:IV):aF IV:=match a1 with
    |.aU ds=>(gY P t ds k1).map λr=>.bool r.isSome
    |_=>ah
def prF(j:Nat):IV->aF IV
 |.aU cs=>cs[j]?
 |_=>ah
def ao6{j:Nat}{cs:aj IV}:prF j (.aU cs)=cs[j]? :=by rfl
def aDx{q:IntKind}{n:Int}:(SE.k q n).den P O=aa (.raw (.int q n)):=by rfl
def ao7{e:SE}{j:Nat}:(SE.proj e j).den P O=(e.den P O).bind (prF j):=by rfl
def aur{q:Nat}{e x:SE}{j:Nat}:(SE.mG q e x j).den P O=(e.den P O).bind λa1=>(x.den P O).bind λb1=>(cu q a1 b1).bind λy=>((aD y)[j]?).bind yA:=by rfl
def aus{w:Nat}{a p:SE}:(SE.dec w a p).den P O=(a.den P O).bind λa1=>(p.den P O).bind λb1=>kS w a1 b1:=by rfl
def ao8{q:Nat}{e x y:SE}:(SE.BP q e x y).den P O=(e.den P O).bind λa1=>(x.den P O).bind λb1=>(y.den P O).bind λc1=>Bq q a1 b1 c1:=by rfl
def ahK{t:VK}{m k x:SE}:(SE.ins t m k x).den P O=(m.den P O).bind λa1=>(k.den P O).bind λk1=>(x.den P O).bind λy1=>rE P t a1 k1 y1:=by rfl
def ahL{t:VK}{m k z:SE}:(SE.get t m k z).den P O=(m.den P O).bind λa1=>(k.den P O).bind λk1=>(z.den P O).bind λd1=>o_ P t a1 k1 d1:=by rfl
def aut{t:VK}{m k:SE}:(SE.has t m k).den P O=(m.den P O).bind λa1=>(k.den P O).bind λk1=>EI P t a1 k1:=by rfl
def cq:=Xb fW<|Xb @aDx<|Xb @ao7<|Xb @ao6<|Xb @aur<|Xb @aus<|Xb @ao8<|Xb @ahK<|Xb @ahL<|Xb @aut<| @Zk
def zu{B:Type}(t:VK)(e:B->IV):Prop:=∀(cs:aj (B×IV)) (k:B),
 ((∃y,(k,y)∈cs)->∃i y,gY Z2 t (cs.map (EH e)) (e k)=aa (aa i)/\cs[i]?=aa (k,y))/\
 ((¬∃y,(k,y)∈cs)->gY Z2 t (cs.map (EH e)) (e k)=aa ah)
section
variable{B:Type}{e:B->IV}
def am0{cs:aj (B×IV)}(hn:(cs.map Yd).Nodup){k:B}(h1:(k,x)∈cs)(h2:(k,y)∈cs):x=y:=by
 induction cs with
 |nil=>grind
 |cons q cs ih=>
  grind
variable{t:VK}
theorem zu.get(h:zu t e){cs:aj (B×IV)}(hn:(cs.map Yd).Nodup)(k:B)(d:IV):
 (∀y,(k,y)∈cs->o_ Z2 t (iV e cs) (e k) d=aa y)/\((¬∃y,(k,y)∈cs)->o_ Z2 t (iV e cs) (e k) d=aa d):=by
 have⟨h1,h2⟩:=h cs k;refine⟨λy hy=>?_,λhy=>?_⟩
 .have⟨i,y',g1,g2⟩:=h1 ⟨y,hy⟩;have:=am0 hn (ZU g2) hy;subst this;unfold o_ iV;simp only[g1,Z7,g2];rfl
 simp_all[o_,iV]
def zu.has(h:zu t e)(cs:aj (B×IV))(k:B):∃b:Bool,(b=ab↔∃y,(k,y)∈cs)/\EI Z2 t (iV e cs) (e k)=aa (iB b):=by
 have⟨h1,h2⟩:=h cs k;by_cases hy:∃y,(k,y)∈cs
 .have⟨i,y',g1,g2⟩:=h1 hy
  simp_all[EI,iV]
 simp_all[EI,iV]
def zu.ins(h:zu t e){cs:aj (B×IV)}(hn:(cs.map Yd).Nodup)(k:B)(y:IV):
 ∃cL:aj (B×IV),(cL.map Yd).Nodup/\(∀q,q∈cL↔q=(k,y)\/q.1≠k/\q∈cs)/\rE Z2 t (iV e cs) (e k) y=aa (iV e cL):=by
 have⟨h1,h2⟩:=h cs k;by_cases hy:∃y,(k,y)∈cs
 .have⟨i,y',g1,g2⟩:=h1 hy;have⟨hi,Wo⟩:=Z5.1 g2
  have aFP:(cs.set i (k,y)).map Yd=cs.map Yd:=by
   rw[aK3];refine OG ?_
   grind
  have nj:((cs.set i (k,y)).map Yd).Nodup:=aI;refine⟨cs.set i (k,y),nj,λq=>⟨λhq=>?_,λhq=>?_⟩,?_⟩
  .by_cases hqk:q.1=k
   .left;have⟨a,b⟩:=q;subst hqk;have e:=am0 nj (x:=b) (y:=y) hq (P7.2 ⟨i,aI,az⟩);rw[e]
   grind
  .rcases hq with rfl|⟨hqk,hq⟩
   .exact P7.2 ⟨i,aI,az⟩
   .obtain⟨j,hj,rfl⟩:=P7.1 hq;refine P7.2 ⟨j,aI,?_⟩
    grind
  .unfold rE iV;simp only[g1];rw[aK3];rfl
 .refine⟨cs++[(k,y)],?_,λq=>?_,?_⟩
  .grind
  .grind
  .unfold rE iV;simp only[h2 hy];rw[Nj];rfl
end
def ac9:∀cs:aj (Int×IV),oX (cs.map (EH iI))=aa ((cs.map Yd).map (P3 .i64))
 |[]=>rfl
 |k::ks=>by simp[oX,EH,Ev.keyOf,ac9 ks]
def vX:zu 3 iI:=λcs k=>by
 have h:gY Z2 3 (cs.map (EH iI)) (iI k)=nowAt (.int .i64) (.int .i64 k) ((cs.map Yd).map (P3 .i64)) 0:=by
  simp_all[gY,ac9,zZ,Ev.keyOf]
 rw[h];have⟨h1,h2⟩:=Jy k (cs.map Yd) 0
 grind
structure EJ{B:Type}[DecidableEq B](t:VK)(e:B->IV)(v:B->Value):Prop where
 sim:zZ Z2 t=ah
 key:∀k,Ev.keyOf (e k)=aa (v k)
 eq:∀a b,a_ Z2 (We t (v a) (v b))=aa (decide (a=b))
 chk:∀(b:Bool) k,a_ Z2 (ZC b 10000 t (v k))=aa ()
 fnd:∀k (ks:aj B),a_ Z2 (YA t (v k) (ks.map λe=>⟨v e,ZL,0⟩))=a_ Z2 (Qu t (v k) (ks.map λe=>⟨v e,ZL,0⟩) 0)
 same:∀k,Xi 10000 (v k) (v k)=ab
variable{t:VK}
section
variable{B:Type}[DecidableEq B]{e:B->IV}{v:B->Value}
theorem EJ.ask(h:EJ t e v)(k:B):∀(ks:aj B) (i:Nat),(k∈ks->∃j,a_ Z2 (Qu t (v k) (ks.map λe=>⟨v e,ZL,0⟩) i)=aa (aa (i+j,ZL))/\ks[j]?=aa k)/\
 (k∉ks->a_ Z2 (Qu t (v k) (ks.map λe=>⟨v e,ZL,0⟩) i)=aa ah)
 |[],i=>by simp[Qu,zj]
 |e::ks,i=>by
  have⟨h1,h2⟩:=h.ask k ks (i+1)
  have hu:a_ Z2 (Qu t (v k) ((e::ks).map λe=>⟨v e,ZL,0⟩) i)=a_ Z2 (if decide (k=e)=ab then pure (aa (i,ZL))else Qu t (v k) (ks.map λe=>⟨v e,ZL,0⟩) (i+1)):=by
   rw[ZM,Qu,bw,h.eq,Z8]
  rw[hu];by_cases h:k=e
  .simp_all[zj]
  .rw[aY aI];refine⟨λhm=>?_,λhn=>h2 λhm=>hn aI⟩;have⟨j,g1,g2⟩:=h1 aI;exact⟨j+1,aI,aI⟩
theorem EJ.gX(h:EJ t e v)(b:Bool)(k:B)(ks:aj B):(k∈ks->∃j,gX Z2 b t (v k) ((ks.map v).map λe=>(e,.undef,0))=aa (aa j)/\ks[j]?=aa k)/\(k∉ks->Ev.gX Z2 b t (v k) ((ks.map v).map λe=>(e,.undef,0))=aa ah):=by
 have hm:(((ks.map v).map λe=>(e,(.undef:IV),0)).map λe=>({key:=e.1,val:=ZL,born:=e.2.2}:MapEntry))=ks.map λe=>⟨v e,ZL,0⟩:=by
  simp
 have⟨h1,h2⟩:=h.ask k ks 0;refine⟨λhk=>?_,λhk=>?_⟩
 .have⟨j,g1,g2⟩:=h1 hk;refine⟨j,?_,g2⟩;unfold Ev.gX;rw[bw,h.chk,Z8,hm,h.fnd,g1];simp
 .unfold Ev.gX;rw[bw,h.chk,Z8,hm,h.fnd,h2 hk]
theorem EJ.keys(h:EJ t e v):∀cs:aj (B×IV),oX (cs.map (EH e))=aa ((cs.map Yd).map v)
 |[]=>rfl
 |k::ks=>by simp[oX,EH,h.key,h.keys ks]
theorem EJ.law(h:EJ t e v):zu t e:=λcs k=>by
 have hd:gY Z2 t (cs.map (EH e)) (e k)=Hn Z2 t ((cs.map Yd).map v) (v k):=by
  simp_all[gY,h.keys,h.sim,h.key]
 rw[hd];have⟨a1,a2⟩:=h.gX ab k (cs.map Yd)
 have hb:Ev.gX Z2 af t (v k) (((cs.map Yd).map v).map λe=>(e,.undef,0))=Ev.gX Z2 ab t (v k) (((cs.map Yd).map v).map λe=>(e,.undef,0)):=by
  simp_all[Ev.gX,bw,h.chk]
 unfold Hn;rw[hb];refine⟨λ⟨y,hy⟩=>?_,λhy=>?_⟩
 .obtain⟨j,g1,g2⟩:=a1 (Z6.2 ⟨_,hy,rfl⟩);rw[Z7]at g2;obtain⟨q,hq,rfl⟩:=Lq.1 g2
  simp_all[h.same]
 simp_all
end
def eD(d:De):IV:=.agg [iS d.s,iI d.n]
def aeU:zu 82 eD:=EJ.law (v:=ju) ⟨by kernel_rfl,λk=>rfl,eqK,λb k=>Hz b k,λk ks=>YC k ks,ag1⟩
def aDy(d:Nat)(a b:Bool):a_ Z2 (NI (d+1) 4 (.bool a) (.bool b))=aa (a==b):=by
 rw[NI,bw,Go.Ev.run_underlying X8,Z8];rfl
def vO(o:Oc):Value:=.agg #[.int .i64 o.r,.int .i64 o.h,.bool o.k]
def eqO(a b:Oc):a_ Z2 (We 28 (vO a) (vO b))=aa (decide (a=b)):=by
 have⟨x,y,z⟩:=a;have⟨x',y',z'⟩:=b
 have h:a_ Z2 (We 28 (vO ⟨x,y,z⟩) (vO ⟨x',y',z'⟩))=aa (x==x'&&(y==y'&&z==z')):=by
  have h1:=Nw 9998 x x';have h2:=Nw 9998 y y';have h3:=aDy 9998 z z';show a_ Z2 (NI (9998+2) 28 _ _)=_;unfold vO;rw[NI,bw,Go.Ev.run_underlying aKm,Z8];have bI:Z2.stoodInHeld 28=af:=by kernel_rfl
  have p1:∀(a b c:Value),a_ Z2 (part 3 #[a,b,c] 0)=aa a:=λa b c=>by kernel_rfl
  have p2:∀(a b c:Value),a_ Z2 (part 3 #[a,b,c] 1)=aa b:=λa b c=>by kernel_rfl
  have p3:∀(a b c:Value),a_ Z2 (part 4 #[a,b,c] 2)=aa c:=λa b c=>by kernel_rfl
  have hp:a_ Z2 program=aa Z2:=rfl;rw[bw,hp,Z8,bI];have q:∀{B:Type} (a:B),a_ Z2 (pure a)=aa a:=λ_=>rfl;simp only[W8,if_false,<-Array.forIn_toList,P2,bw,ne_eq,String.reduceEq,not_false_eq_true,if_true,p1,Z8,h1];cases(x==x')
  .rfl
  simp only[YI,W8,if_false,q,Z8,bw,p2,h2];cases(y==y')
  .rfl
  simp only[YI,W8,if_false,q,Z8,bw,p3]
  grind
 rw[h];simp;rfl
def auu(b:Bool)(k:Oc):a_ Z2 (ZC b 10000 28 (vO k))=aa ():=by
 obtain⟨s,n,z⟩:=k;cases b<;>kernel_rfl
def azx(k:Oc)(ks:aj Oc):a_ Z2 (YA 28 (vO k) (ks.map λe=>⟨vO e,ZL,0⟩))=a_ Z2 (Qu 28 (vO k) (ks.map λe=>⟨vO e,ZL,0⟩) 0):=by
 unfold YA;rw[bw,Go.Ev.run_underlying aKm,Z8];cases ks with
 |nil=>rfl
 |cons e ks=>rfl
def am1:zu 28 eS:=EJ.law (v:=vO) ⟨by kernel_rfl,λk=>rfl,eqO,auu,azx,λ⟨x,y,z⟩=>by
 show((#[_,_,_]:Array Value).size==3&&_)=ab;simp[Xi]⟩
def QP(p:Int×Int):IV:=.agg [iI p.1,iI p.2]
def LJ(p:Int×Int):Value:=.agg #[.int .i64 p.1,.int .i64 p.2]
def aDz(a b:Int×Int):a_ Z2 (We 214 (LJ a) (LJ b))=aa (decide (a=b)):=by
 have⟨x,y⟩:=a;have⟨x',y'⟩:=b
 have h:a_ Z2 (We 214 (LJ ⟨x,y⟩) (LJ ⟨x',y'⟩))=aa (x==x'&&y==y'):=by
  have h1:=Nw 9998 x x';have h2:=Nw 9998 y y';show a_ Z2 (NI (9998+2) 214 _ _)=_;unfold LJ;rw[NI,bw,Go.Ev.run_underlying aJ9,Z8];have hs:a_ Z2 (sizeOf 3)=aa 1:=by kernel_rfl
  have p1:∀(a b:Value),a_ Z2 (part 3 #[a,b] 0)=aa a:=λa b=>by kernel_rfl
  have p2:∀(a b:Value),a_ Z2 (part 3 #[a,b] 1)=aa b:=λa b=>by kernel_rfl
  have q:∀{B:Type} (a:B),a_ Z2 (pure a)=aa a:=λ_=>rfl;rw[bw,hs,Z8];simp only[aKN,aKO,List.range',P2,bw,p1,Z8,h1];cases(x==x')
  .rfl
  simp only[YI,W8,if_false,q,Z8,bw,p2]
  grind
 rw[h];simp;rfl
def ao9(b:Bool)(k:Int×Int):a_ Z2 (ZC b 10000 214 (LJ k))=aa ():=by
 obtain⟨s,n⟩:=k;cases b<;>kernel_rfl
def auv(k:Int×Int)(ks:aj (Int×Int)):a_ Z2 (YA 214 (LJ k) (ks.map λe=>⟨LJ e,ZL,0⟩))=a_ Z2 (Qu 214 (LJ k) (ks.map λe=>⟨LJ e,ZL,0⟩) 0):=by
 unfold YA;rw[bw,Go.Ev.run_underlying aJ9,Z8];cases ks with
 |nil=>rfl
 |cons e ks=>rfl
def Zr:zu 214 QP:=EJ.law (v:=LJ) ⟨by kernel_rfl,λk=>rfl,aDz,ao9,auv,λ⟨x,y⟩=>by
 show((#[_,_]:Array Value).size==2&&_)=ab;simp[Xi]⟩
def qC(hx:Pure x)(hy:Pure y):∀z∈[x,y],Pure z:=by
 intro z hz;rcases ZP.1 hz with rfl|hz
 .exact hx
 .exact jh hy _ hz
def aDA(r:Rl)(hs:aj At)(v:Int):CC 216 af [Aq r hs,iI v] (iB (decide ((r.aA.length:Int)<=v))):=by
 refine CC.dB atL kr (λ_=>kr) (qC (F_ r hs) az) cE ?_;simp[amS,Aq,UU,aw]
def k95(l:aj Int)(n:Int)(hl:Sm l):CC 95 af [iL l,iI n] (iB (l.contains n)):=(Vz l n hl).aez (tQ rfl)
def SD:au:=
 (.loop (kI (.tp (tc 12 12))) (.pick p8 (.var 17) (wH 6 16) (.same p8 (.var 19) (fE (MD 19 0) (.qG 2 (Jd 19 1)) (vp (MD 16 0) (MD 19 0) (Fw 82 (kT (.bt (Jd 16 1) 0) (.bt (Jd 16 1) 1)) (kT (.bt (Jd 19 1) 0) (.bt (Jd 19 1) 1)) (yS 214 AO (kT (MD 16 0) (MD 19 0)) eY (fC (.var 20) (yN 18) (wH 7 19))) (wH 7 19)) (wH 7 19))))))
def SG:au:=
 (.loop (kI (.tp (tc 12 12))) (.pick p8 (.var 14) (Ad 4 7) (.same p8 (.var 16) (yW (MD 16 0) (.qG 2 (Jd 16 1)) (.dec 9 p8 fX) (.uniq SD)))))
def SH:au:=
 (qP (jZ bB lF AI) 11 (AJ 8) 7 (CY 8) 11 (wP 7 14 .eql 14 3 (sh du (vT 14) du MM (qx 3 eh (vT 14) (uH 3 15 (tG 14 6) (mY (mN 15) .neq (tG 14 6) (mN 15) (yN 9) (pf 3 p8 (je 14) (kM 15 15) (wD 5 11 16 13)))))) (vc 14 0 1 (.bind (.qG 2 (.get 3 p8 (je 14) (kT vS bB))) (xy .geq 14 2 (je 15) (yN 9) (wD 5 11 12 13))) 14 0 4 (pf 214 AO (RV 14 1 14 2) fX (pf 214 FM (P_ 14 2 14) fX (wD 5 11 12 16))) (CN 14 0 9 (oz .eql 14 3 (.aQ (tG 14 5) (yS 82 fS (kT (o5 14 4) (tG 14 5)) eY (fC FM (yN 7) (wD 5 11 12 13)))) (wD 5 11 12 13)) (wD 5 11 12 13)))) (.aQ (.dec 9 p8 fX) (.uniq SG)))
def abR:au:=
 (kg ko 7 (mN 6) 4 (vT 6) 7 4 8 (Ab 182 (ff 8 8 8 8) (AY iD 38 iD (Hw .neq 38 iD bB (wB iD) (Ad 4 7)) (xy .geq 8 0 fN MM (pf 3 AI (je 8) (kM 6 6) (.aQ (AJ 8) SH))))) (Ad 3 5))
def abS:au:=
 (qP ko 5 iA 5 jt 5 (uH 5 6 (mN 6) abR) (wB bB))
def abT:au:=
 (kg CV 3 iA 5 jt 3 5 5 (o6 181 (kM 5 5) (AY cK 38 cK (Hw .neq 38 cK bB (wB cK) (si 3 4)) (yS 82 fS (kM 5 5) eY (.test iC (yN 8) (oz .lss 5 4 MM (mY I_ .gtr (o5 5 4) I_ MM (pf 82 fS (kM 5 5) fX (si 3 8)))))))) (.aQ iA abS))
def abU:au:=
 (kg ko 2 du 3 eh 2 3 3 (Ab 123 (ft 3 3 3) (AY cT 38 cT (wB cT) (tP 2))) (.aQ iA abT))
def ao_:au:=
 (qP ko 1 iA 5 jt 1 (uH 5 2 (mN 2) (wF .gtr (mN 2) (.i 160) (yN 6) sa)) (.aQ du abU))
def am2:au:=
 (pY (tb 3 0) fN MM (rA .gtr 0 2 40 MM (CP iA iA 30 (yN 6) (CP du du 480 (yN 6) (.aQ iA ao_)))))
def auw:jc Z2 (mP [aP 0 52 27 [83],aP 1 52098 32 [] [(12,0)],aP 1 52098 29 [] [(10,0)],aP 1 52098 9 [43] [(9,0),(8,0)],aP 0 52 30 [90],aP 0 52 20 [68] [(1,0)],aP 0 52 13 [54],aP 0 52 6 [38]]) 400 ab 52=am2:=kr
def abV:au:=
 (xx ko 3 1 fw (CO 7 0 3 1 7 2 (kc 222 (yH 2 0 2 1 2 2 2 3 (uJ 2 4 2 5 (o5 2 6))) 3 cw (rz .geq 3 1 bB vg (kc 223 (ff 0 0 0 0) 4 cT (kN 18) qR)) sa)) (kc 223 (ff 0 0 0 0) 2 bW (kN 18) qR))
def am3:au:=
 (yM 4 fw (wF .gtr fw (.i 200) (kN 6) (oz .geq 0 0 (AE .lss jt 40 (fC (qy .lss jt 40) vg (oz .geq 0 1 (AE .lss eh 4 (fC (qy .lss eh 4) vg (FH abV))) vg))) vg)))
def auy:bG Z2 (mP [aP 2 182024008 2 [8]]) 182=am3:=kr
def abW:au:=
 (xx ko 3 5 cT (BY (FQ 3 ej) CQ (wX ej 1) (fC (.var 0) (IY eY (AL 0 1 2 3)) (AD 5)) (BY (wX ej 2) (fC CT (IY eY (AL 0 1 2 3)) (AD 5)) (wX ej 3) (fC gV (IY eY (AL 0 1 2 3)) (AD 5)) (FK (wX ej 4) (fC kO (IY eY (AL 0 1 2 3)) (AD 5))))) (IY fX (AL 0 1 2 3)))
def am4:au:=
 (ik 4 abW)
def auz:z_ Z2 (mP [aP 1 256 2 [7]]) 400 [4] 256=am4:=kr
def abX:au:=
 (sg (I0 qQ) 2 gL fN 2 (mY cT .leq cT kO vg (wF .geq cT eh vg (sb 0 2 cT))) qR)
def am5:au:=
 (qV 3 (o6 181 gZ (AY bR 38 bR (.ret bR) (.aQ gL abX))))
def auA:bG Z2 (mP [aP 0 123 6 [4,18]]) 123=am5:=kr
def am6:au:=
 (kP (kc 154 bS 2 bW (kN 7) (vp bR bB (kN 9) (wF .gtr bR (.i 6) (kN 9) qR))))
def auB:bG Z2 (mP []) 181=am6:=kr
def ir:au:=
 (xx ko 3 1 yJ (CO 4 0 6 1 4 2 (vj 859 C3 (ff 2 2 2 2) (.i 20) (I5 3 (fC (qS 3) (MB 1 (MG (AQ 1))) sa)))) eM)
def uV:au:=
 (xx ko 3 2 yJ (CO 4 0 6 2 4 3 (vj 859 C3 (ff 3 3 3 3) (.i 20) (I5 4 (fC (qS 4) (MB 2 (MG (AQ 2))) mM)))) eM)
def apa:au:=
 ir
def apb:au:=
 ir
def apc:au:=
 uV
def apd:au:=
 uV
def ape:au:=
 uV
def apf:au:=
 uV
def apg:au:=
 ir
def aph:au:=
 ir
def api:au:=
 ir
def apj:au:=
 ir
def aky:au:=
 ir
def akz:au:=
 ir
def akA:au:=
 ir
def akB:au:=
 ir
def akC:au:=
 ir
def akD:au:=
 ir
end Go.Proofs.YtabefplkfkfdfaaGreat
