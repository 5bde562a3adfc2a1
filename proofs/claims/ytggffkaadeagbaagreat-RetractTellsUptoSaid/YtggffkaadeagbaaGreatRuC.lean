/- A part of the proof, no condition: comparisons. -/
import Derived.Test.YtggffkaadeagbaaGreatRuA
open Go.Proofs.Tryz renaming prog->asK
open List renaming drop_eq_getElem_cons->ata,drop_of_length_le->atg,getElem_mem->asO
open List.cons renaming injEq->atK
open Bool renaming and_eq_true->asN
open Option renaming some->aa
open Bool renaming true->ab,false->af
set_option linter.all false
namespace Go.Proofs.YtggffkaadeagbaaGreat
open Go Go.Ev
theorem n183:(asK.funcs[183]?).map (·.params.size)=aa 2:=by kernel_rfl
theorem t183(z:IV):aO asK 183 z=ab:=by kernel_rfl
def C4(n:Int):List Int->Nat->Int
 |[],_=> -1
 |x::l,i=>if n=x then i else C4 n l (i+1)
theorem QI(n:Int):∀(l:List Int) (i:Nat),decide (0<=C4 n l i)=l.contains n
 |[],_=>rfl
 |x::l,i=>by
  by_cases h:n=x
  ·simp[C4,h]
  ·have:=QI n l (i+1);simp[C4,h]at this⊢;exact this
theorem ap_(l:List Int)(n:Int)(hl:Sm l):CC 183 af [iL l,iI n] (iI (C4 n l 0)):=by
 refine CC.of akS n183 (t183 _) (by simp) (by simp) ?_;simp[ZF,SE.den];refine dD l.length (λi (_:Unit)=>[iI i]) (λi _=>C4 n l 0=C4 n (l.drop i) i) () ?_ ?_ λi _ hi hI=>?_
 ·simp[SE.den]
 ·simp
 by_cases ai:i<l.length
 ·rw[ata ai]at hI;have hw:=aD ai hl;simp[SE.den,ai,hw];by_cases h:n=l[i]
  ·left;exact⟨h,by rw[hI];simp[C4,h]⟩
  ·right;simp[h,hI,C4];omega
 ·simp[SE.den,ai];rw[hI,atg (by omega)];rfl
theorem n121:(asK.funcs[121]?).map (·.params.size)=aa 2:=by kernel_rfl
theorem t121(z:IV):aO asK 121 z=ab:=by kernel_rfl
theorem n94:(asK.funcs[94]?).map (·.params.size)=aa 2:=by kernel_rfl
theorem t94(z:IV):aO asK 94 z=ab:=by kernel_rfl
theorem n53:(asK.funcs[53]?).map (·.params.size)=aa 2:=by kernel_rfl
theorem t53(z:IV):aO asK 53 z=ab:=by kernel_rfl
theorem T7(a b:List Int)(hl:Sm a):CC 53 af [iL a,iL b] (iB (a==b)):=by
 refine CC.of apj n53 (t53 _) (by simp) (by simp) ?_;simp[adN,SE.den];by_cases bS:a.length=b.length
 ·right;simp[bS];refine dD a.length (λi (_:Unit)=>[iI i]) (λi _=>(a=b↔a.drop i=b.drop i)) () ?_ ?_ λi _ hi hI=>?_
  ·simp[SE.den]
  ·simp
  by_cases ai:i<a.length
  ·have wR:i<b.length:=by omega
   have iR:a=b↔a[i]=b[i]/\a.drop (i+1)=b.drop (i+1):=by
    rw[hI,ata ai,ata wR,atK]
   have hw:=aD ai hl;simp[SE.den,ai,wR,hw];by_cases h:a[i]=b[i]
   ·right;exact⟨h,by omega,by rw[iR];simp[h]⟩
   ·left;exact⟨h,λhh=>h (iR.1 hh).1⟩
  ·simp[SE.den,ai];rw[atg (by omega),atg (by omega)]at hI;exact hI.2 rfl
 ·left;exact⟨by omega,λh=>bS (by rw[h])⟩
theorem n78:(asK.funcs[78]?).map (·.params.size)=aa 2:=by kernel_rfl
theorem t78(z:IV):aO asK 78 z=ab:=by kernel_rfl
theorem n164:(asK.funcs[164]?).map (·.params.size)=aa 2:=by kernel_rfl
theorem t164(z:IV):aO asK 164 z=ab:=by kernel_rfl
theorem aqa(a b:List Int)(hl:Sm a):CC 164 af [iL a,iL b] (iB (a==b)):=by
 refine CC.of akU n164 (t164 _) (by simp) (by simp) ?_;simp[ZH,SE.den];by_cases bS:a.length=b.length
 ·right;simp[bS];refine dD a.length (λi (_:Unit)=>[iI i]) (λi _=>(a=b↔a.drop i=b.drop i)) () ?_ ?_ λi _ hi hI=>?_
  ·simp[SE.den]
  ·simp
  by_cases ai:i<a.length
  ·have wR:i<b.length:=by omega
   have iR:a=b↔a[i]=b[i]/\a.drop (i+1)=b.drop (i+1):=by
    rw[hI,ata ai,ata wR,atK]
   have hw:=aD ai hl;simp[SE.den,ai,wR,hw];by_cases h:a[i]=b[i]
   ·right;exact⟨h,by omega,by rw[iR];simp[h]⟩
   ·left;exact⟨h,λhh=>h (iR.1 hh).1⟩
  ·simp[SE.den,ai];rw[atg (by omega),atg (by omega)]at hI;exact hI.2 rfl
 ·left;exact⟨by omega,λh=>bS (by rw[h])⟩
end Go.Proofs.YtggffkaadeagbaaGreat
namespace Go.Proofs.YtggffkaadeagbaaGreat
open Go Go.Ev
theorem n250:(asK.funcs[250]?).map (·.params.size)=aa 1:=by kernel_rfl
theorem t250(z:IV):aO asK 250 z=ab:=by kernel_rfl
theorem n130:(asK.funcs[130]?).map (·.params.size)=aa 2:=by kernel_rfl
theorem t130(z:IV):aO asK 130 z=ab:=by kernel_rfl
theorem n129:(asK.funcs[129]?).map (·.params.size)=aa 2:=by kernel_rfl
theorem t129(z:IV):aO asK 129 z=ab:=by kernel_rfl
theorem n131:(asK.funcs[131]?).map (·.params.size)=aa 2:=by kernel_rfl
theorem t131(z:IV):aO asK 131 z=ab:=by kernel_rfl
theorem n191:(asK.funcs[191]?).map (·.params.size)=aa 2:=by kernel_rfl
theorem t191(z:IV):aO asK 191 z=ab:=by kernel_rfl
theorem n71:(asK.funcs[71]?).map (·.params.size)=aa 2:=by kernel_rfl
theorem t71(z:IV):aO asK 71 z=ab:=by kernel_rfl
theorem n64:(asK.funcs[64]?).map (·.params.size)=aa 2:=by kernel_rfl
theorem t64(z:IV):aO asK 64 z=ab:=by kernel_rfl
def Tm.k:Tm->Int|.mk k _ _ _=>k
def Tm.n:Tm->Int|.mk _ n _ _=>n
def Tm.s:Tm->List UInt8|.mk _ _ s _=>s
def Tm.ts:Tm->List Tm|.mk _ _ _ ts=>ts
theorem bU(t:Tm):c7 t=.agg [iI t.k,iI t.n,iS t.s,iT t.ts]:=by cases t;exact vi _ _ _ _
def fW(a b:Int):Int:=if a<b then-1 else if b<a then 1 else 0
def uI(a b:List UInt8):Int:=if Op.bytesLess a b then-1 else if a=b then 0 else 1
def rk(k:Int):Int:=if k=1 then 0 else if k=0 then 1 else if k=2 then 2 else 3
def mR(x y:Int):Int:=if x=0 then y else x
mutual
def rq:Tm->Tm->Int
 |.mk k n s ts,u=>mR (fW (rk k) (rk u.k)) (if rk k=0 then fW n u.n else if rk k=1 then fW n u.n else if rk k=2 then mR (fW ts.length u.ts.length) (mR (uI s u.s) (cmpL ts u.ts))else mR (fW k u.k) (mR (fW n u.n) (uI s u.s)))
def cmpL:List Tm->List Tm->Int
 |[],_=>0
 |t::l,m=>match m with
  |[]=>0
  |u::m=>mR (rq t u) (cmpL l m)
end
mutual
def uJ:Tm->Prop
 |.mk _ _ _ ts=>Sm ts/\QJ ts
def QJ:List Tm->Prop
 |[]=>True
 |t::l=>uJ t/\QJ l
end
theorem QK:∀l:List Tm,QJ l↔∀t∈l,uJ t
 |[]=>by simp[QJ]
 |t::l=>by simp[QJ,QK l]
theorem vj(t:Tm):uJ t↔Sm t.ts/\∀u∈t.ts,uJ u:=by cases t;simp[uJ,QK,Tm.ts]
theorem Fe(a b:Int):CC 130 af [iI a,iI b] (iI (fW a b)):=by
 refine CC.of akW n130 (t130 _) (by simp) (by simp) ?_;simp[ZJ,SE.den];unfold fW
 grind
theorem acH(a b:List UInt8):CC 129 af [iS a,iS b] (iI (uI a b)):=by
 refine CC.of akX n129 (t129 _) (by simp) (by simp) ?_;simp[ZK,SE.den];unfold uI
 grind
theorem ahD(t:Tm):CC 250 af [c7 t] (iI (rk t.k)):=by
 refine CC.of akV n250 (t250 _) (by simp[kU]) (by simp) ?_;simp[ZI,SE.den,bU,aj];unfold rk
 grind
end Go.Proofs.YtggffkaadeagbaaGreat
namespace Go.Proofs.YtggffkaadeagbaaGreat
open Go Go.Ev
theorem Lz(a b:Tm):rq a b=mR (fW (rk a.k) (rk b.k)) (if rk a.k=0 then fW a.n b.n else if rk a.k=1 then fW a.n b.n else if rk a.k=2 then mR (fW a.ts.length b.ts.length) (mR (uI a.s b.s) (cmpL a.ts b.ts))else mR (fW a.k b.k) (mR (fW a.n b.n) (uI a.s b.s))):=by
 cases a;cases b;simp only[rq,Tm.k,Tm.n,Tm.s,Tm.ts];first|rfl|congr
theorem C5{α β:Type}{l:List α}{m:List β}(h:fW l.length m.length=0):l.length=m.length:=by
 unfold fW at h;split at h
 ·omega
 ·split at h<;>omega
theorem Bq{x y:Int}(h:¬x=0):mR x y=x:=if_neg h
def yS(a b:At):Int:=mR (uI a.s b.s) (mR (fW a.ts.length b.ts.length) (cmpL a.ts b.ts))
def ZT(a:At):Prop:=Sm a.ts/\∀t∈a.ts,uJ t
theorem ahE(l m:List Tm)(AQ:l.length=m.length)(hl:Sm l)(hc:∀t∈l,∀u,CC 191 af [c7 t,c7 u] (iI (rq t u))):CC 131 af [iT l,iT m] (iI (cmpL l m)):=by
 refine CC.of akY n131 (t131 _) (by simp) (by simp) ?_;simp[ZL,SE.den];refine dD l.length (λi (_:Unit)=>[iI i]) (λi _=>cmpL l m=cmpL (l.drop i) (m.drop i)) () ?_ ?_ λi _ hi hI=>?_
 ·simp[SE.den]
 ·simp
 by_cases ai:i<l.length
 ·have pe:i<m.length:=by omega
  rw[ata ai,ata pe,cmpL]at hI;have hw:=aD ai hl;have h1:dy 4 (iT l) (iI (i:Nat))=aa (c7 l[i]):=fw (by simp[ai]) (by rw[bU];rfl);have h2:dy 4 (iT m) (iI (i:Nat))=aa (c7 m[i]):=fw (by simp[pe]) (by rw[bU];rfl);have h3:=hc l[i] (asO ai) m[i];rw[bU,bU]at h3;simp[SE.den,ai,pe,hw,h1,h2,bU,aj];refine⟨_,h3,?_⟩;simp[SE.den];by_cases h:rq l[i] m[i]=0
  ·right;exact⟨h,by omega,by rw[hI];simp[mR,h]⟩
  ·left;exact⟨h,by rw[hI];simp[mR,h]⟩
 ·simp[SE.den,ai];refine⟨_,Fe _ _,?_⟩;simp[SE.den];rw[hI,atg (by omega),cmpL,AQ];simp[fW]
theorem f191(a b:Tm)(ha:uJ a)(hc:∀t∈a.ts,∀u,CC 191 af [c7 t,c7 u] (iI (rq t u))):CC 191 af [c7 a,c7 b] (iI (rq a b)):=by
 refine CC.of akZ n191 (t191 _) (by simp[kU]) (by simp) ?_;have ha5:=ahD a;have hb5:=ahD b;rw[bU]at ha5 hb5;simp[ZM,SE.den,bU,aj];refine⟨_,ha5,?_⟩;simp[SE.den];refine⟨_,hb5,?_⟩;simp[SE.den];refine⟨_,Fe _ _,?_⟩;simp[SE.den];rw[Lz];by_cases h0:fW (rk a.k) (rk b.k)=0
 ·right;refine⟨h0,?_⟩;refine⟨_,ha5,?_⟩;simp[SE.den,mR,h0];by_cases h1:rk a.k=0
  ·left;refine⟨h1,_,Fe _ _,?_⟩;simp[SE.den,h1]
  ·right;refine⟨h1,?_⟩;by_cases h2:rk a.k=1
   ·left;refine⟨h2,_,Fe _ _,?_⟩;simp[SE.den,h2]
   ·right;refine⟨h2,?_⟩;by_cases h3:rk a.k=2
    ·left;refine⟨h3,_,Fe _ _,?_⟩;simp[SE.den,h3];by_cases h4:fW a.ts.length b.ts.length=0
     ·left;refine⟨h4,_,acH _ _,?_⟩;simp[SE.den,h4];by_cases h5:uI a.s b.s=0
      ·left;refine⟨h5,_,ahE _ _ (C5 h4) ((vj a).1 ha).1 hc,?_⟩;simp[SE.den,h5]
      ·right;exact⟨h5,by simp[h5]⟩
     ·right;exact⟨h4,by simp[h4]⟩
    ·right;refine⟨h3,_,Fe _ _,?_⟩;simp[SE.den];by_cases h4:fW a.k b.k=0
     ·left;refine⟨h4,_,Fe _ _,?_⟩;simp[SE.den];by_cases h5:fW a.n b.n=0
      ·left;refine⟨h5,_,acH _ _,?_⟩;simp[SE.den,h1,h2,h3,h4,h5]
      ·right;exact⟨h5,by simp[h1,h2,h3,h4,h5]⟩
     ·right;exact⟨h4,by simp[h1,h2,h3,h4]⟩
 ·left;exact⟨h0,by simp[mR,h0]⟩
theorem ahF:∀(a:Tm),uJ a->∀b:Tm,CC 191 af [c7 a,c7 b] (iI (rq a b))
 |.mk k n s ts,hw,b=>f191 _ b hw λt ht u=>ahF t (((vj _).1 hw).2 t ht) u
 decreasing_by simp[Tm.ts]at ht;have:=List.sizeOf_lt_of_mem ht;simp;omega
theorem ali(l m:List Tm)(AQ:l.length=m.length)(hl:Sm l)(hw:∀t∈l,uJ t):CC 131 af [iT l,iT m] (iI (cmpL l m)):=
 ahE l m AQ hl λt ht u=>ahF t (hw t ht) u
theorem c71(a b:At)(ha:ZT a):CC 71 af [qd a,qd b] (iI (yS a b)):=by
 refine CC.of apk n71 (t71 _) (by simp[wB]) (by simp) ?_;simp[adO,SE.den,qd,aj];refine⟨_,acH _ _,?_⟩;simp[SE.den];by_cases h1:uI a.s b.s=0
 ·left;refine⟨h1,_,Fe _ _,?_⟩;simp[SE.den];by_cases h2:fW a.ts.length b.ts.length=0
  ·left;refine⟨h2,_,ali _ _ (C5 h2) ha.1 ha.2,?_⟩;simp[SE.den,yS,mR,h1,h2]
  ·right;exact⟨h2,by simp[yS,mR,h1,h2]⟩
 ·right;exact⟨h1,by simp[yS,mR,h1]⟩
theorem c64(a b:At)(ha:ZT a):CC 64 af [qd a,qd b] (iB (yS a b==0)):=by
 refine CC.of apl n64 (t64 _) (by simp[wB]) (by simp) ?_;have h:=c71 a b ha;simp only[qd]at h;simp[adP,SE.den,qd,aj];refine⟨_,h,?_⟩;simp[SE.den]
end Go.Proofs.YtggffkaadeagbaaGreat
namespace Go.Proofs.YtggffkaadeagbaaGreat
open Go Go.Ev
theorem n109:(asK.funcs[109]?).map (·.params.size)=aa 2:=by kernel_rfl
theorem t109(z:IV):aO asK 109 z=ab:=by kernel_rfl
theorem n52:(asK.funcs[52]?).map (·.params.size)=aa 2:=by kernel_rfl
theorem t52(z:IV):aO asK 52 z=ab:=by kernel_rfl
theorem n19:(asK.funcs[19]?).map (·.params.size)=aa 2:=by kernel_rfl
theorem t19(z:IV):aO asK 19 z=ab:=by kernel_rfl
def T8(f:Fa):Prop:=ZT f.a/\Sm f.j
def WfP(x:Ap):Prop:=Sm x.bA/\Sm x.gone/\Sm x.made/\Sm x.fA
structure DI(m:Me):Prop where
 sf:Sm m.facts
 sp:Sm m.past
 sl:Sm m.log
 f:∀x∈m.facts,T8 x
 p:∀x∈m.past,T8 x
 l:∀x∈m.log,WfP x
theorem Xl{l:List Fa}{i:Nat}(h:i<l.length):dy 4 (gL l) (iI (i:Nat))=aa (ef l[i]):=fw (by simp[h]) rfl
theorem ahG{l:List At}{i:Nat}(h:i<l.length):dy 2 (h_ l) (iI (i:Nat))=aa (qd l[i]):=fw (by simp[h]) rfl
theorem Xm{l:List Ap}{i:Nat}(h:i<l.length):dy 6 (Fb l) (iI (i:Nat))=aa (kI l[i]):=fw (by simp[h]) rfl
theorem vl{l:List Tm}{i:Nat}(h:i<l.length):dy 4 (iT l) (iI (i:Nat))=aa (c7 l[i]):=fw (by simp[h]) (by rw[bU];rfl)
def Aa(a b:Fa):Bool:=a.id==b.id&&yS a.a b.a==0&&a.j==b.j
def ky:List Fa->List Fa->Bool
 |[],[]=>ab
 |a::l,b::m=>Aa a b&&ky l m
 |_,_=>af
theorem JS:∀{l m:List Fa},ky l m=ab->l.length=m.length
 |[],[],_=>rfl
 |_::_,_::_,h=>by
  simp only[ky,asN]at h;simp[JS h.2]
 |[],_::_,h=>by simp[ky]at h
 |_::_,[],h=>by simp[ky]at h
def xF(x y:Ap):Bool:=x.rule==y.rule&&x.failed==y.failed&&x.bA==y.bA&&x.gone==y.gone&&x.made==y.made&&x.fA==y.fA
def qf:List Ap->List Ap->Bool
 |[],[]=>ab
 |a::l,b::m=>xF a b&&qf l m
 |_,_=>af
theorem JT:∀{l m:List Ap},qf l m=ab->l.length=m.length
 |[],[],_=>rfl
 |_::_,_::_,h=>by
  simp only[qf,asN]at h;simp[JT h.2]
 |[],_::_,h=>by simp[qf]at h
 |_::_,[],h=>by simp[qf]at h
def vX(a b:Me):Bool:=a.next==b.next&&a.given==b.given&&ky a.facts b.facts&&ky a.past b.past&&qf a.log b.log
theorem aqb(a b:Fa)(ha:T8 a):CC 109 af [ef a,ef b] (iB (Aa a b)):=by
 refine CC.of ak2 n109 (t109 _) (by simp[Fc]) (by simp) ?_;have h:=c64 a.a b.a ha.1;simp only[qd]at h;simp[ZN,SE.den,ef,aj];by_cases h1:a.id=b.id
 ·left;refine⟨h1,_,h,?_⟩;simp[SE.den];by_cases h2:yS a.a b.a=0
  ·left;refine⟨h2,_,aqa a.j b.j ha.2,?_⟩;simp[SE.den,Aa,h1,h2]
  ·right;exact⟨h2,by simp[Aa,h2]⟩
 ·right;exact⟨h1,by simp[Aa,h1]⟩
theorem c52(l m:List Fa)(hl:Sm l)(hw:∀x∈l,T8 x):CC 52 af [gL l,gL m] (iB (ky l m)):=by
 refine CC.of apm n52 (t52 _) (by simp) (by simp) ?_;simp[adQ,SE.den];by_cases AQ:l.length=m.length
 ·right;refine⟨by omega,?_⟩;refine dD l.length (λi (_:Unit)=>[iI i]) (λi _=>ky l m=ky (l.drop i) (m.drop i)) () ?_ ?_ λi _ hi hI=>?_
  ·simp[SE.den]
  ·simp
  by_cases ai:i<l.length
  ·have pe:i<m.length:=by omega
   rw[ata ai,ata pe,ky]at hI;have wT:=aD ai hl;have h3:=aqb l[i] m[i] (hw _ (asO ai));simp only[ef]at h3;simp[SE.den,ai,wT,Xl ai,Xl pe,ef,aj];refine⟨_,h3,?_⟩;simp[SE.den];by_cases h:Aa l[i] m[i]=ab
   ·right;exact⟨h,by omega,by rw[hI];simp[h]⟩
   ·left;simp at h;exact⟨h,by rw[hI];simp[h]⟩
  ·simp[SE.den,ai];rw[hI,atg (by omega),atg (by omega)];rfl
 ·left;refine⟨by omega,?_⟩;cases h:ky l m
  ·rfl
  ·exact absurd (JS h) AQ
theorem c19(a b:Me)(ha:DI a):CC 19 af [dr a,dr b] (iB (vX a b)):=by
 refine CC.of apn n19 (t19 _) (by simp[iQ]) (by simp) ?_;simp[adR,SE.den,dr,aj];refine⟨_,c52 a.facts b.facts ha.sf ha.f,?_⟩;simp[SE.den];cases h1:ky a.facts b.facts
 ·left;simp[vX,h1]
 right;simp;refine⟨_,c52 a.past b.past ha.sp ha.p,?_⟩;simp[SE.den];cases h2:ky a.past b.past
 ·left;simp[vX,h2]
 right;simp;by_cases h3:a.next=b.next
 ·right;refine⟨h3,?_⟩;by_cases h4:a.given=b.given
  ·right;refine⟨h4,?_⟩;by_cases h5:a.log.length=b.log.length
   ·right;refine⟨by omega,?_⟩;refine dD a.log.length (λi (_:Unit)=>[iI i]) (λi _=>vX a b=qf (a.log.drop i) (b.log.drop i)) () ?_ ?_ λi _ hi hI=>?_
    ·simp[SE.den]
    ·simp[vX,h1,h2,h3,h4]
    by_cases ai:i<a.log.length
    ·have pe:i<b.log.length:=by omega
     rw[ata ai,ata pe,qf]at hI;have wT:=aD ai ha.sl;obtain⟨w1,w2,w3,w4⟩:=ha.l _ (asO ai);simp[SE.den,ai,wT,Xm ai,Xm pe,kI,aj];by_cases g1:a.log[i].rule=b.log[i].rule
     ·right;refine⟨g1,?_⟩;by_cases g2:a.log[i].failed=b.log[i].failed
      ·right;refine⟨g2,_,T7 _ _ w1,?_⟩;simp[SE.den];by_cases g3:a.log[i].bA=b.log[i].bA
       ·right;refine⟨g3,_,T7 _ _ w2,?_⟩;simp[SE.den];by_cases g4:a.log[i].gone=b.log[i].gone
        ·right;refine⟨g4,_,T7 _ _ w3,?_⟩;simp[SE.den];by_cases g5:a.log[i].made=b.log[i].made
         ·right;refine⟨g5,_,T7 _ _ w4,?_⟩;simp[SE.den];by_cases g6:a.log[i].fA=b.log[i].fA
          ·right;exact⟨g6,by omega,by rw[hI];simp[xF,g1,g2,g3,g4,g5,g6]⟩
          ·left;exact⟨g6,by rw[hI];simp[xF,g6]⟩
         ·left;exact⟨g5,by rw[hI];simp[xF,g5]⟩
        ·left;exact⟨g4,by rw[hI];simp[xF,g4]⟩
       ·left;exact⟨g3,by rw[hI];simp[xF,g3]⟩
      ·left;exact⟨g2,by rw[hI];simp[xF,g2]⟩
     ·left;exact⟨g1,by rw[hI];simp[xF,g1]⟩
    ·simp[SE.den,ai];rw[hI,atg (by omega),atg (by omega)];rfl
   ·left;refine⟨by omega,?_⟩;cases h:qf a.log b.log
    ·simp[vX,h]
    ·exact absurd (JT h) h5
  ·left;exact⟨h4,by simp[vX,h4]⟩
 ·left;exact⟨h3,by simp[vX,h3]⟩
end Go.Proofs.YtggffkaadeagbaaGreat
