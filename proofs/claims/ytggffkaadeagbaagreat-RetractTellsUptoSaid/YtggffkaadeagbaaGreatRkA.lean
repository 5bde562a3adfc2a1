/- A part of the proof, no condition: what the checks of the program compute: names, terms, the variables of a rule. -/
import Derived.Test.YtggffkaadeagbaaGreatRhC
import Derived.Test.YtggffkaadeagbaaGreatRgA
import Derived.Test.YtggffkaadeagbaaGreatRhA
import Derived.Test.YtggffkaadeagbaaGreatRgI
import Derived.Test.YtggffkaadeagbaaGreatRiJ
open Go.Proofs.Tryz renaming prog->asK
open List renaming all_eq_false->axo,getElem_mem->asO,sizeOf_lt_of_mem->aug,mem_cons->aty,take_succ_eq_append_getElem->asX,take_of_length_le->as0,mem_singleton->atF,eq_nil_of_length_eq_zero->atr
open Go.Lib renaming indexByte->aw6
open Ne renaming symm->awW
open ByteArray renaming size->awD,getElem_eq_getElem_data->ayn
open Classical renaming em->axp
open Go.IntKind renaming i64->as7
open Bool renaming and_eq_true->asN
open Option renaming some->aa
open Bool renaming true->ab,false->af
set_option linter.all false
namespace Go.Proofs.YtggffkaadeagbaaGreat
open Go Go.Ev
variable{n:Nat}{new:Bool}{f:FuncId}{cK:ak}{args:List IV}{cfg:a_}
theorem CC.gV{s:Bool}(he:aH asK cfg n new f=cK)(hl:(asK.funcs[f]?).map (·.params.size)=aa args.length)(ht:∀z,aO asK f z=ab)(hp:∀x∈args,Pure x)(hn:noTwo cK=ab)
 (hs:cK.sat asK CC (ou (·=s)) [] args):CC f new args (iB s):=by
 obtain⟨b,rfl,h⟩:=CC.qP (·=s) he hl ht hp hn hs;exact h
def qo(c:Int):Bool:=decide (97<=c/\c<=122)
def AF(c:Int):Bool:=decide (65<=c/\c<=90)
def mK(c:Int):Bool:=qo c||AF c||decide (48<=c/\c<=57)||decide (c=95)
def Fq(s:List UInt8):Bool:=s==[99,111,110,115,116,114,97,105,110,116]||s==[116,114,117,101]||s==[102,97,105,108]||s==[105,115]||s==[105,110,116]||s==[103,114,111,117,110,100]
def sh(s:List UInt8):Bool:=s==[43]||s==[45]||s==[42]||s==[47]||s==[37]
def vZ(s:List UInt8):Bool:=s.all (λc=>mK c.toNat)&&(decide (1<=s.length)&&decide (s.length<=40))
def gd(s:List UInt8):Bool:=vZ s&&qo ((s.headD 0).toNat:Int)&& !Fq s
theorem v148(c:Int):CC 148 af [pJ c] (iB (qo c)):=by
 refine CC.gV alW n148 t148 (by simp) (by rfl) ?_;simp[Z0,SE.den,qo];omega
theorem v198(c:Int):CC 198 af [pJ c] (iB (AF c)):=by
 refine CC.gV alX n198 t198 (by simp) (by rfl) ?_;simp[Z1,SE.den,AF];omega
theorem are(c:List UInt8):CC 149 af [iS c] (iB (Fq c)):=by
 refine CC.gV alY n149 t149 (by simp) (by rfl) ?_;simp[Z2,SE.den,Fq]
 grind
theorem arf(c:List UInt8):CC 257 af [iS c] (iB (sh c)):=by
 refine CC.gV al7 n257 t257 (by simp) (by rfl) ?_;simp[Z8,SE.den,sh]
 grind
theorem afX(c:Int):mK c=ab↔qo c=ab\/AF c=ab\/(48<=c/\c<=57)\/c=95:=by simp[mK,or_assoc]
theorem arh(c:List UInt8)(hc:Sm c):CC 147 af [iS c] (iB (vZ c)):=by
 refine CC.gV alV n147 t147 (by simp) (by rfl) ?_;simp[ZZ,QR,SE.den];refine dD c.length (λi (_:Unit)=>[iI i]) (λi _=>∀u∈c.take i,mK u.toNat=ab) () ?_ ?_ λi _ hi hI=>?_
 ·simp[SE.den]
 ·simp
 by_cases ai:i<c.length
 ·have hw:=aD ai hc;have h1:=v148 c[i].toNat;have h2:=v198 c[i].toNat
  have bC:¬mK c[i].toNat=ab->vZ c=af:=λh=>by
   unfold vZ;rw[Bool.and_eq_false_iff];left;rw[axo];exact⟨c[i],asO ai,by simpa using h⟩
  have Si:=λh=>aC (p:=λu:UInt8=>mK u.toNat=ab) ai hI h;rw[afX]at bC Si;simp[SE.den,ai,hw];refine⟨_,h1,?_⟩;cases cN:qo c[i].toNat with
  |true=>simp;exact⟨by omega,Si (.inl cN)⟩
  |false=>
   simp;refine⟨_,h2,?_⟩;cases fk:AF c[i].toNat with
   |true=>simp;exact⟨by omega,Si (.inr (.inl fk))⟩
   |false=>
    simp[cN,fk]at Si bC⊢;have da:i+1<=c.length:=by omega
    generalize(∀u∈c.take (i+1),mK u.toNat=ab)=A at Si⊢;have wT:i+1<=c.length/\A↔A:=by simp[da]
    grind
 ·have:=aK ai hI;simp[SE.den,ai,vZ];have ha:(c.all λc=>mK c.toNat)=ab:=by simpa using this
  simp only[ha,Bool.true_and];by_cases h1:1<=c.length
  ·left;refine⟨by omega,?_⟩;simp[h1];omega
  ·right;exact⟨by omega,λ_ h=>absurd h h1⟩
theorem aaZ{c:List UInt8}(h:vZ c=ab):0<c.length:=by
 simp[vZ]at h;omega
theorem v89(c:List UInt8)(hc:Sm c):CC 89 af [iS c] (iB (gd c)):=by
 refine CC.gV aqn n89 t89 (by simp) (by rfl) ?_;have h1:=arh c hc;have h3:=are c;simp[ad1,SE.den];refine⟨_,h1,?_⟩;cases hw:vZ c with
 |false=>simp[gd,hw]
 |true=>
  have hl:=aaZ hw;have h2:=v148 c[0].toNat;have h0:c.headD 0=c[0]:=by cases c with|nil=>simp at hl|cons=>rfl
  have hn:gd c=(vZ c&&qo c[0].toNat&& !Fq c):=by rw[<-h0];rfl
  rw[hn];simp[hl];refine⟨_,h2,?_⟩;cases hb:qo c[0].toNat with
  |false=>simp
  |true=>
   simp;exact⟨_,h3,by simp[hw]⟩
theorem ari(s:List UInt8):CC 136 af [iS s] (iB (Fq s)):=by
 refine CC.gV ang n136 t136 (by simp) (by rfl) ?_;simp[aaT,SE.den,Fq]
 grind (splits:=40)
def Dd(c:Int):Int:=if qo c then 1 else if AF c||decide (c=95)then 2 else if decide (48<=c/\c<=57)then 4 else 0
theorem ai2(c:Int):CC 192 af [pJ c] (pJ (Dd c)):=by
 refine CC.of anf n192 (t192 _) (by simp) (by simp) ?_;simp[aaS,SE.den,Dd,qo,AF]
 grind (splits:=40)
theorem arj(s:List UInt8):CC 211 af [iS s] (iB (sh s)):=by
 refine CC.gV ani n211 t211 (by simp) (by rfl) ?_;simp[aaU,SE.den]
 match s with
 |[c]=>
  have hb:CC 256 af [iS [43,45,42,47,37],iS [c]] (.raw (.bool (decide (0<=aw6 [43,45,42,47,37] c)))):=CC.plain (by rw[dW];decide) (aq6 _ c) (.raw _) (t256 _);left;refine⟨by simp,_,hb,?_⟩;have i43:=Lib.indexByte_ge;simp[sh,aw6];by_cases h1:c=43
  ·simp[h1]
  by_cases h2:c=45
  ·simp[h2]
  by_cases h3:c=42
  ·simp[h3]
  by_cases h4:c=47
  ·simp[h4]
  by_cases h5:c=37
  ·simp[h5]
  simp[h1,h2,h3,h4,h5,awW h1,awW h2,awW h3,awW h4,awW h5]
 |[]=>right;simp[sh]
 |_::_::_=>right;simp[sh];omega
theorem afY(c:Int):dt asK .and 174 (pJ (Dd c)) (pJ 7)=aa (pJ (Dd c)):=by
 unfold Dd;split
 ·rfl
 split
 ·rfl
 split<;>rfl
theorem ac3(c:Int):dt asK .and 174 (pJ (Dd c)) (pJ 1)=aa (pJ (if qo c then 1 else 0)):=by
 unfold Dd;split
 ·rfl
 split
 ·rfl
 split<;>rfl
theorem ans(c:Int):Dd c=0↔mK c=af:=by
 unfold Dd mK;cases qo c<;>cases AF c<;>simp
 grind
theorem Kc(c:UInt8)(s:List UInt8):gd (c::s)=(qo c.toNat&&decide (s.length<=39)&&s.all (λc=>mK c.toNat)&& !Fq (c::s)):=by
 unfold gd vZ;cases h:qo c.toNat with
 |false=>simp[h]
 |true=>
  have:mK c.toNat=ab:=by simp[mK,h]
  simp[h,this,Bool.and_comm]
theorem v83(s:List UInt8):CC 83 af [iS s] (iB (gd s)):=by
 refine CC.gV aq5 n83 t83 (by simp) (by rfl) ?_;have hr:=ari s;cases s with
 |nil=>simp[XM,SE.den];rfl
 |cons c s'=>
  have ha:=ai2 (c.toNat:Int);simp[XM,SE.den];by_cases h1:(40:Int)<s'.length+1
  ·left;refine⟨h1,?_⟩;rw[Kc];simp;omega
  right;refine⟨by omega,_,ha,?_⟩;simp[ac3];have hl:(decide (s'.length<=39))=ab:=by simp;omega
  rw[Kc,hl];cases h2:qo c.toNat with
  |false=>simp
  |true=>
  simp;refine⟨iS s',?_,⟨_,ah7 s'⟩,?_⟩
  ·have e1:((s'.length:Int)+1).toNat- 1=s'.length:=by omega
   simp[gS,awD,e1];omega
  unfold UR;refine E9 (λp:Nat=>[.az [iS s',iI p]]) (λp=>p<=s'.length/\∀u∈s'.take p,mK u.toNat=ab) (λp=>s'.length- p) 0 ?_ (by simp) λp ⟨hp0,hI⟩=>?_
  ·simp[SE.den]
  by_cases hp:p<s'.length
  ·have GW:p<(⟨s'.toArray⟩:ByteArray).size:=by simpa[awD]using hp
   have vn:((⟨s'.toArray⟩:ByteArray)[p]'GW)=s'[p]:=by simp[ayn]
   have hn:¬((p:Int)<0):=by omega
   have bC:mK s'[p].toNat=af->(∀x∈s',mK x.toNat=ab)->Fq (c::s')=ab:=λh ha=>absurd (ha _ (asO hp)) (by simp[h]);by_cases ark:s'[p].toNat<128
   ·have XN:=decode_ascii ⟨s'.toArray⟩ p GW (by rw[vn];exact ark);rw[vn]at XN;have JB:=ai2 (s'[p].toNat:Int)
    have lM:IntKind.u8.wrap (s'[p].toNat:Int)=s'[p].toNat:=by
     simp only[IntKind.wrap,IntKind.bits,IntKind.signed];simp;omega
    simp[SE.den,hp,XN,hn,lM];by_cases Qh:122<(s'[p].toNat:Int)
    ·left;exact⟨Qh,bC (by simp[mK,qo,AF];omega)⟩
    right;refine⟨by omega,_,JB,?_⟩;simp[afY,ans];cases hc:mK s'[p].toNat with
    |false=>simp;exact bC hc
    |true=>simp;exact⟨p+1,by omega,⟨by omega,aC (p:=λu:UInt8=>mK u.toNat=ab) hp hI hc⟩,by omega⟩
   ·obtain⟨ym,tD⟩:=decode_high ⟨s'.toArray⟩ p GW (by rw[vn];omega);generalize XN:Utf8.decode ⟨s'.toArray⟩ p=dd at ym tD;obtain⟨rn,w⟩:=dd;simp only at ym tD;simp[SE.den,hp,XN,hn];left;exact⟨by omega,bC (by simp[mK,qo,AF];omega)⟩
  ·have:=aK hp hI;have ha:(s'.all λc=>mK c.toNat)=ab:=by simpa using this
   simp[SE.den,hp];exact⟨_,hr,by simp[ha]⟩
end Go.Proofs.YtggffkaadeagbaaGreat
namespace Go.Proofs.YtggffkaadeagbaaGreat
open Go Go.Ev
mutual
def dM:Tm->Bool
 |.mk k n s ts=>if k=0 then decide (-2147483648<=n)&&decide (n<=2147483648)&&s.isEmpty&&ts.isEmpty
  else if k=1 then decide (0<=n)&&decide (n<=1048576)&&s.isEmpty&&ts.isEmpty
  else if k=2 then decide (n=0)&&((sh s&&decide (ts.length=2))||(gd s&&decide (ts.length<=6)))&&BA ts
  else af
def BA:List Tm->Bool
 |[]=>ab
 |t::l=>dM t&&BA l
end
theorem xG:∀l:List Tm,BA l=l.all dM
 |[]=>rfl
 |t::l=>by simp[BA,xG l]
theorem Va{t:Tm}(h:t.k=0):dM t=(decide (-2147483648<=t.n)&&decide (t.n<=2147483648)&&t.s.isEmpty&&t.ts.isEmpty):=by
 cases t;simp[Tm.k]at h;subst h;simp[dM,Tm.n,Tm.s,Tm.ts];rfl
theorem LP{t:Tm}(h:t.k=1):dM t=(decide (0<=t.n)&&decide (t.n<=1048576)&&t.s.isEmpty&&t.ts.isEmpty):=by
 cases t;simp[Tm.k]at h;subst h;simp[dM,Tm.n,Tm.s,Tm.ts];rfl
theorem LQ{t:Tm}(h:t.k=2):dM t=(decide (t.n=0)&&((sh t.s&&decide (t.ts.length=2))||(gd t.s&&decide (t.ts.length<=6)))&&t.ts.all dM):=by
 cases t;simp[Tm.k]at h;subst h;simp[dM,Tm.n,Tm.s,Tm.ts,xG];rfl
theorem Vb{t:Tm}(h0:t.k≠0)(h1:t.k≠1)(h2:t.k≠2):dM t=af:=by
 cases t;simp[Tm.k]at h0 h1 h2;simp[dM,h0,h1,h2]
theorem Kd{α:Type}{p:α->Bool}{l:List α}{i:Nat}(h:i<l.length)(hp:p l[i]=af):l.all p=af:=axo.2 ⟨l[i],asO h,by simp[hp]⟩
theorem ant(t:Tm)(hs:Sm t.s)(hl:Sm t.ts)(ih:∀u∈t.ts,CC 213 af [c7 u] (iB (dM u))):CC 213 af [c7 t] (iB (dM t)):=by
 refine CC.gV al6 n213 t213 (by simpa using kU t) (by rfl) ?_;rw[bU];have h1:=arf t.s;have h2:=v89 t.s hs
 have l2:∀b,b=t.ts.all dM->∀x y,C8.sat asK CC (ou (·=b)) [] [.agg [iI t.k,iI t.n,iS t.s,iT t.ts],x,y]:=λb hb x y=>by
  unfold C8;refine dD t.ts.length (λi (_:Unit)=>[iI i]) (λi _=>∀u∈t.ts.take i,dM u=ab) () ?_ ?_ λi _ hi hI=>?_
  ·simp[SE.den]
  ·simp
  by_cases ai:i<t.ts.length
  ·have hw:=aD ai hl;have hb:=ih t.ts[i] (asO ai);rw[bU]at hb;simp only[oq,QD,QB,QC,T6,QE];simp[SE.den,ai,hw,vl ai,bU,aj];refine⟨_,hb,?_⟩;cases hf:dM t.ts[i]<;>simp
   ·subst b;exact Kd ai hf
   ·exact⟨by omega,aC (p:=λu=>dM u=ab) ai hI hf⟩
  ·have:=aK ai hI;simp[SE.den,ai];subst b;simpa using this
 have l1:∀b,b=t.ts.all dM->∀x,H8.sat asK CC (ou (·=b)) [] [.agg [iI t.k,iI t.n,iS t.s,iT t.ts],x]:=λb hb x=>by
  unfold H8;refine dD t.ts.length (λi (_:Unit)=>[iI i]) (λi _=>∀u∈t.ts.take i,dM u=ab) () ?_ ?_ λi _ hi hI=>?_
  ·simp[SE.den]
  ·simp
  by_cases ai:i<t.ts.length
  ·have hw:=aD ai hl;have hb:=ih t.ts[i] (asO ai);rw[bU]at hb;simp only[oq,QD,QB,QC,T6,QE];simp[SE.den,ai,hw,vl ai,bU,aj];refine⟨_,hb,?_⟩;cases hf:dM t.ts[i]<;>simp
   ·subst b;exact Kd ai hf
   ·exact⟨by omega,aC (p:=λu=>dM u=ab) ai hI hf⟩
  ·have:=aK ai hI;simp[SE.den,ai];subst b;simpa using this
 have e02:QT=C8:=rfl;simp[Z7,SE.den,e02,aj];have ee:∀l:List Tm,l.isEmpty=decide (l.length=0):=λl=>by cases l<;>simp
 have em:=axp (t.s=[]);by_cases k0:t.k=0
 ·left;refine⟨k0,?_⟩;rw[Va k0];simp;grind
 right;refine⟨k0,?_⟩;by_cases k1:t.k=1
 ·left;refine⟨k1,?_⟩;rw[LP k1];simp;grind
 right;refine⟨k1,?_⟩;by_cases k2:t.k=2
 ·left;refine⟨k2,_,h1,?_⟩;rw[LQ k2];by_cases n0:t.n=0
  ·cases b1:sh t.s with
   |true=>
    simp[n0];by_cases fa:(t.ts.length:Int)=2
    ·right;refine⟨by omega,?_⟩;have GS:t.ts.length=2:=by omega
     exact n0▸l1 _ (by simp[GS]) _
    ·left;have GS:¬t.ts.length=2:=by omega
     refine⟨by omega,_,h2,?_⟩;cases b2:gd t.s<;>simp[GS];by_cases h6:6<(t.ts.length:Int)
     ·left;exact⟨h6,λ_=>by omega⟩
     ·right;exact⟨by omega,n0▸l2 _ (by simp;omega) _ _⟩
   |false=>
    simp[n0];refine⟨_,h2,?_⟩;cases b2:gd t.s<;>simp;by_cases h6:6<(t.ts.length:Int)
    ·left;exact⟨h6,λ_=>by omega⟩
    ·right;exact⟨by omega,n0▸l2 _ (by simp;omega) _ _⟩
  ·cases b1:sh t.s<;>simp[n0]
 ·right;exact⟨k2,Vb k0 k1 k2⟩
theorem ai3:∀t:Tm,oM t->CC 213 af [c7 t] (iB (dM t))
 |.mk k n s ts,h=>ant _ ((ny _).1 h).1 ((ny _).1 h).2.1 λu hu=>ai3 u (((ny _).1 h).2.2 u hu)
 decreasing_by simp[Tm.ts]at hu;have:=aug hu;simp;omega
mutual
def jN:Tm->Nat
 |.mk k _ _ ts=>if k=2 then cg ts+1 else 1
def cg:List Tm->Nat
 |[]=>0
 |t::l=>jN t+cg l
end
mutual
def w7:Tm->Nat
 |.mk k _ _ ts=>if k=2 then gX ts+1 else 1
def gX:List Tm->Nat
 |[]=>0
 |t::l=>max (w7 t) (gX l)
end
theorem uN(t:Tm):jN t=cg (bY t)+1:=by
 obtain⟨k,n,s,ts⟩:=t;show jN (.mk k n s ts)=cg (if k=2 then ts else[])+1;by_cases hk:k=2<;>simp[jN,hk,cg]
theorem Fs(t:Tm):w7 t=gX (bY t)+1:=by
 obtain⟨k,n,s,ts⟩:=t;show w7 (.mk k n s ts)=gX (if k=2 then ts else[])+1;by_cases hk:k=2<;>simp[w7,hk,gX]
theorem Hi(a b:List Tm):cg (a++b)=cg a+cg b:=by
 induction a with
 |nil=>simp[cg]
 |cons t l ih=>simp[cg,ih];omega
theorem Tc(a b:List Tm):gX (a++b)=max (gX a) (gX b):=by
 induction a with
 |nil=>simp[gX]
 |cons t l ih=>simp[gX,ih]
theorem Ir{t:Tm}{l:List Tm}(h:t∈l):jN t<=cg l:=by
 induction l with
 |nil=>cases h
 |cons u l ih=>rcases aty.1 h with rfl|h
               ·simp[cg]
               ·have:=ih h;simp[cg];omega
theorem Sj{t:Tm}{l:List Tm}(h:t∈l):w7 t<=gX l:=by
 induction l with
 |nil=>cases h
 |cons u l ih=>rcases aty.1 h with rfl|h
               ·simp[gX];omega
               ·have:=ih h;simp[gX];omega
theorem afZ(t:Tm):1<=jN t:=by rw[uN];omega
theorem af0(t:Tm):1<=w7 t:=by rw[Fs];omega
theorem af1{t u:Tm}(h:u∈bY t):jN u<jN t:=by
 have:=Ir h;rw[uN t];omega
theorem Vc(l:List Tm)(h:∀t∈l,w7 t<=jN t):gX l<=cg l:=by
 induction l with
 |nil=>simp[gX]
 |cons t l ih=>have:=h t (by simp);have:=ih λu hu=>h u (by simp[hu]);simp[gX,cg];omega
theorem aa0:∀t:Tm,w7 t<=jN t
 |.mk k n s ts=>by
  have h:=Vc (bY (.mk k n s ts)) λu hu=>aa0 u;rw[uN,Fs];omega
 decreasing_by have:=s9 hu;simp[Tm.ts]at this;have:=aug this;simp;omega
theorem Sk:∀(l:List Tm) (acc:Nat),(∀t∈l,qO t=jN t)->acc+cg l<=1000000000000->uK acc l=((acc+cg l:Nat):Int)
 |[],acc,_,_=>by simp[uK,cg]
 |t::l,acc,h,hb=>by
  simp only[cg]at hb⊢;rw[uK,h t (by simp),cQ (by omega) (by omega)];have:=Sk l (acc+jN t) (λu hu=>h u (by simp[hu])) (by omega);rw[show((acc:Int)+(jN t:Int))=((acc+jN t:Nat):Int) by simp,this]
  congr 1;omega
theorem Ft:∀t:Tm,jN t<=1000000000000->qO t=jN t
 |.mk k n s ts,hb=>by
  have h:=Sk (bY (.mk k n s ts)) 1 (λu hu=>Ft u (by have:=af1 hu;omega)) (by rw[uN]at hb;omega);rw[QL,uN,show(1:Int)=((1:Nat):Int)from rfl,h]
  congr 1;omega
 decreasing_by have:=s9 hu;simp[Tm.ts]at this;have:=aug this;simp;omega
end Go.Proofs.YtggffkaadeagbaaGreat
namespace Go.Proofs.YtggffkaadeagbaaGreat
open Go Go.Ev
theorem aa1(a b:Int):Kp asK [iI a,iI b]=aa (iI (if b>a then b else a)):=rfl
theorem Fu{l:List Tm}{i:Nat}(h:i<l.length):gX (l.take (i+1))=max (gX (l.take i)) (w7 l[i]):=by
 rw[asX h,Tc];simp[gX]
theorem Fv{l:List Tm}{i:Nat}(h:i<l.length):cg (l.take (i+1))=cg (l.take i)+jN l[i]:=by
 rw[asX h,Hi];simp[cg]
theorem Fw(l:List Tm)(i:Nat):cg (l.take i)<=cg l:=by
 have:=Hi (l.take i) (l.drop i);rw[List.take_append_drop]at this;omega
def BT(t:Tm):Prop:=oM t/\jN t<=1000000000000
def NK(l:List Tm):Prop:=Sm l/\(∀t∈l,oM t)/\cg l<=1000000000000
theorem NK.at{l:List Tm}(h:NK l){t:Tm}(ht:t∈l):BT t:=⟨h.2.1 t ht,by have:=Ir ht;have:=h.2.2;omega⟩
theorem BT.args{t:Tm}(h:BT t):NK (bY t):=by
 have h1:=(ny t).1 h.1;have h2:=uN t;refine⟨?_,λu hu=>h1.2.2 u (s9 hu),by have:=h.2;omega⟩;unfold bY;split
 ·exact h1.2.1
 ·simp
theorem anu(t:Tm)(h:BT t)(ih:∀u∈bY t,CC 214 af [c7 u] (iI (w7 u))):CC 214 af [c7 t] (iI (w7 t)):=by
 refine CC.of al8 n214 (t214 _) (by simpa using kU t) (by simp) ?_;have Is:=acJ t;rw[bU]at Is⊢;simp[Z9,QU,SE.den,aj];refine⟨_,Is,?_⟩;have M0:(bY t).length<=9223372036854775807:=h.args.1;have D1:gX (bY t)<=1000000000000:=Nat.le_trans (Vc _ λu _=>aa0 u) h.args.2.2;refine⟨by simp,?_⟩;refine dD (bY t).length (λi (a:Int)=>[iI i,iI a]) (λi a=>a=gX ((bY t).take i)) 0 ?_ ?_ λi a hi ha=>?_
 ·simp[SE.den]
 ·simp[gX]
 by_cases ai:i<(bY t).length
 ·have hw:=aD ai M0;have hb:=ih (bY t)[i] (asO ai);rw[bU]at hb;simp[SE.den,ai,hw,vl ai,bU,aj];refine⟨_,hb,?_⟩;simp[SE.den,aa1,aA,hw];have g1:=Fu ai;refine⟨?_,by omega⟩;rw[g1,ha];split<;>omega
 ·have:(bY t).take i=bY t:=as0 (by omega);rw[this]at ha;have lM:as7.wrap (a+1)=a+1:=cQ (by omega) (by omega);simp[SE.den,ai,lM];rw[Fs,ha];simp
theorem ai4:∀t:Tm,BT t->CC 214 af [c7 t] (iI (w7 t))
 |.mk k n s ts,h=>anu _ h λu hu=>ai4 u (h.args.at hu)
 decreasing_by have:=s9 hu;simp[Tm.ts]at this;have:=aug this;simp;omega
def BB(t:Tm):Bool:=dM t&&decide (jN t<=200)&&decide (w7 t<=20)
def oS(l:List Tm):Bool:=l.all dM&&decide (cg l<=200)&&decide (gX l<=20)
def cC(a:At):Bool:=gd a.s&&decide (a.ts.length<=6)&&oS a.ts
def er(g:Gl):Bool:=if g.op=0 then cC ⟨g.s,g.ts⟩else g.s.isEmpty&&decide (gM g.op=g.ts.length)&&oS g.ts
theorem arl(t:Tm)(h:BT t):CC 163 af [c7 t] (iB (BB t)):=by
 refine CC.gV al5 n163 t163 (by simpa using kU t) (by rfl) ?_;have h1:=ai3 t h.1;have h2:=Xo t h.1.wf;have h3:=ai4 t h;rw[Ft t h.2]at h2;rw[bU]at h1 h2 h3⊢;simp[Z6,SE.den,aj];refine⟨_,h1,?_⟩;cases hf:dM t<;>simp[BB,hf];refine⟨_,h2,?_⟩;simp;by_cases hs:jN t<=200
 ·left;exact⟨by omega,_,h3,by simp[hs];omega⟩
 ·right;exact⟨by omega,λh=>absurd h hs⟩
theorem aa2{l:List Tm}{i:Nat}(h:i<l.length)(hp:BB l[i]=af):oS l=af:=by
 have hm:=asO h;have h1:=Ir hm;have h2:=Sj hm;cases hf:dM l[i]with
 |false=>simp[oS,Kd h hf]
 |true=>
  simp[BB,hf]at hp;simp[oS];intro _ _;have:=hp;omega
theorem v107(l:List Tm)(h:NK l):CC 107 af [iT l] (iB (oS l)):=by
 refine CC.gV al4 n107 t107 (by simp) (by rfl) ?_;simp[Z5,QS,SE.den,aj];refine dD l.length (λi (a:Int)=>[iI i,iI a]) (λi a=>a=cg (l.take i)/\(∀u∈l.take i,dM u=ab)/\gX (l.take i)<=20) 0 ?_ ?_ λi a hi hI=>?_
 ·simp[SE.den]
 ·simp[cg,gX]
 by_cases ai:i<l.length
 ·have hw:=aD ai h.1;have hm:=asO ai;have hb:=arl l[i] (h.at hm);have h2:=Xo l[i] (h.at hm).1.wf;rw[Ft _ (h.at hm).2]at h2;rw[bU]at hb h2;simp[SE.den,ai,hw,vl ai,bU,aj];refine⟨_,hb,?_⟩;cases hr:BB l[i]<;>simp
  ·exact aa2 ai hr
  refine⟨_,h2,?_⟩;have po:=hr;simp[BB]at po;have g1:=Fv ai;have g2:=Fw l (i+1);have g3:=h.2.2;have lM:as7.wrap (a+jN l[i])=a+jN l[i]:=by rw[hI.1];exact cQ (by omega) (by omega)
  simp[hw,lM];refine⟨by omega,by rw[g1,hI.1];simp,aC (p:=λu=>dM u=ab) ai hI.2.1 po.1.1,?_⟩;rw[Fu ai];have:=hI.2.2;omega
 ·have ht:l.take i=l:=as0 (by omega);rw[ht]at hI;obtain⟨h1,h2,h3⟩:=hI;have zq:l.all dM=ab:=by simpa using h2
  simp[SE.den,ai,oS,zq,h3];subst a;by_cases hs:cg l<=200<;>simp[hs]
  ·omega
  ·omega
theorem v49(a:At)(hs:Sm a.s)(h:NK a.ts):CC 49 af [.agg [iS a.s,iT a.ts]] (iB (cC a)):=by
 refine CC.gV aqq n49 t49 (by intro x hx;obtain rfl:=atF.1 hx;exact wB a) (by rfl) ?_;have h1:=v89 a.s hs;have h2:=v107 a.ts h;simp[ad4,SE.den,aj];refine⟨_,h1,?_⟩;cases hn:gd a.s<;>simp[cC,hn];by_cases hs:a.ts.length<=6
 ·left;exact⟨by omega,_,h2,by simp[hs]⟩
 ·right;exact⟨by omega,λh=>absurd h hs⟩
theorem v152(g:Gl)(hs:Sm g.s)(h:NK g.ts):CC 152 af [.agg [iI g.op,iS g.s,iT g.ts]] (iB (er g)):=by
 refine CC.gV al9 n152 t152 (by intro x hx;obtain rfl:=atF.1 hx;exact Fg g) (by rfl) ?_;have h1:=v49 ⟨g.s,g.ts⟩ hs h;have h2:=v107 g.ts h;have h3:=aqC g.op;simp[Z_,SE.den,aj];by_cases k0:g.op=0
 ·left;exact⟨k0,_,h1,by simp[er,k0]⟩
 right;refine⟨k0,?_⟩;by_cases ks:g.s=[]
 ·left;refine⟨ks,_,h3,?_⟩;simp;by_cases ka:gM g.op=g.ts.length
  ·left;exact⟨ka,_,h2,by simp[er,k0,ka,ks]⟩
  ·right;exact⟨ka,by simp[er,k0,ka]⟩
 ·right;exact⟨ks,by simp[er,k0,ks]⟩
end Go.Proofs.YtggffkaadeagbaaGreat
namespace Go.Proofs.YtggffkaadeagbaaGreat
open Go Go.Ev
def aeA(p:Bool->Int->Prop)(z:IV):Prop:=∃(b:Bool) (n:Int),z=.az [iB b,.agg [iI n]]/\p b n
@[simp] theorem arM(p:Bool->Int->Prop)(b:Bool)(n:Int):aeA p (.az [iB b,.agg [iI n]])↔p b n:=
  ⟨λ⟨b',n',h1,h2⟩=>by cases h1;exact h2,λh=>⟨b,n,rfl,h⟩⟩
theorem CC.Vd{n:Nat}{f:Nat}{cK:ak}{m:Int}{xs:List IV}{cfg:a_}{s:Bool}{r:Int}(he:xV asK cfg n [1] f=cK)(hl:(asK.funcs[f]?).map (·.params.size)=aa (1+xs.length))(hn:noTwo cK=ab)
 (hs:cK.sat asK CC (aeA λb k=>b=s/\(b=ab->k=r)) [] (iI m::xs)):∃k:Int,(s=ab->k=r)/\CC (712+f) ab (.agg [.agg [iI m]]::xs) (.az [iB s,.agg [iI k]]):=by
 obtain⟨z,⟨b,k,rfl,rfl,hb⟩,h2⟩:=yR hn hs;refine⟨k,hb,?_⟩;have h:=CC.alh (new:=ab) (ins:=[[iI m]]) (outs:=[[iI k]]) (xs:=xs) (z:=iB b) (cfg:=cfg) (n:=n) (f:=f) he hl rfl (by simp[aj]) h2;rw[dW]at h;exact h
def te(t:Tm)(n d:Int):Bool:=dM t&&decide ((jN t:Int)<=n)&&decide ((w7 t:Int)<=d)
def Ah(l:List Tm)(n d:Int):Bool:=l.all dM&&decide ((cg l:Int)<=n)&&decide ((gX l:Int)<=d)
theorem ai5{l:List Tm}{i:Nat}{n d:Int}(h:i<l.length)(hp:te l[i] (n- cg (l.take i)) d=af):Ah l n d=af:=by
 have hm:=asO h;have h2:=Sj hm;have g1:=Fv h;have g2:=Fw l (i+1);cases hf:dM l[i]with
 |false=>simp[Ah,Kd h hf]
 |true=>
  simp[te,hf]at hp;simp[Ah];intro _ _;have:=hp;omega
theorem aeB(l:List Tm)(hl:Sm l)(d:Int)(hd:0<=d)(ih:∀u∈l,∀n:Int,0<=n->n<=1000->∃k:Int,(te u n d=ab->k=n- jN u)/\CC 871 ab [.agg [.agg [iI n]],c7 u,iI d] (.az [iB (te u n d),.agg [iI k]]))(n:Int)(hn:0<=n)(dO:n<=1000):
 ∃k:Int,(Ah l n d=ab->k=n- cg l)/\CC 815 ab [.agg [.agg [iI n]],iT l,iI d] (.az [iB (Ah l n d),.agg [iI k]]):=by
 refine CC.Vd (f:=103) (xs:=[iT l,iI d]) amW n103 (by rfl) ?_;simp[aaE,SE.den,aj];unfold Ro;refine aw l.length (λi (a:Int)=>[iI i,iI a]) (λi a=>a=n- cg (l.take i)/\0<=a/\(∀u∈l.take i,dM u=ab)/\(gX (l.take i):Int)<=d) n ?_ (by simp[cg,gX,hn,hd]) λi a hi hI=>?_
 ·simp[SE.den]
 by_cases ai:i<l.length
 ·have hw:=aD ai hl;obtain⟨oT,iR,rS,hI4⟩:=hI;obtain⟨k,hp,hb⟩:=ih l[i] (asO ai) a iR (by omega);rw[bU]at hb;simp[SE.den,ai,hw,vl ai,bU,aj];refine⟨_,hb,?_⟩;cases hr:te l[i] a d<;>simp[aA,aj]
  ·exact ai5 ai (oT▸hr)
  ·have po:=hr;simp[te]at po;have g1:=Fv ai;have g2:=Fu ai;have hk:=hp hr;exact .mk k rfl (by omega) ⟨by omega,by omega,aC (p:=λu=>dM u=ab) ai rS po.1.1,by omega⟩
 ·have ht:l.take i=l:=as0 (by omega);rw[ht]at hI;obtain⟨h1,h2,h3,h4⟩:=hI;have Jh:l.all dM=ab:=by simpa using h3
  simp[SE.den,ai,aA];refine⟨?_,h1⟩;simp[Ah,Jh,h4];omega
theorem LR{t:Tm}(h:t.k=2):bY t=t.ts:=by simp[bY,h]
theorem LS{t:Tm}(h:t.k≠2):bY t=[]:=by simp[bY,h]
theorem sz1{t:Tm}(h:t.k≠2):jN t=1:=by simp[uN,LS h,cg]
theorem dp1{t:Tm}(h:t.k≠2):w7 t=1:=by simp[Fs,LS h,gX]
theorem XO{t:Tm}(h:t.k≠2)(n d:Int)(h1:1<=n)(h2:1<=d):te t n d=dM t:=by
 have e1:decide (((1:Nat):Int)<=n)=ab:=by simp;omega
 have e2:decide (((1:Nat):Int)<=d)=ab:=by simp;omega
 rw[te,sz1 h,dp1 h,e1,e2];simp
theorem anv{t:Tm}(h:t.k=2)(n d:Int):te t n d=(decide (t.n=0)&&((sh t.s&&decide (t.ts.length=2))||(gd t.s&&decide (t.ts.length<=6)))&&Ah t.ts (n- 1) (d- 1)):=by
 have e1:decide ((jN t:Int)<=n)=decide ((cg t.ts:Int)<=n- 1):=by rw[uN,LR h];simp;omega
 have e2:decide ((w7 t:Int)<=d)=decide ((gX t.ts:Int)<=d- 1):=by rw[Fs,LR h];simp;omega
 rw[te,e1,e2,LQ h,Ah];simp only[Bool.and_assoc]
theorem anw(t:Tm)(hs:Sm t.s)(hl:Sm t.ts)(d:Int)(ih:1<=d->∀u∈t.ts,∀n:Int,0<=n->n<=1000->∃k:Int,(te u n (d- 1)=ab->k=n- jN u)/\CC 871 ab [.agg [.agg [iI n]],c7 u,iI (d- 1)] (.az [iB (te u n (d- 1)),.agg [iI k]]))(n:Int)(hn:0<=n)(dO:n<=1000)(AS:0<=d)(Mg:d<=1000):
 ∃k:Int,(te t n d=ab->k=n- jN t)/\CC 871 ab [.agg [.agg [iI n]],c7 t,iI d] (.az [iB (te t n d),.agg [iI k]]):=by
 refine CC.Vd (f:=159) (xs:=[c7 t,iI d]) amV n159 (by rfl) ?_;rw[bU];have h1:=v83 t.s;have h2:=arj t.s;have w1:as7.wrap (n- 1)=n- 1:=cQ (by omega) (by omega);have w2:as7.wrap (d- 1)=d- 1:=cQ (by omega) (by omega);simp[aaD,SE.den,aj,aA,w1,w2];have hz:=afZ t;have hq:=af0 t;by_cases y0:n- 1<0
 ·left;refine⟨y0,?_⟩;simp[te];omega
 right;refine⟨by omega,?_⟩;by_cases y1:d<1
 ·left;refine⟨y1,?_⟩;simp[te];omega
 right;refine⟨by omega,?_⟩;obtain⟨k3,hp3,h3⟩:=aeB t.ts hl (d- 1) (by omega) (ih (by omega)) (n- 1) (by omega) (by omega);have ee:t.ts.isEmpty=decide (t.ts.length=0):=by cases t.ts<;>simp
 have es:t.s.isEmpty=decide (t.s=[]):=by cases t.s<;>simp
 have em:=axp (t.s=[]);by_cases k0:t.k=0
 ·left;refine⟨k0,?_⟩;have k2:t.k≠2:=by omega
  rw[XO k2 n d (by omega) (by omega),Va k0,sz1 k2];rw[ee,es];clear ih h3 hp3 h1 h2 w1 w2;simp;grind
 right;refine⟨k0,?_⟩;by_cases k1:t.k=1
 ·left;refine⟨k1,?_⟩;have k2:t.k≠2:=by omega
  rw[XO k2 n d (by omega) (by omega),LP k1,sz1 k2];rw[ee,es];clear ih h3 hp3 h1 h2 w1 w2;simp;grind
 right;refine⟨k1,?_⟩;by_cases k2:t.k=2
 rotate_left
 ·right;refine⟨k2,?_⟩;rw[XO k2 n d (by omega) (by omega),Vb k0 k1 k2]
 left;refine⟨k2,?_⟩
 have sq:∀b:Bool,te t n d=(b&&Ah t.ts (n- 1) (d- 1))->b=ab->Ah t.ts (n- 1) (d- 1)=te t n d/\(Ah t.ts (n- 1) (d- 1)=ab->k3=n- jN t):=λb e1 e2=>by
  subst e2;refine⟨by simp[e1],λh=>?_⟩;rw[hp3 h,uN,LR k2];simp;omega
 rw[anv k2]at sq⊢;by_cases n0:t.n=0
 rotate_left
 ·left;simp[n0]
 right;refine⟨n0,?_⟩;by_cases z6:(6:Int)<t.ts.length
 ·left;have:¬t.ts.length<=6:=by omega
  have:¬t.ts.length=2:=by omega
  simp[*]
 have z6':t.ts.length<=6:=by omega
 right;refine⟨by omega,_,h1,?_⟩;cases b1:gd t.s with
 |true=>
  simp[b1,n0,z6']at sq⊢;exact⟨_,h3,by simp[aj,aA];exact sq⟩
 |false=>
  simp;refine⟨_,h2,?_⟩;cases b2:sh t.s with
  |false=>simp
  |true=>
   simp;by_cases z2':t.ts.length=2
   ·simp[b1,b2,n0,z2']at sq⊢;exact⟨_,h3,by simp[aj,aA];exact sq⟩
   ·left;exact⟨by omega,λ_ h=>absurd h z2'⟩
theorem v159:∀t:Tm,oM t->∀n d:Int,0<=n->n<=1000->0<=d->d<=1000->∃k:Int,(te t n d=ab->k=n- jN t)/\CC 871 ab [.agg [.agg [iI n]],c7 t,iI d] (.az [iB (te t n d),.agg [iI k]])
 |.mk k n s ts,h=>λn d h1 h2 h3 h4=>by
  exact anw _ ((ny _).1 h).1 ((ny _).1 h).2.1 d (λhd u hu n a b=>v159 u (((ny _).1 h).2.2 u hu) n (d- 1) a b (by omega) (by omega)) n h1 h2 h3 h4
 decreasing_by simp[Tm.ts]at hu;have:=aug hu;simp;omega
theorem ai6(l:List Tm)(hl:Sm l)(h:∀t∈l,oM t)(n d:Int)(h1:0<=n)(h2:n<=1000)(h3:0<=d)(h4:d<=1000):
 ∃k:Int,CC 815 ab [.agg [.agg [iI n]],iT l,iI d] (.az [iB (Ah l n d),.agg [iI k]]):=by
 obtain⟨k,_,h⟩:=aeB l hl d h3 (λu hu n a b=>v159 u (h u hu) n d a b h3 h4) n h1 h2;exact⟨k,h⟩
theorem NL(l:List Tm):Ah l 200 20=oS l:=by
 have e1:∀a b:Nat,decide ((a:Int)<=b)=decide (a<=b):=λa b=>by simp
 rw[Ah,oS,show(200:Int)=((200:Nat):Int)from rfl,show(20:Int)=((20:Nat):Int)from rfl,e1,e1]
theorem v45(a:At)(h:nz a):CC 45 af [.agg [iS a.s,iT a.ts]] (iB (cC a)):=by
 refine CC.gV aqL n45 t45 (by intro x hx;obtain rfl:=atF.1 hx;exact wB a) (by rfl) ?_;have h1:=v83 a.s;obtain⟨k2,h2⟩:=ai6 a.ts h.2.1 h.2.2 200 20 (by omega) (by omega) (by omega) (by omega);rw[NL]at h2;simp[aei,SE.den,aj];refine⟨_,h1,?_⟩;cases hn:gd a.s<;>simp[cC,hn];by_cases hs:a.ts.length<=6
 ·left;exact⟨by omega,_,h2,by simp[aj,hs]⟩
 ·right;exact⟨by omega,λh=>absurd h hs⟩
theorem v138(g:Gl)(h:ta g):CC 138 af [.agg [iI g.op,iS g.s,iT g.ts]] (iB (er g)):=by
 refine CC.gV amY n138 t138 (by intro x hx;obtain rfl:=atF.1 hx;exact Fg g) (by rfl) ?_;have h1:=v83 g.s;obtain⟨k2,h2⟩:=ai6 g.ts h.2.1 h.2.2 200 20 (by omega) (by omega) (by omega) (by omega);rw[NL]at h2;have es:g.s.isEmpty=decide (g.s=[]):=by cases g.s<;>simp
 have ez:(g.ts=[])=(g.ts.length=0):=by cases g.ts<;>simp
 simp[aaF,SE.den,aj];by_cases k0:g.op=0
 ·left;refine⟨k0,_,h1,?_⟩;cases hn:gd g.s<;>simp[er,k0,cC,hn];by_cases h6:g.ts.length<=6
  ·left;exact⟨by omega,_,h2,by simp[aj,h6]⟩
  ·right;exact⟨by omega,λh=>absurd h h6⟩
 right;refine⟨k0,?_⟩;have hG:∀A:Int,gM g.op=A->er g=(decide (g.s=[])&&decide (A=g.ts.length)&&oS g.ts):=λA e=>by simp only[er,k0,if_false,es,e]
 by_cases k1:g.op=1
 ·left;refine⟨k1,?_⟩;left;refine⟨by omega,?_⟩;left;refine⟨by omega,?_⟩;have gA:=hG 0 (by simp[gM,k1]);by_cases ks:g.s=[]
  ·left;refine⟨ks,?_⟩;by_cases kt:g.ts=[]
   ·left;exact⟨kt,_,h2,by simp[aj,gA,ks,kt]⟩
   ·right;exact⟨kt,by rw[gA];have:¬(0:Int)=g.ts.length:=λe=>kt (atr (by omega));simp[this]⟩
  ·right;exact⟨ks,by simp[gA,ks]⟩
 right;refine⟨k1,?_⟩;by_cases k2:g.op=2
 ·left;refine⟨k2,?_⟩;left;refine⟨by omega,?_⟩;left;refine⟨by omega,?_⟩;have gA:=hG 0 (by simp[gM,k2]);by_cases ks:g.s=[]
  ·left;refine⟨ks,?_⟩;by_cases kt:g.ts=[]
   ·left;exact⟨kt,_,h2,by simp[aj,gA,ks,kt]⟩
   ·right;exact⟨kt,by rw[gA];have:¬(0:Int)=g.ts.length:=λe=>kt (atr (by omega));simp[this]⟩
  ·right;exact⟨ks,by simp[gA,ks]⟩
 right;refine⟨k2,?_⟩;by_cases NF:g.op=11
 ·left;refine⟨NF,?_⟩;left;refine⟨by omega,?_⟩;left;refine⟨by omega,?_⟩;have gA:=hG 1 (by simp[gM,NF]);by_cases ks:g.s=[]
  ·left;refine⟨ks,?_⟩;by_cases kt:(g.ts.length:Int)=1
   ·left;exact⟨kt,_,h2,by simp[aj,gA,ks,kt]⟩
   ·right;exact⟨kt,by rw[gA];simp[ks];omega⟩
  ·right;exact⟨ks,by simp[gA,ks]⟩
 right;refine⟨NF,?_⟩;by_cases NG:g.op=12
 ·left;refine⟨NG,?_⟩;left;refine⟨by omega,?_⟩;left;refine⟨by omega,?_⟩;have gA:=hG 1 (by simp[gM,NG]);by_cases ks:g.s=[]
  ·left;refine⟨ks,?_⟩;by_cases kt:(g.ts.length:Int)=1
   ·left;exact⟨kt,_,h2,by simp[aj,gA,ks,kt]⟩
   ·right;exact⟨kt,by rw[gA];simp[ks];omega⟩
  ·right;exact⟨ks,by simp[gA,ks]⟩
 right;refine⟨NG,?_⟩;by_cases p0:0<g.op
 rotate_left
 ·right;refine⟨by omega,?_⟩;have:¬(2<g.op/\g.op<11):=by omega
  rw[hG (-1) (by simp[gM,k1,k2,NF,NG,this])];simp;try omega
 left;refine⟨p0,?_⟩;by_cases p12:g.op<=12
 rotate_left
 ·right;refine⟨by omega,?_⟩;have:¬(2<g.op/\g.op<11):=by omega
  rw[hG (-1) (by simp[gM,k1,k2,NF,NG,this])];simp;try omega
 left;refine⟨p12,?_⟩;have hp:2<g.op/\g.op<11:=by omega
 have gA:=hG 2 (by simp[gM,k1,k2,NF,NG,hp]);by_cases ks:g.s=[]
 ·left;refine⟨ks,?_⟩;by_cases kt:(g.ts.length:Int)=2
  ·left;exact⟨kt,_,h2,by simp[aj,gA,ks,kt]⟩
  ·right;exact⟨kt,by rw[gA];simp[ks];omega⟩
 ·right;exact⟨ks,by simp[gA,ks]⟩
end Go.Proofs.YtggffkaadeagbaaGreat
namespace Go.Proofs.YtggffkaadeagbaaGreat
open Go Go.Ev
mutual
theorem af2:∀t:Tm,dM t=ab->dE t
 |.mk k n s ts,h=>by
  rw[Ab];simp only[Tm.k,Tm.n,Tm.ts];refine⟨λh1=>?_,λh2=>?_⟩
  ·rw[LP (by exact h1)]at h;simp only[Tm.n,asN]at h;exact⟨of_decide_eq_true h.1.1.1,of_decide_eq_true h.1.1.2⟩
  ·rw[LQ (by exact h2),<-xG]at h;simp only[asN]at h;exact It ts h.2
theorem It:∀l:List Tm,BA l=ab->∀u∈l,dE u
 |[],_=>by simp
 |t::l,h=>by
  simp only[BA,asN]at h;intro u hu;rcases aty.1 hu with hu|hu
  ·rw[hu];exact af2 t h.1
  ·exact It l h.2 u hu
end
theorem Sl{l:List Tm}(h:oS l=ab):∀u∈l,dE u:=by
 simp only[oS,asN,<-xG]at h;exact It l h.1.1
def ry(acc:List Int)(x:Int):List Int:=if x∈acc then acc else acc++[x]
def cS(l xs:List Int):List Int:=xs.foldl ry l
theorem yZ(xs:List Int):cS [] xs=Bv xs:=rfl
theorem mL(l xs ys:List Int):cS l (xs++ys)=cS (cS l xs) ys:=by simp[cS,List.foldl_append]
theorem Vr.cS{l xs:List Int}(h:Vr l)(hx:∀x∈xs,0<=x/\x<=1048576):Vr (cS l xs):=by
 induction xs generalizing l with
 |nil=>exact h
 |cons x xs ih=>
  refine ih (l:=ry l x) ?_ (λy hy=>hx y (by simp[hy]));unfold ry;split
  ·exact h
  ·exact h.snoc (by assumption) (hx x (by simp))
def fL(l:List Tm):List Int:=(l.map gq).flatten
theorem NN{l:List Tm}{i:Nat}(h:i<l.length):fL (l.take (i+1))=fL (l.take i)++gq l[i]:=by
 unfold fL;rw[asX h,List.map_append,List.flatten_append];simp
theorem XP{l:List Tm}(h:∀t∈l,dE t):∀x∈fL l,0<=x/\x<=1048576:=λx hx=>by
 obtain⟨y,hy,hx⟩:=List.mem_flatten.1 hx;obtain⟨u,hu,rfl⟩:=List.mem_map.1 hy;exact Af u (h u hu) x hx
theorem aa3{t:Tm}(h:t.k≠1):gq t=fL (bY t):=by
 obtain⟨k,n,s,ts⟩:=t;simp only[Tm.k]at h;simp only[gq,h,if_false,bY,Tm.k,Tm.ts,Da,fL];by_cases h2:k=2<;>simp[h2]
theorem CC.arn{n:Nat}{new:Bool}{f:FuncId}{cK:ak}{cfg:a_}{l r:List Int}{xs:List IV}(he:xU asK cfg n 1 f=cK)(hl:(asK.funcs[f]?).map (·.params.size)=aa (xs.length+1))(hn:noTwo cK=ab)
 (hs:cK.sat asK CC (C9 (·=r)) [] (iL l::xs)):CC (356+f) new (iL l::xs) (iL r):=by
 obtain⟨_,rfl,h⟩:=CC.ah9 (·=r) he hl hn hs;exact h
theorem CC.Dg{n:Nat}{new:Bool}{f:FuncId}{cK:ak}{cfg:a_}{args:List IV}{r:List Int}(he:aH asK cfg n new f=cK)(hl:(asK.funcs[f]?).map (·.params.size)=aa args.length)(ht:∀z,aO asK f z=ab)(hp:∀x∈args,Pure x)(hn:noTwo cK=ab)
 (hs:cK.sat asK CC (C9 (·=r)) [] args):CC f new args (iL r):=by
 obtain⟨_,rfl,h⟩:=CC.ah_ (·=r) he hl ht hp hn hs;exact h
theorem anx(t:Tm)(q7:Sm t.ts)(ht:dE t)(ih:∀u∈t.ts,dE u->∀l:List Int,Vr l->CC 511 ab [iL l,c7 u] (iL (cS l (gq u))))(l:List Int)(hl:Vr l):
 CC 511 ab [iL l,c7 t] (iL (cS l (gq t))):=by
 refine CC.arn (f:=155) ams n155 (by rfl) ?_;have Is:=acJ t;have qR:=hl.len;have M0:(bY t).length<=9223372036854775807:=by unfold bY;split<;>simp[q7]
 have hfa:∀u∈bY t,dE u:=λu hu=>aap ht hu;have iha:∀u∈bY t,∀l:List Int,Vr l->CC 511 ab [iL l,c7 u] (iL (cS l (gq u))):=λu hu=>ih u (s9 hu) (hfa u hu);rw[bU]at Is⊢;have key:∀(m:List Int),Vr m->∀(x:List IV->List IV) (K:List (List IV->Prop)),True:=λ_ _ _ _=>trivial
 have step:∀{m:List Int} {i:Nat} {a:List Int} (ai:i<(bY t).length),Vr a/\a=cS m (fL ((bY t).take i))->Vr (cS a (gq (bY t)[i]))/\cS a (gq (bY t)[i])=cS m (fL ((bY t).take (i+1))):=by
  rintro m i a ai ⟨h1,rfl⟩;exact⟨h1.cS (Af _ (hfa _ (asO ai))),by rw[NN ai,mL]⟩
 have fin:∀{m:List Int} {i:Nat} {a:List Int},¬i<(bY t).length->Vr a/\a=cS m (fL ((bY t).take i))->a=cS m (fL (bY t)):=by
  rintro m i a ai ⟨_,rfl⟩;rw[as0 (by omega)]
 have l4:t.k≠1->Ib.sat asK CC (C9 (·=cS l (gq t))) [] [iL l,.agg [iI t.k,iI t.n,iS t.s,iT t.ts],iT (bY t)]:=by
  intro hk;rw[aa3 hk];unfold Ib;refine aw (bY t).length (λi (a:List Int)=>[iI i,iL a]) (λi a=>Vr a/\a=cS l (fL ((bY t).take i))) l ?_ ?_ λi a hi hI=>?_
  ·simp[SE.den]
  ·exact⟨hl,rfl⟩
  by_cases ai:i<(bY t).length
  ·have hw:=aD ai M0;have hb:=iha (bY t)[i] (asO ai) a hI.1;rw[bU]at hb;simp[SE.den,ai,hw,vl ai,bU,aj,aA,cellsOf];exact⟨_,hb,_,by simp,by omega,step ai hI⟩
  ·simp[SE.den,ai];exact⟨_,⟨by simp[cellsOf,aA],rfl⟩,by rw[Bs];exact fin ai hI⟩
 have l2:bY t=[]->∀x:IV,Ia.sat asK CC (C9 (·=l)) [] [iL l,.agg [iI t.k,iI t.n,iS t.s,iT t.ts],x,iT (bY t)]:=by
  intro ha x;unfold Ia;rw[ha];refine aw 0 (λi (a:List Int)=>[iI i,iL a]) (λi a=>a=l) l ?_ rfl λi a hi hI=>?_
  ·simp[SE.den]
  obtain rfl:i=0:=by omega
  simp[SE.den];subst a;exact⟨_,⟨by simp[cellsOf,aA],rfl⟩,by rw[Bs]⟩
 have l1:bY t=[]->∀(x:IV) (m:List Int),H_.sat asK CC (C9 (·=m)) [] [iL l,.agg [iI t.k,iI t.n,iS t.s,iT t.ts],x,iL m,iT (bY t)]:=by
  intro ha x m;unfold H_;rw[ha];refine aw 0 (λi (a:List Int)=>[iI i,iL a]) (λi a=>a=m) m ?_ rfl λi a hi hI=>?_
  ·simp[SE.den]
  obtain rfl:i=0:=by omega
  simp[SE.den];subst a;exact⟨_,⟨by simp[cellsOf,aA],rfl⟩,by rw[Bs]⟩
 have l0:H9.sat asK CC (C9 (·=cS l (gq t))) [Ly λvs=>∃b:Bool,vs=[iB b]/\(b=decide (t.n∈l))] [iL l,.agg [iI t.k,iI t.n,iS t.s,iT t.ts]]:=by
  unfold H9;refine dD l.length (λi (_:Unit)=>[iI i]) (λi _=>∀x∈l.take i,x≠t.n) () ?_ ?_ λi _ hi hI=>?_
  ·simp[SE.den]
  ·simp
  by_cases ai:i<l.length
  ·have hw:=aD ai (by omega);simp[SE.den,ai,hw,cellsOf,Ly];by_cases he:l[i]=t.n
   ·left;exact⟨he,he▸asO ai⟩
   ·right;exact⟨he,by omega,aC ai hI he⟩
  ·have:=aK ai hI;simp[SE.den,ai,Ly];exactλh=>this _ h rfl
 simp[aao,SE.den,aj];by_cases k1:t.k=1
 ·left;refine⟨k1,?_⟩;have aro:gq t=[t.n]:=by obtain⟨k,n,s,ts⟩:=t;simp only[Tm.k]at k1;simp[gq,k1,Tm.n]
  have bp:bY t=[]:=LS (by omega);rw[aro]at l0⊢;unfold Q7;refine ot (λvs=>∃b:Bool,vs=[iB b]/\(b=decide (t.n∈l))) l0 ?_;rintro vs ⟨b,rfl,hb⟩;refine⟨rfl,?_⟩;simp[SE.den,aj,aA,cellsOf];have Dh:cS l [t.n]=ry l t.n:=rfl;rw[Dh];unfold ry;cases b with
  |true=>
   have hm:t.n∈l:=by simpa using hb.symm
   rw[if_pos hm];right;exact⟨rfl,_,Is,by simp,l2 bp _⟩
  |false=>
   have hm:t.n∉l:=by simpa using hb.symm
   rw[if_neg hm];left;refine⟨rfl,iL (l++[t.n]),?_,_,Is,by simp,l1 bp _ _⟩;simp[kq,jm,cellsOf];exact⟨rfl,by omega,by omega⟩
 ·right;exact⟨k1,_,Is,by simp,l4 k1⟩
theorem ac4:∀t:Tm,uJ t->dE t->∀l:List Int,Vr l->CC 511 ab [iL l,c7 t] (iL (cS l (gq t)))
 |.mk k n s ts,h,hf=>anx _ ((vj _).1 h).1 hf λu hu=>ac4 u (((vj _).1 h).2 u hu)
 decreasing_by simp[Tm.ts]at hu;have:=aug hu;simp;omega
theorem aeC{Q:IV->Prop}(ts:List Tm)(q7:Sm ts)(hw:∀t∈ts,uJ t/\dE t)(hQ:Q (iL (varsOf ts))):JW.sat asK CC Q [] [iT ts]:=by
 simp[JW,QX,SE.den,aj];refine aw ts.length (λi (a:List Int)=>[iI i,iL a]) (λi a=>Vr a/\a=cS [] (fL (ts.take i))) [] ?_ ⟨Vr.nil,rfl⟩ λi a hi hI=>?_
 ·simp[SE.den]
 by_cases ai:i<ts.length
 ·have lM:=aD ai q7;have hf:=hw _ (asO ai);have hb:=ac4 ts[i] hf.1 hf.2 a hI.1;rw[bU]at hb;simp[SE.den,ai,lM,vl ai,bU,aj,aA,cellsOf];obtain⟨h1,rfl⟩:=hI;exact⟨_,hb,_,by simp,by omega,h1.cS (Af _ hf.2),by rw[NN ai,mL]⟩
 ·obtain⟨h1,h2⟩:=hI;rw[as0 (by omega)]at h2;simp[SE.den,ai];subst a;exact hQ
theorem ai7(ts:List Tm)(q7:Sm ts)(hw:∀t∈ts,uJ t/\dE t):CC 108 af [iT ts] (iL (varsOf ts)):=
 CC.Dg amb n108 t108 (by simp) (by rfl) (aeC ts q7 hw (by rw[Bs]))
theorem aeD(ts:List Tm)(q7:Sm ts)(hw:∀t∈ts,uJ t/\dE t):CC 108 ab [iT ts] (iL (varsOf ts)):=
 CC.Dg aia n108 t108 (by simp) (by rfl) (aeC ts q7 hw (by rw[Bs]))
theorem v93(g:Gl)(q7:Sm g.ts)(hw:∀t∈g.ts,uJ t/\dE t):CC 93 af [.agg [iI g.op,iS g.s,iT g.ts]] (iL (varsOf g.ts)):=by
 refine CC.Dg aqr n93 t93 (by intro x hx;obtain rfl:=atF.1 hx;exact Fg g) (by rfl) ?_;have hb:=ai7 g.ts q7 hw;simp[ad5,SE.den,aj];exact⟨_,hb,by simp⟩
theorem v50(g:At)(q7:Sm g.ts)(hw:∀t∈g.ts,uJ t/\dE t):CC 50 af [.agg [iS g.s,iT g.ts]] (iL (varsOf g.ts)):=by
 refine CC.Dg aqt n50 t50 (by intro x hx;obtain rfl:=atF.1 hx;exact wB g) (by rfl) ?_;have hb:=ai7 g.ts q7 hw;simp[ad7,SE.den,aj];exact⟨_,hb,by simp⟩
end Go.Proofs.YtggffkaadeagbaaGreat
namespace Go.Proofs.YtggffkaadeagbaaGreat
open Go Go.Ev
def aeE(ds:List De)(s:List UInt8)(n:Int):Prop:=∃d∈ds,d.s=s/\d.n=n
noncomputable def br(ds:List De)(s:List UInt8)(n:Int):Bool:=ds.any λd=>d.s==s&&d.n==n
theorem Fx(ds:List De)(s:List UInt8)(n:Int):br ds s n=ab↔aeE ds s n:=by simp[br,aeE]
theorem lA{ds:List De}{s:List UInt8}{n:Int}(h:∀d∈ds,(d.s=s->¬d.n=n)):br ds s n=af:=by
 cases hb:br ds s n with
 |false=>rfl
 |true=>obtain⟨d,h1,h2⟩:=(Fx _ _ _).1 hb;exact absurd h2.2 (h d h1 h2.1)
theorem Fy{ds:List De}{s:List UInt8}{n:Int}{d:De}(hd:d∈ds)(h:d.s=s/\d.n=n):br ds s n=ab:=(Fx _ _ _).2 ⟨d,hd,h⟩
theorem v51(l:List De)(s:List UInt8)(n:Int)(hl:Sm l):CC 51 af [eK l,iS s,iI n] (iB (br l s n)):=by
 refine CC.gV aqo n51 t51 (by simp) (by rfl) ?_;simp[ad2,Ug,SE.den,aj];refine dD l.length (λi (_:Unit)=>[iI i]) (λi _=>∀d∈l.take i,(d.s=s->¬d.n=n)) () ?_ (by simp) λi _ hi hI=>?_
 ·simp[SE.den]
 by_cases ai:i<l.length
 ·have hw:=aD ai hl;have hs:=λh=>aC (p:=λd:De=>(d.s=s->¬d.n=n)) ai hI h;have hy:=Fy (asO ai) (s:=s) (n:=n);simp[SE.den,ai,hw,uM ai,aj];by_cases h1:l[i].s=s
  ·by_cases h2:l[i].n=n
   ·simp[h1,h2];exact hy ⟨h1,h2⟩
   ·simp[h1,h2];exact⟨by omega,hs λ_ h=>h2 h⟩
  ·simp[h1];exact⟨by omega,hs λh=>absurd h h1⟩
 ·simp[SE.den,ai];exact lA (aK ai hI)
theorem arp(l:List De)(s:List UInt8)(n:Int)(hl:Sm l):CC 51 ab [eK l,iS s,iI n] (iB (br l s n)):=by
 refine CC.gV amw n51 t51 (by simp) (by rfl) ?_;simp[aax,Ri,SE.den,aj];refine dD l.length (λi (_:Unit)=>[iI i]) (λi _=>∀d∈l.take i,(d.s=s->¬d.n=n)) () ?_ (by simp) λi _ hi hI=>?_
 ·simp[SE.den]
 by_cases ai:i<l.length
 ·have hw:=aD ai hl;have hs:=λh=>aC (p:=λd:De=>(d.s=s->¬d.n=n)) ai hI h;have hy:=Fy (asO ai) (s:=s) (n:=n);simp[SE.den,ai,hw,uM ai,aj,aA];by_cases h1:l[i].s=s
  ·by_cases h2:l[i].n=n
   ·simp[h1,h2];exact hy ⟨h1,h2⟩
   ·simp[h1,h2];exact⟨by omega,hs λ_ h=>h2 h⟩
  ·simp[h1];exact⟨by omega,hs λh=>absurd h h1⟩
 ·simp[SE.den,ai,aA];exact lA (aK ai hI)
theorem ai8(l:List De)(s:List UInt8)(n:Int)(hl:Sm l):∃b,(b=0↔br l s n=ab)/\CC 200 af [eK l,iS s,iI n] (iI b):=by
 refine CC.LA _ amd n200 t200 (by simp) (by rfl) ?_;simp[aae,Q3,SE.den,aj];refine dD l.length (λi (a:Int)=>[iI i,iI a]) (λ_ a=>a≠0) 7 ?_ (by simp) λi a hi ha=>?_
 ·simp[SE.den]
 by_cases ai:i<l.length
 ·have hw:=aD ai hl;simp[SE.den,ai,hw,uM ai,aj];by_cases h1:l[i].s=s
  ·simp[h1];omega
  ·simp[h1];omega
 ·have hb:=v51 l s n hl;simp[SE.den,ai];refine⟨_,hb,?_⟩;cases br l s n<;>simp[ha]
def Ke(ds:List De)(gs:List Gl):Prop:=∀g∈gs,g.op=0->br ds g.s g.ts.length=ab
theorem v201(l:List De)(g:List Gl)(hl:Sm l)(hg:Sm g):∃b,(b=0↔Ke l g)/\CC 201 af [eK l,rP g] (iI b):=by
 refine CC.LA _ ame n201 t201 (by simp) (by rfl) ?_;simp[aaf,Q4,SE.den,aj];refine dD g.length (λi (_:Unit)=>[iI i]) (λi _=>∀x∈g.take i,x.op=0->br l x.s x.ts.length=ab) () ?_ (by simp) λi a hi hI=>?_
 ·simp[SE.den]
 by_cases ai:i<g.length
 ·have hw:=aD ai hg;obtain⟨b,hz,hb⟩:=ai8 l g[i].s g[i].ts.length hl;have hs:=λh=>aC (p:=λx:Gl=>x.op=0->br l x.s x.ts.length=ab) ai hI h;simp[SE.den,ai,hw,mI ai,aj];by_cases h1:g[i].op=0
  ·right;refine⟨h1,_,hb,?_⟩;simp[hw];by_cases h2:b=0
   ·right;exact⟨h2,by omega,hs λ_=>hz.1 h2⟩
   ·left;exact⟨h2,by simp[h2];exactλh=>h2 (hz.2 (h _ (asO ai) h1))⟩
  ·left;exact⟨h1,by omega,hs λh=>absurd h h1⟩
 ·simp[SE.den,ai];exact aK ai hI
def kK(n:Int):Bool:=decide (5<=n)&&decide (n<=12)
theorem ai9(n:Int):CC 202 af [iI n] (iB (kK n)):=by
 refine CC.gV amf n202 t202 (by simp) (by rfl) ?_;simp[aag,SE.den,aj,kK];omega
theorem arq(l:List Int)(n:Int)(hl:Sm l):CC 204 af [iL l,iI n] (iB (decide (n∈l))):=by
 refine CC.gV ami n204 t204 (by simp) (by rfl) ?_;simp[aai,Q6,SE.den,aj];refine dD l.length (λi (_:Unit)=>[iI i]) (λi _=>∀x∈l.take i,x≠n) () ?_ (by simp) λi _ hi hI=>?_
 ·simp[SE.den]
 by_cases ai:i<l.length
 ·have hw:=aD ai hl;simp[SE.den,ai,hw];by_cases h1:l[i]=n
  ·left;exact⟨h1,h1▸asO ai⟩
  ·right;exact⟨h1,by omega,aC ai hI h1⟩
 ·have:=aK ai hI;simp[SE.den,ai];exactλh=>this _ h rfl
end Go.Proofs.YtggffkaadeagbaaGreat
