/- A part of the proof, no condition: what the checks of the program compute: names, terms, the variables of a rule. -/
import Derived.Test.YtpfogalbnijcoaaGreatRhC
import Derived.Test.YtpfogalbnijcoaaGreatRgA
import Derived.Test.YtpfogalbnijcoaaGreatRhA
import Derived.Test.YtpfogalbnijcoaaGreatRgI
import Derived.Test.YtpfogalbnijcoaaGreatRiJ
open Go.Proofs.Tryz renaming prog->ar1
open List renaming all_eq_false->awE,getElem_mem->ar5,sizeOf_lt_of_mem->atw,mem_cons->asS,take_succ_eq_append_getElem->ase,take_of_length_le->asf,mem_singleton->asU,eq_nil_of_length_eq_zero->asF
open Go.Lib renaming indexByte->awl
open Ne renaming symm->awb
open ByteArray renaming size->avT,getElem_eq_getElem_data->axF
open Classical renaming em->awF
open Go.IntKind renaming i64->asC
open Bool renaming and_eq_true->ar4
open Option renaming some->aa
open Bool renaming true->ab,false->af
set_option linter.all false
namespace Go.Proofs.YtpfogalbnijcoaaGreat
open Go Go.Ev
variable{n:Nat}{new:Bool}{f:FuncId}{cF:ak}{args:List IV}{cfg:bg}
theorem CC.gN{s:Bool}(he:aK ar1 cfg n new f=cF)(hl:(ar1.funcs[f]?).map (·.params.size)=aa args.length)(ht:∀z,aQ ar1 f z=ab)(hp:∀x∈args,Pure x)(hn:noTwo cF=ab)
 (hs:cF.sat ar1 CC (nQ (·=s)) [] args):CC f new args (iB s):=by
 obtain⟨b,rfl,h⟩:=CC.qq (·=s) he hl ht hp hn hs;exact h
def pV(c:Int):Bool:=decide (97<=c/\c<=122)
def Az(c:Int):Bool:=decide (65<=c/\c<=90)
def ma(c:Int):Bool:=pV c||Az c||decide (48<=c/\c<=57)||decide (c=95)
def EZ(s:List UInt8):Bool:=s==[99,111,110,115,116,114,97,105,110,116]||s==[116,114,117,101]||s==[102,97,105,108]||s==[105,115]||s==[105,110,116]||s==[103,114,111,117,110,100]
def rO(s:List UInt8):Bool:=s==[43]||s==[45]||s==[42]||s==[47]||s==[37]
def vC(s:List UInt8):Bool:=s.all (λc=>ma c.toNat)&&(decide (1<=s.length)&&decide (s.length<=40))
def fT(s:List UInt8):Bool:=vC s&&pV ((s.headD 0).toNat:Int)&& !EZ s
theorem v148(c:Int):CC 198 af [oZ c] (iB (pV c)):=by
 refine CC.gN akT n148 t148 (by simp) (by rfl) ?_;simp[Y6,SE.den,pV];omega
theorem v198(c:Int):CC 240 af [oZ c] (iB (Az c)):=by
 refine CC.gN akU n198 t198 (by simp) (by rfl) ?_;simp[Y7,SE.den,Az];omega
theorem ap_(c:List UInt8):CC 199 af [iS c] (iB (EZ c)):=by
 refine CC.gN akV n149 t149 (by simp) (by rfl) ?_;simp[Y8,SE.den,EZ]
 grind
theorem aqa(c:List UInt8):CC 272 af [iS c] (iB (rO c)):=by
 refine CC.gN ak4 n257 t257 (by simp) (by rfl) ?_;simp[Zd,SE.den,rO]
 grind
theorem afd(c:Int):ma c=ab↔pV c=ab\/Az c=ab\/(48<=c/\c<=57)\/c=95:=by simp[ma,or_assoc]
theorem aqb(c:List UInt8)(hc:Sm c):CC 197 af [iS c] (iB (vC c)):=by
 refine CC.gN akS n147 t147 (by simp) (by rfl) ?_;simp[Y5,Qm,SE.den];refine dE c.length (λi (_:Unit)=>[iI i]) (λi _=>∀u∈c.take i,ma u.toNat=ab) () ?_ ?_ λi _ hi hI=>?_
 ·simp[SE.den]
 ·simp
 by_cases ai:i<c.length
 ·have hw:=aD ai hc;have h1:=v148 c[i].toNat;have h2:=v198 c[i].toNat
  have bw:¬ma c[i].toNat=ab->vC c=af:=λh=>by
   unfold vC;rw[Bool.and_eq_false_iff];left;rw[awE];exact⟨c[i],ar5 ai,by simpa using h⟩
  have RG:=λh=>aB (p:=λu:UInt8=>ma u.toNat=ab) ai hI h;rw[afd]at bw RG;simp[SE.den,ai,hw];refine⟨_,h1,?_⟩;cases cI:pV c[i].toNat with
  |true=>simp;exact⟨by omega,RG (.inl cI)⟩
  |false=>
   simp;refine⟨_,h2,?_⟩;cases fg:Az c[i].toNat with
   |true=>simp;exact⟨by omega,RG (.inr (.inl fg))⟩
   |false=>
    simp[cI,fg]at RG bw⊢;have cW:i+1<=c.length:=by omega
    generalize(∀u∈c.take (i+1),ma u.toNat=ab)=A at RG⊢;have C0:i+1<=c.length/\A↔A:=by simp[cW]
    grind
 ·have:=aI ai hI;simp[SE.den,ai,vC];have ha:(c.all λc=>ma c.toNat)=ab:=by simpa using this
  simp only[ha,Bool.true_and];by_cases h1:1<=c.length
  ·left;refine⟨by omega,?_⟩;simp[h1];omega
  ·right;exact⟨by omega,λ_ h=>absurd h h1⟩
theorem aab{c:List UInt8}(h:vC c=ab):0<c.length:=by
 simp[vC]at h;omega
theorem v89(c:List UInt8)(hc:Sm c):CC 118 af [iS c] (iB (fT c)):=by
 refine CC.gN apk n89 t89 (by simp) (by rfl) ?_;have h1:=aqb c hc;have h3:=ap_ c;simp[adf,SE.den];refine⟨_,h1,?_⟩;cases hw:vC c with
 |false=>simp[fT,hw]
 |true=>
  have hl:=aab hw;have h2:=v148 c[0].toNat;have h0:c.headD 0=c[0]:=by cases c with|nil=>simp at hl|cons=>rfl
  have hn:fT c=(vC c&&pV c[0].toNat&& !EZ c):=by rw[<-h0];rfl
  rw[hn];simp[hl];refine⟨_,h2,?_⟩;cases hb:pV c[0].toNat with
  |false=>simp
  |true=>
   simp;exact⟨_,h3,by simp[hw]⟩
theorem aqc(s:List UInt8):CC 180 af [iS s] (iB (EZ s)):=by
 refine CC.gN amd n136 t136 (by simp) (by rfl) ?_;simp[Z5,SE.den,EZ]
 grind (splits:=40)
def CU(c:Int):Int:=if pV c then 1 else if Az c||decide (c=95)then 2 else if decide (48<=c/\c<=57)then 4 else 0
theorem aia(c:Int):CC 230 af [oZ c] (oZ (CU c)):=by
 refine CC.of amc n192 (t192 _) (by simp) (by simp) ?_;simp[Z4,SE.den,CU,pV,Az]
 grind (splits:=40)
theorem aqd(s:List UInt8):CC 235 af [iS s] (iB (rO s)):=by
 refine CC.gN amf n211 t211 (by simp) (by rfl) ?_;simp[Z6,SE.den]
 match s with
 |[c]=>
  have hb:CC 260 af [iS [43,45,42,47,37],iS [c]] (.raw (.bool (decide (0<=awl [43,45,42,47,37] c)))):=CC.plain (by rw[dP];decide) (ap1 _ c) (.raw _) (t256 _);left;refine⟨by simp,_,hb,?_⟩;have i43:=Lib.indexByte_ge;simp[rO,awl];by_cases h1:c=43
  ·simp[h1]
  by_cases h2:c=45
  ·simp[h2]
  by_cases h3:c=42
  ·simp[h3]
  by_cases h4:c=47
  ·simp[h4]
  by_cases h5:c=37
  ·simp[h5]
  simp[h1,h2,h3,h4,h5,awb h1,awb h2,awb h3,awb h4,awb h5]
 |[]=>right;simp[rO]
 |_::_::_=>right;simp[rO];omega
theorem afe(c:Int):dc ar1 .and 225 (oZ (CU c)) (oZ 7)=aa (oZ (CU c)):=by
 unfold CU;split
 ·rfl
 split
 ·rfl
 split<;>rfl
theorem acg(c:Int):dc ar1 .and 225 (oZ (CU c)) (oZ 1)=aa (oZ (if pV c then 1 else 0)):=by
 unfold CU;split
 ·rfl
 split
 ·rfl
 split<;>rfl
theorem amp(c:Int):CU c=0↔ma c=af:=by
 unfold CU ma;cases pV c<;>cases Az c<;>simp
 grind
theorem JK(c:UInt8)(s:List UInt8):fT (c::s)=(pV c.toNat&&decide (s.length<=39)&&s.all (λc=>ma c.toNat)&& !EZ (c::s)):=by
 unfold fT vC;cases h:pV c.toNat with
 |false=>simp[h]
 |true=>
  have:ma c.toNat=ab:=by simp[ma,h]
  simp[h,this,Bool.and_comm]
theorem v83(s:List UInt8):CC 105 af [iS s] (iB (fT s)):=by
 refine CC.gN ap0 n83 t83 (by simp) (by rfl) ?_;have hr:=aqc s;cases s with
 |nil=>simp[W8,SE.den];rfl
 |cons c s'=>
  have ha:=aia (c.toNat:Int);simp[W8,SE.den];by_cases h1:(40:Int)<s'.length+1
  ·left;refine⟨h1,?_⟩;rw[JK];simp;omega
  right;refine⟨by omega,_,ha,?_⟩;simp[acg];have hl:(decide (s'.length<=39))=ab:=by simp;omega
  rw[JK,hl];cases h2:pV c.toNat with
  |false=>simp
  |true=>
  simp;refine⟨iS s',?_,⟨_,ahg s'⟩,?_⟩
  ·have e1:((s'.length:Int)+1).toNat- 1=s'.length:=by omega
   simp[gh,avT,e1];omega
  unfold Up;refine EF (λp:Nat=>[.az [iS s',iI p]]) (λp=>p<=s'.length/\∀u∈s'.take p,ma u.toNat=ab) (λp=>s'.length- p) 0 ?_ (by simp) λp ⟨hp0,hI⟩=>?_
  ·simp[SE.den]
  by_cases hp:p<s'.length
  ·have Gx:p<(⟨s'.toArray⟩:ByteArray).size:=by simpa[avT]using hp
   have uU:((⟨s'.toArray⟩:ByteArray)[p]'Gx)=s'[p]:=by simp[axF]
   have hn:¬((p:Int)<0):=by omega
   have bw:ma s'[p].toNat=af->(∀x∈s',ma x.toNat=ab)->EZ (c::s')=ab:=λh ha=>absurd (ha _ (ar5 hp)) (by simp[h]);by_cases aqe:s'[p].toNat<128
   ·have W9:=decode_ascii ⟨s'.toArray⟩ p Gx (by rw[uU];exact aqe);rw[uU]at W9;have I_:=aia (s'[p].toNat:Int)
    have ll:IntKind.u8.wrap (s'[p].toNat:Int)=s'[p].toNat:=by
     simp only[IntKind.wrap,IntKind.bits,IntKind.signed];simp;omega
    simp[SE.den,hp,W9,hn,ll];by_cases PJ:122<(s'[p].toNat:Int)
    ·left;exact⟨PJ,bw (by simp[ma,pV,Az];omega)⟩
    right;refine⟨by omega,_,I_,?_⟩;simp[afe,amp];cases hc:ma s'[p].toNat with
    |false=>simp;exact bw hc
    |true=>simp;exact⟨p+1,by omega,⟨by omega,aB (p:=λu:UInt8=>ma u.toNat=ab) hp hI hc⟩,by omega⟩
   ·obtain⟨xY,s8⟩:=decode_high ⟨s'.toArray⟩ p Gx (by rw[uU];omega);generalize W9:Utf8.decode ⟨s'.toArray⟩ p=dd at xY s8;obtain⟨rn,w⟩:=dd;simp only at xY s8;simp[SE.den,hp,W9,hn];left;exact⟨by omega,bw (by simp[ma,pV,Az];omega)⟩
  ·have:=aI hp hI;have ha:(s'.all λc=>ma c.toNat)=ab:=by simpa using this
   simp[SE.den,hp];exact⟨_,hr,by simp[ha]⟩
end Go.Proofs.YtpfogalbnijcoaaGreat
namespace Go.Proofs.YtpfogalbnijcoaaGreat
open Go Go.Ev
mutual
def dG:Tm->Bool
 |.mk k n s ts=>if k=0 then decide (-2147483648<=n)&&decide (n<=2147483648)&&s.isEmpty&&ts.isEmpty
  else if k=1 then decide (0<=n)&&decide (n<=1048576)&&s.isEmpty&&ts.isEmpty
  else if k=2 then decide (n=0)&&((rO s&&decide (ts.length=2))||(fT s&&decide (ts.length<=6)))&&Bq ts
  else af
def Bq:List Tm->Bool
 |[]=>ab
 |t::l=>dG t&&Bq l
end
theorem xq:∀l:List Tm,Bq l=l.all dG
 |[]=>rfl
 |t::l=>by simp[Bq,xq l]
theorem UH{t:Tm}(h:t.k=0):dG t=(decide (-2147483648<=t.n)&&decide (t.n<=2147483648)&&t.s.isEmpty&&t.ts.isEmpty):=by
 cases t;simp[Tm.k]at h;subst h;simp[dG,Tm.n,Tm.s,Tm.ts];rfl
theorem La{t:Tm}(h:t.k=1):dG t=(decide (0<=t.n)&&decide (t.n<=1048576)&&t.s.isEmpty&&t.ts.isEmpty):=by
 cases t;simp[Tm.k]at h;subst h;simp[dG,Tm.n,Tm.s,Tm.ts];rfl
theorem Lb{t:Tm}(h:t.k=2):dG t=(decide (t.n=0)&&((rO t.s&&decide (t.ts.length=2))||(fT t.s&&decide (t.ts.length<=6)))&&t.ts.all dG):=by
 cases t;simp[Tm.k]at h;subst h;simp[dG,Tm.n,Tm.s,Tm.ts,xq];rfl
theorem UI{t:Tm}(h0:t.k≠0)(h1:t.k≠1)(h2:t.k≠2):dG t=af:=by
 cases t;simp[Tm.k]at h0 h1 h2;simp[dG,h0,h1,h2]
theorem JL{α:Type}{p:α->Bool}{l:List α}{i:Nat}(h:i<l.length)(hp:p l[i]=af):l.all p=af:=awE.2 ⟨l[i],ar5 h,by simp[hp]⟩
theorem amq(t:Tm)(hs:Sm t.s)(hl:Sm t.ts)(ih:∀u∈t.ts,CC 248 af [dH u] (iB (dG u))):CC 248 af [dH t] (iB (dG t)):=by
 refine CC.gN ak3 n213 t213 (by simpa using ng t) (by rfl) ?_;rw[cL];have h1:=aqa t.s;have h2:=v89 t.s hs
 have l2:∀b,b=t.ts.all dG->∀x y,CM.sat ar1 CC (nQ (·=b)) [] [.agg [iI t.k,iI t.n,iS t.s,iT t.ts],x,y]:=λb hb x y=>by
  unfold CM;refine dE t.ts.length (λi (_:Unit)=>[iI i]) (λi _=>∀u∈t.ts.take i,dG u=ab) () ?_ ?_ λi _ hi hI=>?_
  ·simp[SE.den]
  ·simp
  by_cases ai:i<t.ts.length
  ·have hw:=aD ai hl;have hb:=ih t.ts[i] (ar5 ai);rw[cL]at hb;simp only[nP,P8,P6,P7,TI,P9];simp[SE.den,ai,hw,uS ai,cL,aj];refine⟨_,hb,?_⟩;cases hf:dG t.ts[i]<;>simp
   ·subst b;exact JL ai hf
   ·exact⟨by omega,aB (p:=λu=>dG u=ab) ai hI hf⟩
  ·have:=aI ai hI;simp[SE.den,ai];subst b;simpa using this
 have l1:∀b,b=t.ts.all dG->∀x,HF.sat ar1 CC (nQ (·=b)) [] [.agg [iI t.k,iI t.n,iS t.s,iT t.ts],x]:=λb hb x=>by
  unfold HF;refine dE t.ts.length (λi (_:Unit)=>[iI i]) (λi _=>∀u∈t.ts.take i,dG u=ab) () ?_ ?_ λi _ hi hI=>?_
  ·simp[SE.den]
  ·simp
  by_cases ai:i<t.ts.length
  ·have hw:=aD ai hl;have hb:=ih t.ts[i] (ar5 ai);rw[cL]at hb;simp only[nP,P8,P6,P7,TI,P9];simp[SE.den,ai,hw,uS ai,cL,aj];refine⟨_,hb,?_⟩;cases hf:dG t.ts[i]<;>simp
   ·subst b;exact JL ai hf
   ·exact⟨by omega,aB (p:=λu=>dG u=ab) ai hI hf⟩
  ·have:=aI ai hI;simp[SE.den,ai];subst b;simpa using this
 have e02:Qo=CM:=rfl;simp[Zc,SE.den,e02,aj];have ee:∀l:List Tm,l.isEmpty=decide (l.length=0):=λl=>by cases l<;>simp
 have em:=awF (t.s=[]);by_cases k0:t.k=0
 ·left;refine⟨k0,?_⟩;rw[UH k0];simp;grind
 right;refine⟨k0,?_⟩;by_cases k1:t.k=1
 ·left;refine⟨k1,?_⟩;rw[La k1];simp;grind
 right;refine⟨k1,?_⟩;by_cases k2:t.k=2
 ·left;refine⟨k2,_,h1,?_⟩;rw[Lb k2];by_cases n0:t.n=0
  ·cases b1:rO t.s with
   |true=>
    simp[n0];by_cases eR:(t.ts.length:Int)=2
    ·right;refine⟨by omega,?_⟩;have Gu:t.ts.length=2:=by omega
     exact n0▸l1 _ (by simp[Gu]) _
    ·left;have Gu:¬t.ts.length=2:=by omega
     refine⟨by omega,_,h2,?_⟩;cases b2:fT t.s<;>simp[Gu];by_cases h6:6<(t.ts.length:Int)
     ·left;exact⟨h6,λ_=>by omega⟩
     ·right;exact⟨by omega,n0▸l2 _ (by simp;omega) _ _⟩
   |false=>
    simp[n0];refine⟨_,h2,?_⟩;cases b2:fT t.s<;>simp;by_cases h6:6<(t.ts.length:Int)
    ·left;exact⟨h6,λ_=>by omega⟩
    ·right;exact⟨by omega,n0▸l2 _ (by simp;omega) _ _⟩
  ·cases b1:rO t.s<;>simp[n0]
 ·right;exact⟨k2,UI k0 k1 k2⟩
theorem aib:∀t:Tm,og t->CC 248 af [dH t] (iB (dG t))
 |.mk k n s ts,h=>amq _ ((mR _).1 h).1 ((mR _).1 h).2.1 λu hu=>aib u (((mR _).1 h).2.2 u hu)
 decreasing_by simp[Tm.ts]at hu;have:=atw hu;simp;omega
mutual
def jy:Tm->Nat
 |.mk k _ _ ts=>if k=2 then cu ts+1 else 1
def cu:List Tm->Nat
 |[]=>0
 |t::l=>jy t+cu l
end
mutual
def wJ:Tm->Nat
 |.mk k _ _ ts=>if k=2 then gQ ts+1 else 1
def gQ:List Tm->Nat
 |[]=>0
 |t::l=>max (wJ t) (gQ l)
end
theorem ub(t:Tm):jy t=cu (bW t)+1:=by
 obtain⟨k,n,s,ts⟩:=t;show jy (.mk k n s ts)=cu (if k=2 then ts else[])+1;by_cases hk:k=2<;>simp[jy,hk,cu]
theorem E3(t:Tm):wJ t=gQ (bW t)+1:=by
 obtain⟨k,n,s,ts⟩:=t;show wJ (.mk k n s ts)=gQ (if k=2 then ts else[])+1;by_cases hk:k=2<;>simp[wJ,hk,gQ]
theorem GU(a b:List Tm):cu (a++b)=cu a+cu b:=by
 induction a with
 |nil=>simp[cu]
 |cons t l ih=>simp[cu,ih];omega
theorem SN(a b:List Tm):gQ (a++b)=max (gQ a) (gQ b):=by
 induction a with
 |nil=>simp[gQ]
 |cons t l ih=>simp[gQ,ih]
theorem HU{t:Tm}{l:List Tm}(h:t∈l):jy t<=cu l:=by
 induction l with
 |nil=>cases h
 |cons u l ih=>rcases asS.1 h with rfl|h
               ·simp[cu]
               ·have:=ih h;simp[cu];omega
theorem RH{t:Tm}{l:List Tm}(h:t∈l):wJ t<=gQ l:=by
 induction l with
 |nil=>cases h
 |cons u l ih=>rcases asS.1 h with rfl|h
               ·simp[gQ];omega
               ·have:=ih h;simp[gQ];omega
theorem aff(t:Tm):1<=jy t:=by rw[ub];omega
theorem afg(t:Tm):1<=wJ t:=by rw[E3];omega
theorem afh{t u:Tm}(h:u∈bW t):jy u<jy t:=by
 have:=HU h;rw[ub t];omega
theorem UJ(l:List Tm)(h:∀t∈l,wJ t<=jy t):gQ l<=cu l:=by
 induction l with
 |nil=>simp[gQ]
 |cons t l ih=>have:=h t (by simp);have:=ih λu hu=>h u (by simp[hu]);simp[gQ,cu];omega
theorem aac:∀t:Tm,wJ t<=jy t
 |.mk k n s ts=>by
  have h:=UJ (bW (.mk k n s ts)) λu hu=>aac u;rw[ub,E3];omega
 decreasing_by have:=sK hu;simp[Tm.ts]at this;have:=atw this;simp;omega
theorem RI:∀(l:List Tm) (acc:Nat),(∀t∈l,qp t=jy t)->acc+cu l<=1000000000000->tZ acc l=((acc+cu l:Nat):Int)
 |[],acc,_,_=>by simp[tZ,cu]
 |t::l,acc,h,hb=>by
  simp only[cu]at hb⊢;rw[tZ,h t (by simp),dQ (by omega) (by omega)];have:=RI l (acc+jy t) (λu hu=>h u (by simp[hu])) (by omega);rw[show((acc:Int)+(jy t:Int))=((acc+jy t:Nat):Int) by simp,this]
  congr 1;omega
theorem E4:∀t:Tm,jy t<=1000000000000->qp t=jy t
 |.mk k n s ts,hb=>by
  have h:=RI (bW (.mk k n s ts)) 1 (λu hu=>E4 u (by have:=afh hu;omega)) (by rw[ub]at hb;omega);rw[Qh,ub,show(1:Int)=((1:Nat):Int)from rfl,h]
  congr 1;omega
 decreasing_by have:=sK hu;simp[Tm.ts]at this;have:=atw this;simp;omega
end Go.Proofs.YtpfogalbnijcoaaGreat
namespace Go.Proofs.YtpfogalbnijcoaaGreat
open Go Go.Ev
theorem aad(a b:Int):JW ar1 [iI a,iI b]=aa (iI (if b>a then b else a)):=rfl
theorem E5{l:List Tm}{i:Nat}(h:i<l.length):gQ (l.take (i+1))=max (gQ (l.take i)) (wJ l[i]):=by
 rw[ase h,SN];simp[gQ]
theorem E6{l:List Tm}{i:Nat}(h:i<l.length):cu (l.take (i+1))=cu (l.take i)+jy l[i]:=by
 rw[ase h,GU];simp[cu]
theorem E7(l:List Tm)(i:Nat):cu (l.take i)<=cu l:=by
 have:=GU (l.take i) (l.drop i);rw[List.take_append_drop]at this;omega
def BT(t:Tm):Prop:=og t/\jy t<=1000000000000
def M4(l:List Tm):Prop:=Sm l/\(∀t∈l,og t)/\cu l<=1000000000000
theorem M4.at{l:List Tm}(h:M4 l){t:Tm}(ht:t∈l):BT t:=⟨h.2.1 t ht,by have:=HU ht;have:=h.2.2;omega⟩
theorem BT.args{t:Tm}(h:BT t):M4 (bW t):=by
 have h1:=(mR t).1 h.1;have h2:=ub t;refine⟨?_,λu hu=>h1.2.2 u (sK hu),by have:=h.2;omega⟩;unfold bW;split
 ·exact h1.2.1
 ·simp
theorem amr(t:Tm)(h:BT t)(ih:∀u∈bW t,CC 249 af [dH u] (iI (wJ u))):CC 249 af [dH t] (iI (wJ t)):=by
 refine CC.of ak5 n214 (t214 _) (by simpa using ng t) (by simp) ?_;have HV:=abV t;rw[cL]at HV⊢;simp[Ze,Qp,SE.den,aj];refine⟨_,HV,?_⟩;have Ml:(bW t).length<=9223372036854775807:=h.args.1;have DA:gQ (bW t)<=1000000000000:=Nat.le_trans (UJ _ λu _=>aac u) h.args.2.2;refine⟨by simp,?_⟩;refine dE (bW t).length (λi (a:Int)=>[iI i,iI a]) (λi a=>a=gQ ((bW t).take i)) 0 ?_ ?_ λi a hi ha=>?_
 ·simp[SE.den]
 ·simp[gQ]
 by_cases ai:i<(bW t).length
 ·have hw:=aD ai Ml;have hb:=ih (bW t)[i] (ar5 ai);rw[cL]at hb;simp[SE.den,ai,hw,uS ai,cL,aj];refine⟨_,hb,?_⟩;simp[SE.den,aad,aA,hw];have g1:=E5 ai;refine⟨?_,by omega⟩;rw[g1,ha];split<;>omega
 ·have:(bW t).take i=bW t:=asf (by omega);rw[this]at ha;have ll:asC.wrap (a+1)=a+1:=dQ (by omega) (by omega);simp[SE.den,ai,ll];rw[E3,ha];simp
theorem aic:∀t:Tm,BT t->CC 249 af [dH t] (iI (wJ t))
 |.mk k n s ts,h=>amr _ h λu hu=>aic u (h.args.at hu)
 decreasing_by have:=sK hu;simp[Tm.ts]at this;have:=atw this;simp;omega
def Br(t:Tm):Bool:=dG t&&decide (jy t<=200)&&decide (wJ t<=20)
def oi(l:List Tm):Bool:=l.all dG&&decide (cu l<=200)&&decide (gQ l<=20)
def dy(a:At):Bool:=fT a.s&&decide (a.ts.length<=6)&&oi a.ts
def dX(g:Gl):Bool:=if g.op=0 then dy ⟨g.s,g.ts⟩else g.s.isEmpty&&decide (gF g.op=g.ts.length)&&oi g.ts
theorem aqf(t:Tm)(h:BT t):CC 206 af [dH t] (iB (Br t)):=by
 refine CC.gN ak2 n163 t163 (by simpa using ng t) (by rfl) ?_;have h1:=aib t h.1;have h2:=WK t h.1.wf;have h3:=aic t h;rw[E4 t h.2]at h2;rw[cL]at h1 h2 h3⊢;simp[Zb,SE.den,aj];refine⟨_,h1,?_⟩;cases hf:dG t<;>simp[Br,hf];refine⟨_,h2,?_⟩;simp;by_cases hs:jy t<=200
 ·left;exact⟨by omega,_,h3,by simp[hs];omega⟩
 ·right;exact⟨by omega,λh=>absurd h hs⟩
theorem aae{l:List Tm}{i:Nat}(h:i<l.length)(hp:Br l[i]=af):oi l=af:=by
 have hm:=ar5 h;have h1:=HU hm;have h2:=RH hm;cases hf:dG l[i]with
 |false=>simp[oi,JL h hf]
 |true=>
  simp[Br,hf]at hp;simp[oi];intro _ _;have:=hp;omega
theorem v107(l:List Tm)(h:M4 l):CC 124 af [iT l] (iB (oi l)):=by
 refine CC.gN ak1 n107 t107 (by simp) (by rfl) ?_;simp[Za,Qn,SE.den,aj];refine dE l.length (λi (a:Int)=>[iI i,iI a]) (λi a=>a=cu (l.take i)/\(∀u∈l.take i,dG u=ab)/\gQ (l.take i)<=20) 0 ?_ ?_ λi a hi hI=>?_
 ·simp[SE.den]
 ·simp[cu,gQ]
 by_cases ai:i<l.length
 ·have hw:=aD ai h.1;have hm:=ar5 ai;have hb:=aqf l[i] (h.at hm);have h2:=WK l[i] (h.at hm).1.wf;rw[E4 _ (h.at hm).2]at h2;rw[cL]at hb h2;simp[SE.den,ai,hw,uS ai,cL,aj];refine⟨_,hb,?_⟩;cases hr:Br l[i]<;>simp
  ·exact aae ai hr
  refine⟨_,h2,?_⟩;have oG:=hr;simp[Br]at oG;have g1:=E6 ai;have g2:=E7 l (i+1);have g3:=h.2.2;have ll:asC.wrap (a+jy l[i])=a+jy l[i]:=by rw[hI.1];exact dQ (by omega) (by omega)
  simp[hw,ll];refine⟨by omega,by rw[g1,hI.1];simp,aB (p:=λu=>dG u=ab) ai hI.2.1 oG.1.1,?_⟩;rw[E5 ai];have:=hI.2.2;omega
 ·have ht:l.take i=l:=asf (by omega);rw[ht]at hI;obtain⟨h1,h2,h3⟩:=hI;have zk:l.all dG=ab:=by simpa using h2
  simp[SE.den,ai,oi,zk,h3];subst a;by_cases hs:cu l<=200<;>simp[hs]
  ·omega
  ·omega
theorem v49(a:At)(hs:Sm a.s)(h:M4 a.ts):CC 61 af [.agg [iS a.s,iT a.ts]] (iB (dy a)):=by
 refine CC.gN apn n49 t49 (by intro x hx;obtain rfl:=asU.1 hx;exact EI a) (by rfl) ?_;have h1:=v89 a.s hs;have h2:=v107 a.ts h;simp[adi,SE.den,aj];refine⟨_,h1,?_⟩;cases hn:fT a.s<;>simp[dy,hn];by_cases hs:a.ts.length<=6
 ·left;exact⟨by omega,_,h2,by simp[hs]⟩
 ·right;exact⟨by omega,λh=>absurd h hs⟩
theorem v152(g:Gl)(hs:Sm g.s)(h:M4 g.ts):CC 202 af [.agg [iI g.op,iS g.s,iT g.ts]] (iB (dX g)):=by
 refine CC.gN ak6 n152 t152 (by intro x hx;obtain rfl:=asU.1 hx;exact EK g) (by rfl) ?_;have h1:=v49 ⟨g.s,g.ts⟩ hs h;have h2:=v107 g.ts h;have h3:=apA g.op;simp[Zf,SE.den,aj];by_cases k0:g.op=0
 ·left;exact⟨k0,_,h1,by simp[dX,k0]⟩
 right;refine⟨k0,?_⟩;by_cases ks:g.s=[]
 ·left;refine⟨ks,_,h3,?_⟩;simp;by_cases ka:gF g.op=g.ts.length
  ·left;exact⟨ka,_,h2,by simp[dX,k0,ka,ks]⟩
  ·right;exact⟨ka,by simp[dX,k0,ka]⟩
 ·right;exact⟨ks,by simp[dX,k0,ks]⟩
end Go.Proofs.YtpfogalbnijcoaaGreat
namespace Go.Proofs.YtpfogalbnijcoaaGreat
open Go Go.Ev
def adN(p:Bool->Int->Prop)(z:IV):Prop:=∃(b:Bool) (n:Int),z=.az [iB b,.agg [iI n]]/\p b n
@[simp] theorem aq2(p:Bool->Int->Prop)(b:Bool)(n:Int):adN p (.az [iB b,.agg [iI n]])↔p b n:=
  ⟨λ⟨b',n',h1,h2⟩=>by cases h1;exact h2,λh=>⟨b,n,rfl,h⟩⟩
theorem CC.UK{n:Nat}{f:Nat}{cF:ak}{m:Int}{xs:List IV}{cfg:bg}{s:Bool}{r:Int}(he:xH ar1 cfg n [1] f=cF)(hl:(ar1.funcs[f]?).map (·.params.size)=aa (1+xs.length))(hn:noTwo cF=ab)
 (hs:cF.sat ar1 CC (adN λb k=>b=s/\(b=ab->k=r)) [] (iI m::xs)):∃k:Int,(s=ab->k=r)/\CC (754+f) ab (.agg [.agg [iI m]]::xs) (.az [iB s,.agg [iI k]]):=by
 obtain⟨z,⟨b,k,rfl,rfl,hb⟩,h2⟩:=yJ hn hs;refine⟨k,hb,?_⟩;have h:=CC.akj (new:=ab) (ins:=[[iI m]]) (outs:=[[iI k]]) (xs:=xs) (z:=iB b) (cfg:=cfg) (n:=n) (f:=f) he hl rfl (by simp[aj]) h2;rw[dP]at h;exact h
def sP(t:Tm)(n d:Int):Bool:=dG t&&decide ((jy t:Int)<=n)&&decide ((wJ t:Int)<=d)
def Ac(l:List Tm)(n d:Int):Bool:=l.all dG&&decide ((cu l:Int)<=n)&&decide ((gQ l:Int)<=d)
theorem aid{l:List Tm}{i:Nat}{n d:Int}(h:i<l.length)(hp:sP l[i] (n- cu (l.take i)) d=af):Ac l n d=af:=by
 have hm:=ar5 h;have h2:=RH hm;have g1:=E6 h;have g2:=E7 l (i+1);cases hf:dG l[i]with
 |false=>simp[Ac,JL h hf]
 |true=>
  simp[sP,hf]at hp;simp[Ac];intro _ _;have:=hp;omega
theorem adO(l:List Tm)(hl:Sm l)(d:Int)(hd:0<=d)(ih:∀u∈l,∀n:Int,0<=n->n<=1000->∃k:Int,(sP u n d=ab->k=n- jy u)/\CC 943 ab [.agg [.agg [iI n]],dH u,iI d] (.az [iB (sP u n d),.agg [iI k]]))(n:Int)(hn:0<=n)(dJ:n<=1000):
 ∃k:Int,(Ac l n d=ab->k=n- cu l)/\CC 865 ab [.agg [.agg [iI n]],iT l,iI d] (.az [iB (Ac l n d),.agg [iI k]]):=by
 refine CC.UK (f:=111) (xs:=[iT l,iI d]) alW n103 (by rfl) ?_;simp[ZN,SE.den,aj];unfold QS;refine aw l.length (λi (a:Int)=>[iI i,iI a]) (λi a=>a=n- cu (l.take i)/\0<=a/\(∀u∈l.take i,dG u=ab)/\(gQ (l.take i):Int)<=d) n ?_ (by simp[cu,gQ,hn,hd]) λi a hi hI=>?_
 ·simp[SE.den]
 by_cases ai:i<l.length
 ·have hw:=aD ai hl;obtain⟨oj,iw,rj,hI4⟩:=hI;obtain⟨k,hp,hb⟩:=ih l[i] (ar5 ai) a iw (by omega);rw[cL]at hb;simp[SE.den,ai,hw,uS ai,cL,aj];refine⟨_,hb,?_⟩;cases hr:sP l[i] a d<;>simp[aA,aj]
  ·exact aid ai (oj▸hr)
  ·have oG:=hr;simp[sP]at oG;have g1:=E6 ai;have g2:=E5 ai;have hk:=hp hr;exact .mk k rfl (by omega) ⟨by omega,by omega,aB (p:=λu=>dG u=ab) ai rj oG.1.1,by omega⟩
 ·have ht:l.take i=l:=asf (by omega);rw[ht]at hI;obtain⟨h1,h2,h3,h4⟩:=hI;have IP:l.all dG=ab:=by simpa using h3
  simp[SE.den,ai,aA];refine⟨?_,h1⟩;simp[Ac,IP,h4];omega
theorem Lc{t:Tm}(h:t.k=2):bW t=t.ts:=by simp[bW,h]
theorem Ld{t:Tm}(h:t.k≠2):bW t=[]:=by simp[bW,h]
theorem sz1{t:Tm}(h:t.k≠2):jy t=1:=by simp[ub,Ld h,cu]
theorem dp1{t:Tm}(h:t.k≠2):wJ t=1:=by simp[E3,Ld h,gQ]
theorem W_{t:Tm}(h:t.k≠2)(n d:Int)(h1:1<=n)(h2:1<=d):sP t n d=dG t:=by
 have e1:decide (((1:Nat):Int)<=n)=ab:=by simp;omega
 have e2:decide (((1:Nat):Int)<=d)=ab:=by simp;omega
 rw[sP,sz1 h,dp1 h,e1,e2];simp
theorem ams{t:Tm}(h:t.k=2)(n d:Int):sP t n d=(decide (t.n=0)&&((rO t.s&&decide (t.ts.length=2))||(fT t.s&&decide (t.ts.length<=6)))&&Ac t.ts (n- 1) (d- 1)):=by
 have e1:decide ((jy t:Int)<=n)=decide ((cu t.ts:Int)<=n- 1):=by rw[ub,Lc h];simp;omega
 have e2:decide ((wJ t:Int)<=d)=decide ((gQ t.ts:Int)<=d- 1):=by rw[E3,Lc h];simp;omega
 rw[sP,e1,e2,Lb h,Ac];simp only[Bool.and_assoc]
theorem amt(t:Tm)(hs:Sm t.s)(hl:Sm t.ts)(d:Int)(ih:1<=d->∀u∈t.ts,∀n:Int,0<=n->n<=1000->∃k:Int,(sP u n (d- 1)=ab->k=n- jy u)/\CC 943 ab [.agg [.agg [iI n]],dH u,iI (d- 1)] (.az [iB (sP u n (d- 1)),.agg [iI k]]))(n:Int)(hn:0<=n)(dJ:n<=1000)(AM:0<=d)(Ly:d<=1000):
 ∃k:Int,(sP t n d=ab->k=n- jy t)/\CC 943 ab [.agg [.agg [iI n]],dH t,iI d] (.az [iB (sP t n d),.agg [iI k]]):=by
 refine CC.UK (f:=189) (xs:=[dH t,iI d]) alV n159 (by rfl) ?_;rw[cL];have h1:=v83 t.s;have h2:=aqd t.s;have w1:asC.wrap (n- 1)=n- 1:=dQ (by omega) (by omega);have w2:asC.wrap (d- 1)=d- 1:=dQ (by omega) (by omega);simp[ZM,SE.den,aj,aA,w1,w2];have hz:=aff t;have hq:=afg t;by_cases y0:n- 1<0
 ·left;refine⟨y0,?_⟩;simp[sP];omega
 right;refine⟨by omega,?_⟩;by_cases y1:d<1
 ·left;refine⟨y1,?_⟩;simp[sP];omega
 right;refine⟨by omega,?_⟩;obtain⟨k3,hp3,h3⟩:=adO t.ts hl (d- 1) (by omega) (ih (by omega)) (n- 1) (by omega) (by omega);have ee:t.ts.isEmpty=decide (t.ts.length=0):=by cases t.ts<;>simp
 have es:t.s.isEmpty=decide (t.s=[]):=by cases t.s<;>simp
 have em:=awF (t.s=[]);by_cases k0:t.k=0
 ·left;refine⟨k0,?_⟩;have k2:t.k≠2:=by omega
  rw[W_ k2 n d (by omega) (by omega),UH k0,sz1 k2];rw[ee,es];clear ih h3 hp3 h1 h2 w1 w2;simp;grind
 right;refine⟨k0,?_⟩;by_cases k1:t.k=1
 ·left;refine⟨k1,?_⟩;have k2:t.k≠2:=by omega
  rw[W_ k2 n d (by omega) (by omega),La k1,sz1 k2];rw[ee,es];clear ih h3 hp3 h1 h2 w1 w2;simp;grind
 right;refine⟨k1,?_⟩;by_cases k2:t.k=2
 rotate_left
 ·right;refine⟨k2,?_⟩;rw[W_ k2 n d (by omega) (by omega),UI k0 k1 k2]
 left;refine⟨k2,?_⟩
 have rT:∀b:Bool,sP t n d=(b&&Ac t.ts (n- 1) (d- 1))->b=ab->Ac t.ts (n- 1) (d- 1)=sP t n d/\(Ac t.ts (n- 1) (d- 1)=ab->k3=n- jy t):=λb e1 e2=>by
  subst e2;refine⟨by simp[e1],λh=>?_⟩;rw[hp3 h,ub,Lc k2];simp;omega
 rw[ams k2]at rT⊢;by_cases n0:t.n=0
 rotate_left
 ·left;simp[n0]
 right;refine⟨n0,?_⟩;by_cases z6:(6:Int)<t.ts.length
 ·left;have:¬t.ts.length<=6:=by omega
  have:¬t.ts.length=2:=by omega
  simp[*]
 have z6':t.ts.length<=6:=by omega
 right;refine⟨by omega,_,h1,?_⟩;cases b1:fT t.s with
 |true=>
  simp[b1,n0,z6']at rT⊢;exact⟨_,h3,by simp[aj,aA];exact rT⟩
 |false=>
  simp;refine⟨_,h2,?_⟩;cases b2:rO t.s with
  |false=>simp
  |true=>
   simp;by_cases z2':t.ts.length=2
   ·simp[b1,b2,n0,z2']at rT⊢;exact⟨_,h3,by simp[aj,aA];exact rT⟩
   ·left;exact⟨by omega,λ_ h=>absurd h z2'⟩
theorem v159:∀t:Tm,og t->∀n d:Int,0<=n->n<=1000->0<=d->d<=1000->∃k:Int,(sP t n d=ab->k=n- jy t)/\CC 943 ab [.agg [.agg [iI n]],dH t,iI d] (.az [iB (sP t n d),.agg [iI k]])
 |.mk k n s ts,h=>λn d h1 h2 h3 h4=>by
  exact amt _ ((mR _).1 h).1 ((mR _).1 h).2.1 d (λhd u hu n a b=>v159 u (((mR _).1 h).2.2 u hu) n (d- 1) a b (by omega) (by omega)) n h1 h2 h3 h4
 decreasing_by simp[Tm.ts]at hu;have:=atw hu;simp;omega
theorem aie(l:List Tm)(hl:Sm l)(h:∀t∈l,og t)(n d:Int)(h1:0<=n)(h2:n<=1000)(h3:0<=d)(h4:d<=1000):
 ∃k:Int,CC 865 ab [.agg [.agg [iI n]],iT l,iI d] (.az [iB (Ac l n d),.agg [iI k]]):=by
 obtain⟨k,_,h⟩:=adO l hl d h3 (λu hu n a b=>v159 u (h u hu) n d a b h3 h4) n h1 h2;exact⟨k,h⟩
theorem M5(l:List Tm):Ac l 200 20=oi l:=by
 have e1:∀a b:Nat,decide ((a:Int)<=b)=decide (a<=b):=λa b=>by simp
 rw[Ac,oi,show(200:Int)=((200:Nat):Int)from rfl,show(20:Int)=((20:Nat):Int)from rfl,e1,e1]
theorem v45(a:At)(h:sL a):CC 52 af [.agg [iS a.s,iT a.ts]] (iB (dy a)):=by
 refine CC.gN apJ n45 t45 (by intro x hx;obtain rfl:=asU.1 hx;exact EI a) (by rfl) ?_;have h1:=v83 a.s;obtain⟨k2,h2⟩:=aie a.ts h.2.1 h.2.2 200 20 (by omega) (by omega) (by omega) (by omega);rw[M5]at h2;simp[adw,SE.den,aj];refine⟨_,h1,?_⟩;cases hn:fT a.s<;>simp[dy,hn];by_cases hs:a.ts.length<=6
 ·left;exact⟨by omega,_,h2,by simp[aj,hs]⟩
 ·right;exact⟨by omega,λh=>absurd h hs⟩
theorem v138(g:Gl)(h:sM g):CC 134 af [.agg [iI g.op,iS g.s,iT g.ts]] (iB (dX g)):=by
 refine CC.gN alY n138 t138 (by intro x hx;obtain rfl:=asU.1 hx;exact EK g) (by rfl) ?_;have h1:=v83 g.s;obtain⟨k2,h2⟩:=aie g.ts h.2.1 h.2.2 200 20 (by omega) (by omega) (by omega) (by omega);rw[M5]at h2;have es:g.s.isEmpty=decide (g.s=[]):=by cases g.s<;>simp
 have ez:(g.ts=[])=(g.ts.length=0):=by cases g.ts<;>simp
 simp[ZO,SE.den,aj];by_cases k0:g.op=0
 ·left;refine⟨k0,_,h1,?_⟩;cases hn:fT g.s<;>simp[dX,k0,dy,hn];by_cases h6:g.ts.length<=6
  ·left;exact⟨by omega,_,h2,by simp[aj,h6]⟩
  ·right;exact⟨by omega,λh=>absurd h h6⟩
 right;refine⟨k0,?_⟩;have hG:∀A:Int,gF g.op=A->dX g=(decide (g.s=[])&&decide (A=g.ts.length)&&oi g.ts):=λA e=>by simp only[dX,k0,if_false,es,e]
 by_cases k1:g.op=1
 ·left;refine⟨k1,?_⟩;left;refine⟨by omega,?_⟩;left;refine⟨by omega,?_⟩;have gA:=hG 0 (by simp[gF,k1]);by_cases ks:g.s=[]
  ·left;refine⟨ks,?_⟩;by_cases kt:g.ts=[]
   ·left;exact⟨kt,_,h2,by simp[aj,gA,ks,kt]⟩
   ·right;exact⟨kt,by rw[gA];have:¬(0:Int)=g.ts.length:=λe=>kt (asF (by omega));simp[this]⟩
  ·right;exact⟨ks,by simp[gA,ks]⟩
 right;refine⟨k1,?_⟩;by_cases k2:g.op=2
 ·left;refine⟨k2,?_⟩;left;refine⟨by omega,?_⟩;left;refine⟨by omega,?_⟩;have gA:=hG 0 (by simp[gF,k2]);by_cases ks:g.s=[]
  ·left;refine⟨ks,?_⟩;by_cases kt:g.ts=[]
   ·left;exact⟨kt,_,h2,by simp[aj,gA,ks,kt]⟩
   ·right;exact⟨kt,by rw[gA];have:¬(0:Int)=g.ts.length:=λe=>kt (asF (by omega));simp[this]⟩
  ·right;exact⟨ks,by simp[gA,ks]⟩
 right;refine⟨k2,?_⟩;by_cases MY:g.op=11
 ·left;refine⟨MY,?_⟩;left;refine⟨by omega,?_⟩;left;refine⟨by omega,?_⟩;have gA:=hG 1 (by simp[gF,MY]);by_cases ks:g.s=[]
  ·left;refine⟨ks,?_⟩;by_cases kt:(g.ts.length:Int)=1
   ·left;exact⟨kt,_,h2,by simp[aj,gA,ks,kt]⟩
   ·right;exact⟨kt,by rw[gA];simp[ks];omega⟩
  ·right;exact⟨ks,by simp[gA,ks]⟩
 right;refine⟨MY,?_⟩;by_cases MZ:g.op=12
 ·left;refine⟨MZ,?_⟩;left;refine⟨by omega,?_⟩;left;refine⟨by omega,?_⟩;have gA:=hG 1 (by simp[gF,MZ]);by_cases ks:g.s=[]
  ·left;refine⟨ks,?_⟩;by_cases kt:(g.ts.length:Int)=1
   ·left;exact⟨kt,_,h2,by simp[aj,gA,ks,kt]⟩
   ·right;exact⟨kt,by rw[gA];simp[ks];omega⟩
  ·right;exact⟨ks,by simp[gA,ks]⟩
 right;refine⟨MZ,?_⟩;by_cases p0:0<g.op
 rotate_left
 ·right;refine⟨by omega,?_⟩;have:¬(2<g.op/\g.op<11):=by omega
  rw[hG (-1) (by simp[gF,k1,k2,MY,MZ,this])];simp;try omega
 left;refine⟨p0,?_⟩;by_cases p12:g.op<=12
 rotate_left
 ·right;refine⟨by omega,?_⟩;have:¬(2<g.op/\g.op<11):=by omega
  rw[hG (-1) (by simp[gF,k1,k2,MY,MZ,this])];simp;try omega
 left;refine⟨p12,?_⟩;have hp:2<g.op/\g.op<11:=by omega
 have gA:=hG 2 (by simp[gF,k1,k2,MY,MZ,hp]);by_cases ks:g.s=[]
 ·left;refine⟨ks,?_⟩;by_cases kt:(g.ts.length:Int)=2
  ·left;exact⟨kt,_,h2,by simp[aj,gA,ks,kt]⟩
  ·right;exact⟨kt,by rw[gA];simp[ks];omega⟩
 ·right;exact⟨ks,by simp[gA,ks]⟩
end Go.Proofs.YtpfogalbnijcoaaGreat
namespace Go.Proofs.YtpfogalbnijcoaaGreat
open Go Go.Ev
mutual
theorem afi:∀t:Tm,dG t=ab->dv t
 |.mk k n s ts,h=>by
  rw[zZ];simp only[Tm.k,Tm.n,Tm.ts];refine⟨λh1=>?_,λh2=>?_⟩
  ·rw[La (by exact h1)]at h;simp only[Tm.n,ar4]at h;exact⟨of_decide_eq_true h.1.1.1,of_decide_eq_true h.1.1.2⟩
  ·rw[Lb (by exact h2),<-xq]at h;simp only[ar4]at h;exact HW ts h.2
theorem HW:∀l:List Tm,Bq l=ab->∀u∈l,dv u
 |[],_=>by simp
 |t::l,h=>by
  simp only[Bq,ar4]at h;intro u hu;rcases asS.1 hu with hu|hu
  ·rw[hu];exact afi t h.1
  ·exact HW l h.2 u hu
end
theorem RJ{l:List Tm}(h:oi l=ab):∀u∈l,dv u:=by
 simp only[oi,ar4,<-xq]at h;exact HW l h.1.1
def qS(acc:List Int)(x:Int):List Int:=if x∈acc then acc else acc++[x]
def cO(l xs:List Int):List Int:=xs.foldl qS l
theorem yS(xs:List Int):cO [] xs=Bp xs:=rfl
theorem mb(l xs ys:List Int):cO l (xs++ys)=cO (cO l xs) ys:=by simp[cO,List.foldl_append]
theorem Vr.cO{l xs:List Int}(h:Vr l)(hx:∀x∈xs,0<=x/\x<=1048576):Vr (cO l xs):=by
 induction xs generalizing l with
 |nil=>exact h
 |cons x xs ih=>
  refine ih (l:=qS l x) ?_ (λy hy=>hx y (by simp[hy]));unfold qS;split
  ·exact h
  ·exact h.snoc (by assumption) (hx x (by simp))
def fy(l:List Tm):List Int:=(l.map gd).flatten
theorem M6{l:List Tm}{i:Nat}(h:i<l.length):fy (l.take (i+1))=fy (l.take i)++gd l[i]:=by
 unfold fy;rw[ase h,List.map_append,List.flatten_append];simp
theorem Xa{l:List Tm}(h:∀t∈l,dv t):∀x∈fy l,0<=x/\x<=1048576:=λx hx=>by
 obtain⟨y,hy,hx⟩:=List.mem_flatten.1 hx;obtain⟨u,hu,rfl⟩:=List.mem_map.1 hy;exact Aa u (h u hu) x hx
theorem aaf{t:Tm}(h:t.k≠1):gd t=fy (bW t):=by
 obtain⟨k,n,s,ts⟩:=t;simp only[Tm.k]at h;simp only[gd,h,if_false,bW,Tm.k,Tm.ts,CQ,fy];by_cases h2:k=2<;>simp[h2]
theorem CC.aqg{n:Nat}{new:Bool}{f:FuncId}{cF:ak}{cfg:bg}{l r:List Int}{xs:List IV}(he:xG ar1 cfg n 1 f=cF)(hl:(ar1.funcs[f]?).map (·.params.size)=aa (xs.length+1))(hn:noTwo cF=ab)
 (hs:cF.sat ar1 CC (CN (·=r)) [] (iL l::xs)):CC (377+f) new (iL l::xs) (iL r):=by
 obtain⟨_,rfl,h⟩:=CC.ahi (·=r) he hl hn hs;exact h
theorem CC.CV{n:Nat}{new:Bool}{f:FuncId}{cF:ak}{cfg:bg}{args:List IV}{r:List Int}(he:aK ar1 cfg n new f=cF)(hl:(ar1.funcs[f]?).map (·.params.size)=aa args.length)(ht:∀z,aQ ar1 f z=ab)(hp:∀x∈args,Pure x)(hn:noTwo cF=ab)
 (hs:cF.sat ar1 CC (CN (·=r)) [] args):CC f new args (iL r):=by
 obtain⟨_,rfl,h⟩:=CC.ahj (·=r) he hl ht hp hn hs;exact h
theorem amu(t:Tm)(qD:Sm t.ts)(ht:dv t)(ih:∀u∈t.ts,dv u->∀l:List Int,Vr l->CC 582 ab [iL l,dH u] (iL (cO l (gd u))))(l:List Int)(hl:Vr l):
 CC 582 ab [iL l,dH t] (iL (cO l (gd t))):=by
 refine CC.aqg (f:=205) alq n155 (by rfl) ?_;have HV:=abV t;have Dw:=hl.len;have Ml:(bW t).length<=9223372036854775807:=by unfold bW;split<;>simp[qD]
 have hfa:∀u∈bW t,dv u:=λu hu=>Zv ht hu;have iha:∀u∈bW t,∀l:List Int,Vr l->CC 582 ab [iL l,dH u] (iL (cO l (gd u))):=λu hu=>ih u (sK hu) (hfa u hu);rw[cL]at HV⊢;have key:∀(m:List Int),Vr m->∀(x:List IV->List IV) (K:List (List IV->Prop)),True:=λ_ _ _ _=>trivial
 have step:∀{m:List Int} {i:Nat} {a:List Int} (ai:i<(bW t).length),Vr a/\a=cO m (fy ((bW t).take i))->Vr (cO a (gd (bW t)[i]))/\cO a (gd (bW t)[i])=cO m (fy ((bW t).take (i+1))):=by
  rintro m i a ai ⟨h1,rfl⟩;exact⟨h1.cO (Aa _ (hfa _ (ar5 ai))),by rw[M6 ai,mb]⟩
 have fin:∀{m:List Int} {i:Nat} {a:List Int},¬i<(bW t).length->Vr a/\a=cO m (fy ((bW t).take i))->a=cO m (fy (bW t)):=by
  rintro m i a ai ⟨_,rfl⟩;rw[asf (by omega)]
 have l4:t.k≠1->HJ.sat ar1 CC (CN (·=cO l (gd t))) [] [iL l,.agg [iI t.k,iI t.n,iS t.s,iT t.ts],iT (bW t)]:=by
  intro hk;rw[aaf hk];unfold HJ;refine aw (bW t).length (λi (a:List Int)=>[iI i,iL a]) (λi a=>Vr a/\a=cO l (fy ((bW t).take i))) l ?_ ?_ λi a hi hI=>?_
  ·simp[SE.den]
  ·exact⟨hl,rfl⟩
  by_cases ai:i<(bW t).length
  ·have hw:=aD ai Ml;have hb:=iha (bW t)[i] (ar5 ai) a hI.1;rw[cL]at hb;simp[SE.den,ai,hw,uS ai,cL,aj,aA,cellsOf];exact⟨_,hb,_,by simp,by omega,step ai hI⟩
  ·simp[SE.den,ai];exact⟨_,⟨by simp[cellsOf,aA],rfl⟩,by rw[Bl];exact fin ai hI⟩
 have l2:bW t=[]->∀x:IV,HI.sat ar1 CC (CN (·=l)) [] [iL l,.agg [iI t.k,iI t.n,iS t.s,iT t.ts],x,iT (bW t)]:=by
  intro ha x;unfold HI;rw[ha];refine aw 0 (λi (a:List Int)=>[iI i,iL a]) (λi a=>a=l) l ?_ rfl λi a hi hI=>?_
  ·simp[SE.den]
  obtain rfl:i=0:=by omega
  simp[SE.den];subst a;exact⟨_,⟨by simp[cellsOf,aA],rfl⟩,by rw[Bl]⟩
 have l1:bW t=[]->∀(x:IV) (m:List Int),HH.sat ar1 CC (CN (·=m)) [] [iL l,.agg [iI t.k,iI t.n,iS t.s,iT t.ts],x,iL m,iT (bW t)]:=by
  intro ha x m;unfold HH;rw[ha];refine aw 0 (λi (a:List Int)=>[iI i,iL a]) (λi a=>a=m) m ?_ rfl λi a hi hI=>?_
  ·simp[SE.den]
  obtain rfl:i=0:=by omega
  simp[SE.den];subst a;exact⟨_,⟨by simp[cellsOf,aA],rfl⟩,by rw[Bl]⟩
 have l0:HG.sat ar1 CC (CN (·=cO l (gd t))) [Qa λvs=>∃b:Bool,vs=[iB b]/\(b=decide (t.n∈l))] [iL l,.agg [iI t.k,iI t.n,iS t.s,iT t.ts]]:=by
  unfold HG;refine dE l.length (λi (_:Unit)=>[iI i]) (λi _=>∀x∈l.take i,x≠t.n) () ?_ ?_ λi _ hi hI=>?_
  ·simp[SE.den]
  ·simp
  by_cases ai:i<l.length
  ·have hw:=aD ai (by omega);simp[SE.den,ai,hw,cellsOf,Qa];by_cases he:l[i]=t.n
   ·left;exact⟨he,he▸ar5 ai⟩
   ·right;exact⟨he,by omega,aB ai hI he⟩
  ·have:=aI ai hI;simp[SE.den,ai,Qa];exactλh=>this _ h rfl
 simp[Zu,SE.den,aj];by_cases k1:t.k=1
 ·left;refine⟨k1,?_⟩;have aqh:gd t=[t.n]:=by obtain⟨k,n,s,ts⟩:=t;simp only[Tm.k]at k1;simp[gd,k1,Tm.n]
  have br:bW t=[]:=Ld (by omega);rw[aqh]at l0⊢;unfold QC;refine gr (λvs=>∃b:Bool,vs=[iB b]/\(b=decide (t.n∈l))) l0 ?_;rintro vs ⟨b,rfl,hb⟩;refine⟨rfl,?_⟩;simp[SE.den,aj,aA,cellsOf];have CY:cO l [t.n]=qS l t.n:=rfl;rw[CY];unfold qS;cases b with
  |true=>
   have hm:t.n∈l:=by simpa using hb.symm
   rw[if_pos hm];right;exact⟨rfl,_,HV,by simp,l2 br _⟩
  |false=>
   have hm:t.n∉l:=by simpa using hb.symm
   rw[if_neg hm];left;refine⟨rfl,iL (l++[t.n]),?_,_,HV,by simp,l1 br _ _⟩;simp[j2,i_,cellsOf];exact⟨rfl,by omega,by omega⟩
 ·right;exact⟨k1,_,HV,by simp,l4 k1⟩
theorem ach:∀t:Tm,wH t->dv t->∀l:List Int,Vr l->CC 582 ab [iL l,dH t] (iL (cO l (gd t)))
 |.mk k n s ts,h,hf=>amu _ ((Bj _).1 h).1 hf λu hu=>ach u (((Bj _).1 h).2 u hu)
 decreasing_by simp[Tm.ts]at hu;have:=atw hu;simp;omega
theorem adP{Q:IV->Prop}(ts:List Tm)(qD:Sm ts)(hw:∀t∈ts,wH t/\dv t)(hQ:Q (iL (varsOf ts))):Js.sat ar1 CC Q [] [iT ts]:=by
 simp[Js,Qs,SE.den,aj];refine aw ts.length (λi (a:List Int)=>[iI i,iL a]) (λi a=>Vr a/\a=cO [] (fy (ts.take i))) [] ?_ ⟨Vr.nil,rfl⟩ λi a hi hI=>?_
 ·simp[SE.den]
 by_cases ai:i<ts.length
 ·have ll:=aD ai qD;have hf:=hw _ (ar5 ai);have hb:=ach ts[i] hf.1 hf.2 a hI.1;rw[cL]at hb;simp[SE.den,ai,ll,uS ai,cL,aj,aA,cellsOf];obtain⟨h1,rfl⟩:=hI;exact⟨_,hb,_,by simp,by omega,h1.cO (Aa _ hf.2),by rw[M6 ai,mb]⟩
 ·obtain⟨h1,h2⟩:=hI;rw[asf (by omega)]at h2;simp[SE.den,ai];subst a;exact hQ
theorem aif(ts:List Tm)(qD:Sm ts)(hw:∀t∈ts,wH t/\dv t):CC 125 af [iT ts] (iL (varsOf ts)):=
 CC.CV ak9 n108 t108 (by simp) (by rfl) (adP ts qD hw (by rw[Bl]))
theorem adQ(ts:List Tm)(qD:Sm ts)(hw:∀t∈ts,wH t/\dv t):CC 125 ab [iT ts] (iL (varsOf ts)):=
 CC.CV ahk n108 t108 (by simp) (by rfl) (adP ts qD hw (by rw[Bl]))
theorem v93(g:Gl)(qD:Sm g.ts)(hw:∀t∈g.ts,wH t/\dv t):CC 122 af [.agg [iI g.op,iS g.s,iT g.ts]] (iL (varsOf g.ts)):=by
 refine CC.CV apo n93 t93 (by intro x hx;obtain rfl:=asU.1 hx;exact EK g) (by rfl) ?_;have hb:=aif g.ts qD hw;simp[adj,SE.den,aj];exact⟨_,hb,by simp⟩
theorem v50(g:At)(qD:Sm g.ts)(hw:∀t∈g.ts,wH t/\dv t):CC 62 af [.agg [iS g.s,iT g.ts]] (iL (varsOf g.ts)):=by
 refine CC.CV apr n50 t50 (by intro x hx;obtain rfl:=asU.1 hx;exact EI g) (by rfl) ?_;have hb:=aif g.ts qD hw;simp[adl,SE.den,aj];exact⟨_,hb,by simp⟩
end Go.Proofs.YtpfogalbnijcoaaGreat
namespace Go.Proofs.YtpfogalbnijcoaaGreat
open Go Go.Ev
def adR(ds:List De)(s:List UInt8)(n:Int):Prop:=∃d∈ds,d.s=s/\d.n=n
noncomputable def bB(ds:List De)(s:List UInt8)(n:Int):Bool:=ds.any λd=>d.s==s&&d.n==n
theorem E8(ds:List De)(s:List UInt8)(n:Int):bB ds s n=ab↔adR ds s n:=by simp[bB,adR]
theorem kW{ds:List De}{s:List UInt8}{n:Int}(h:∀d∈ds,(d.s=s->¬d.n=n)):bB ds s n=af:=by
 cases hb:bB ds s n with
 |false=>rfl
 |true=>obtain⟨d,h1,h2⟩:=(E8 _ _ _).1 hb;exact absurd h2.2 (h d h1 h2.1)
theorem E9{ds:List De}{s:List UInt8}{n:Int}{d:De}(hd:d∈ds)(h:d.s=s/\d.n=n):bB ds s n=ab:=(E8 _ _ _).2 ⟨d,hd,h⟩
theorem v51(l:List De)(s:List UInt8)(n:Int)(hl:Sm l):CC 63 af [eo l,iS s,iI n] (iB (bB l s n)):=by
 refine CC.gN apl n51 t51 (by simp) (by rfl) ?_;simp[adg,TR,SE.den,aj];refine dE l.length (λi (_:Unit)=>[iI i]) (λi _=>∀d∈l.take i,(d.s=s->¬d.n=n)) () ?_ (by simp) λi _ hi hI=>?_
 ·simp[SE.den]
 by_cases ai:i<l.length
 ·have hw:=aD ai hl;have hs:=λh=>aB (p:=λd:De=>(d.s=s->¬d.n=n)) ai hI h;have hy:=E9 (ar5 ai) (s:=s) (n:=n);simp[SE.den,ai,hw,ua ai,aj];by_cases h1:l[i].s=s
  ·by_cases h2:l[i].n=n
   ·simp[h1,h2];exact hy ⟨h1,h2⟩
   ·simp[h1,h2];exact⟨by omega,hs λ_ h=>h2 h⟩
  ·simp[h1];exact⟨by omega,hs λh=>absurd h h1⟩
 ·simp[SE.den,ai];exact kW (aI ai hI)
theorem aqi(l:List De)(s:List UInt8)(n:Int)(hl:Sm l):CC 63 ab [eo l,iS s,iI n] (iB (bB l s n)):=by
 refine CC.gN alv n51 t51 (by simp) (by rfl) ?_;simp[ZE,QM,SE.den,aj];refine dE l.length (λi (_:Unit)=>[iI i]) (λi _=>∀d∈l.take i,(d.s=s->¬d.n=n)) () ?_ (by simp) λi _ hi hI=>?_
 ·simp[SE.den]
 by_cases ai:i<l.length
 ·have hw:=aD ai hl;have hs:=λh=>aB (p:=λd:De=>(d.s=s->¬d.n=n)) ai hI h;have hy:=E9 (ar5 ai) (s:=s) (n:=n);simp[SE.den,ai,hw,ua ai,aj,aA];by_cases h1:l[i].s=s
  ·by_cases h2:l[i].n=n
   ·simp[h1,h2];exact hy ⟨h1,h2⟩
   ·simp[h1,h2];exact⟨by omega,hs λ_ h=>h2 h⟩
  ·simp[h1];exact⟨by omega,hs λh=>absurd h h1⟩
 ·simp[SE.den,ai,aA];exact kW (aI ai hI)
theorem aih(l:List De)(s:List UInt8)(n:Int)(hl:Sm l):∃b,(b=0↔bB l s n=ab)/\CC 242 af [eo l,iS s,iI n] (iI b):=by
 refine CC.KV _ ala n200 t200 (by simp) (by rfl) ?_;simp[Zk,Qy,SE.den,aj];refine dE l.length (λi (a:Int)=>[iI i,iI a]) (λ_ a=>a≠0) 7 ?_ (by simp) λi a hi ha=>?_
 ·simp[SE.den]
 by_cases ai:i<l.length
 ·have hw:=aD ai hl;simp[SE.den,ai,hw,ua ai,aj];by_cases h1:l[i].s=s
  ·simp[h1];omega
  ·simp[h1];omega
 ·have hb:=v51 l s n hl;simp[SE.den,ai];refine⟨_,hb,?_⟩;cases bB l s n<;>simp[ha]
def JM(ds:List De)(gs:List Gl):Prop:=∀g∈gs,g.op=0->bB ds g.s g.ts.length=ab
theorem v201(l:List De)(g:List Gl)(hl:Sm l)(hg:Sm g):∃b,(b=0↔JM l g)/\CC 243 af [eo l,rf g] (iI b):=by
 refine CC.KV _ alb n201 t201 (by simp) (by rfl) ?_;simp[Zl,Qz,SE.den,aj];refine dE g.length (λi (_:Unit)=>[iI i]) (λi _=>∀x∈g.take i,x.op=0->bB l x.s x.ts.length=ab) () ?_ (by simp) λi a hi hI=>?_
 ·simp[SE.den]
 by_cases ai:i<g.length
 ·have hw:=aD ai hg;obtain⟨b,hz,hb⟩:=aih l g[i].s g[i].ts.length hl;have hs:=λh=>aB (p:=λx:Gl=>x.op=0->bB l x.s x.ts.length=ab) ai hI h;simp[SE.den,ai,hw,kU ai,aj];by_cases h1:g[i].op=0
  ·right;refine⟨h1,_,hb,?_⟩;simp[hw];by_cases h2:b=0
   ·right;exact⟨h2,by omega,hs λ_=>hz.1 h2⟩
   ·left;exact⟨h2,by simp[h2];exactλh=>h2 (hz.2 (h _ (ar5 ai) h1))⟩
  ·left;exact⟨h1,by omega,hs λh=>absurd h h1⟩
 ·simp[SE.den,ai];exact aI ai hI
def kq(n:Int):Bool:=decide (5<=n)&&decide (n<=12)
theorem aii(n:Int):CC 244 af [iI n] (iB (kq n)):=by
 refine CC.gN alc n202 t202 (by simp) (by rfl) ?_;simp[Zm,SE.den,aj,kq];omega
theorem aqj(l:List Int)(n:Int)(hl:Sm l):CC 246 af [iL l,iI n] (iB (decide (n∈l))):=by
 refine CC.gN alf n204 t204 (by simp) (by rfl) ?_;simp[Zo,QB,SE.den,aj];refine dE l.length (λi (_:Unit)=>[iI i]) (λi _=>∀x∈l.take i,x≠n) () ?_ (by simp) λi _ hi hI=>?_
 ·simp[SE.den]
 by_cases ai:i<l.length
 ·have hw:=aD ai hl;simp[SE.den,ai,hw];by_cases h1:l[i]=n
  ·left;exact⟨h1,h1▸ar5 ai⟩
  ·right;exact⟨h1,by omega,aB ai hI h1⟩
 ·have:=aI ai hI;simp[SE.den,ai];exactλh=>this _ h rfl
end Go.Proofs.YtpfogalbnijcoaaGreat
