/- A part of the proof, no condition: what the checks of the program compute: names, terms, the variables of a rule. -/
import Derived.Test.YtggffkaadeagbaaGreatRhC
import Derived.Test.YtggffkaadeagbaaGreatRgA
import Derived.Test.YtggffkaadeagbaaGreatRhA
import Derived.Test.YtggffkaadeagbaaGreatRgI
import Derived.Test.YtggffkaadeagbaaGreatRiJ
open Go.Proofs.Tryz renaming prog->aqD
open List renaming all_eq_false->avi,getElem_mem->aqI,sizeOf_lt_of_mem->ar5,mem_cons->arv,take_succ_eq_append_getElem->aqR,take_of_length_le->aqT,mem_singleton->arx,eq_nil_of_length_eq_zero->arf
open Go.Lib renaming indexByte->au0
open Ne renaming symm->auQ
open ByteArray renaming size->auy,getElem_eq_getElem_data->awi
open Classical renaming em->avj
open Go.IntKind renaming i64->arc
open Bool renaming and_eq_true->aqG
set_option linter.all false
namespace Go.Proofs.YtggffkaadeagbaaGreat
open Go Go.Ev
variable{n:Nat}{new:Bool}{f:FuncId}{cB:ab}{args:List IV}{cfg:bj}
theorem CC.gF{s:Bool}(he:aI aqD cfg n new f=cB)(hl:(aqD.funcs[f]?).map (·.params.size)=some args.length)(ht:∀z,aN aqD f z=true)(hp:∀x∈args,Pure x)(hn:noTwo cB=true)
 (hs:cB.sat aqD CC (nu (·=s)) [] args):CC f new args (iB s):=by
 obtain⟨b,rfl,h⟩:=CC.q7 (·=s) he hl ht hp hn hs;exact h
def pA(c:Int):Bool:=decide (97≤c∧c≤122)
def zx(c:Int):Bool:=decide (65≤c∧c≤90)
def lV(c:Int):Bool:=pA c||zx c||decide (48≤c∧c≤57)||decide (c=95)
def Ei(s:List UInt8):Bool:=s==[99,111,110,115,116,114,97,105,110,116]||s==[116,114,117,101]||s==[102,97,105,108]||s==[105,115]||s==[105,110,116]||s==[103,114,111,117,110,100]
def q8(s:List UInt8):Bool:=s==[43]||s==[45]||s==[42]||s==[47]||s==[37]
def uT(s:List UInt8):Bool:=s.all (fun c=>lV c.toNat)&&(decide (1≤s.length)&&decide (s.length≤40))
def fN(s:List UInt8):Bool:=uT s&&pA ((s.headD 0).toNat:Int)&& !Ei s
theorem v148(c:Int):CC 148 false [oF c] (iB (pA c)):=by
 refine CC.gF aj6 n148 t148 (by simp) (by rfl) ?_;simp[Yf,SE.den,pA];omega
theorem v198(c:Int):CC 198 false [oF c] (iB (zx c)):=by
 refine CC.gF aj7 n198 t198 (by simp) (by rfl) ?_;simp[Yg,SE.den,zx];omega
theorem ao_(c:List UInt8):CC 149 false [iS c] (iB (Ei c)):=by
 refine CC.gF aj8 n149 t149 (by simp) (by rfl) ?_;simp[Yh,SE.den,Ei]
 grind
theorem apa(c:List UInt8):CC 257 false [iS c] (iB (q8 c)):=by
 refine CC.gF akg n257 t257 (by simp) (by rfl) ?_;simp[Yn,SE.den,q8]
 grind
theorem aej(c:Int):lV c=true↔pA c=true∨zx c=true∨(48≤c∧c≤57)∨c=95:=by simp[lV,or_assoc]
theorem apb(c:List UInt8)(hc:Sm c):CC 147 false [iS c] (iB (uT c)):=by
 refine CC.gF aj5 n147 t147 (by simp) (by rfl) ?_;simp[Ye,PJ,SE.den];refine eg c.length (fun i (_:Unit)=>[iI i]) (fun i _=>∀u∈c.take i,lV u.toNat=true) () ?_ ?_ fun i _ hi hI=>?_
 ·simp[SE.den]
 ·simp
 by_cases aa:i<c.length
 ·have hw:=az aa hc;have h1:=v148 c[i].toNat;have h2:=v198 c[i].toNat
  have bx:¬lV c[i].toNat=true→uT c=false:=fun h=>by
   unfold uT;rw[Bool.and_eq_false_iff];left;rw[avi];exact⟨c[i],aqI aa,by simpa using h⟩
  have Q1:=fun h=>ay (p:=fun u:UInt8=>lV u.toNat=true) aa hI h;rw[aej]at bx Q1;simp[SE.den,aa,hw];refine⟨_,h1,?_⟩;cases cD:pA c[i].toNat with
  |true=>simp;exact⟨by omega,Q1 (.inl cD)⟩
  |false=>
   simp;refine⟨_,h2,?_⟩;cases e_:zx c[i].toNat with
   |true=>simp;exact⟨by omega,Q1 (.inr (.inl e_))⟩
   |false=>
    simp[cD,e_]at Q1 bx⊢;have cT:i+1≤c.length:=by omega
    generalize(∀u∈c.take (i+1),lV u.toNat=true)=A at Q1⊢;have Cb:i+1≤c.length∧A↔A:=by simp[cT]
    grind
 ·have:=aF aa hI;simp[SE.den,aa,uT];have ha:(c.all fun c=>lV c.toNat)=true:=by simpa using this
  simp only[ha,Bool.true_and];by_cases h1:1≤c.length
  ·left;refine⟨by omega,?_⟩;simp[h1];omega
  ·right;exact⟨by omega,fun _ h=>absurd h h1⟩
theorem Zj{c:List UInt8}(h:uT c=true):0<c.length:=by
 simp[uT]at h;omega
theorem v89(c:List UInt8)(hc:Sm c):CC 89 false [iS c] (iB (fN c)):=by
 refine CC.gF aok n89 t89 (by simp) (by rfl) ?_;have h1:=apb c hc;have h3:=ao_ c;simp[acj,SE.den];refine⟨_,h1,?_⟩;cases hw:uT c with
 |false=>simp[fN,hw]
 |true=>
  have hl:=Zj hw;have h2:=v148 c[0].toNat;have h0:c.headD 0=c[0]:=by cases c with|nil=>simp at hl|cons=>rfl
  have hn:fN c=(uT c&&pA c[0].toNat&& !Ei c):=by rw[←h0];rfl
  rw[hn];simp[hl];refine⟨_,h2,?_⟩;cases hb:pA c[0].toNat with
  |false=>simp
  |true=>
   simp;exact⟨_,h3,by simp[hw]⟩
theorem apc(s:List UInt8):CC 136 false [iS s] (iB (Ei s)):=by
 refine CC.gF alp n136 t136 (by simp) (by rfl) ?_;simp[Zc,SE.den,Ei]
 grind (splits:=40)
def B8(c:Int):Int:=if pA c then 1 else if zx c||decide (c=95)then 2 else if decide (48≤c∧c≤57)then 4 else 0
theorem ahh(c:Int):CC 192 false [oF c] (oF (B8 c)):=by
 refine CC.of alo n192 (t192 _) (by simp) (by simp) ?_;simp[Zb,SE.den,B8,pA,zx]
 grind (splits:=40)
theorem apd(s:List UInt8):CC 211 false [iS s] (iB (q8 s)):=by
 refine CC.gF alr n211 t211 (by simp) (by rfl) ?_;simp[Zd,SE.den]
 match s with
 |[c]=>
  have hb:CC 256 false [iS [43,45,42,47,37],iS [c]] (.raw (.bool (decide (0≤au0 [43,45,42,47,37] c)))):=CC.plain (by rw[dK];decide) (ao1 _ c) (.raw _) (t256 _);left;refine⟨by simp,_,hb,?_⟩;have i43:=Lib.indexByte_ge;simp[q8,au0];by_cases h1:c=43
  ·simp[h1]
  by_cases h2:c=45
  ·simp[h2]
  by_cases h3:c=42
  ·simp[h3]
  by_cases h4:c=47
  ·simp[h4]
  by_cases h5:c=37
  ·simp[h5]
  simp[h1,h2,h3,h4,h5,auQ h1,auQ h2,auQ h3,auQ h4,auQ h5]
 |[]=>right;simp[q8]
 |_::_::_=>right;simp[q8];omega
theorem aek(c:Int):c_ aqD .and 174 (oF (B8 c)) (oF 7)=some (oF (B8 c)):=by
 unfold B8;split
 ·rfl
 split
 ·rfl
 split<;>rfl
theorem abn(c:Int):c_ aqD .and 174 (oF (B8 c)) (oF 1)=some (oF (if pA c then 1 else 0)):=by
 unfold B8;split
 ·rfl
 split
 ·rfl
 split<;>rfl
theorem alC(c:Int):B8 c=0↔lV c=false:=by
 unfold B8 lV;cases pA c<;>cases zx c<;>simp
 grind
theorem Ja(c:UInt8)(s:List UInt8):fN (c::s)=(pA c.toNat&&decide (s.length≤39)&&s.all (fun c=>lV c.toNat)&& !Ei (c::s)):=by
 unfold fN uT;cases h:pA c.toNat with
 |false=>simp[h]
 |true=>
  have:lV c.toNat=true:=by simp[lV,h]
  simp[h,this,Bool.and_comm]
theorem Zk(s:List UInt8):CC 83 false [iS s] (iB (fN s)):=by
 refine CC.gF ao0 n83 t83 (by simp) (by rfl) ?_;have hr:=apc s;cases s with
 |nil=>simp[Wc,SE.den];rfl
 |cons c s'=>
  have ha:=ahh (c.toNat:Int);simp[Wc,SE.den];by_cases h1:(40:Int)<s'.length+1
  ·left;refine⟨h1,?_⟩;rw[Ja];simp;omega
  right;refine⟨by omega,_,ha,?_⟩;simp[abn];have hl:(decide (s'.length≤39))=true:=by simp;omega
  rw[Ja,hl];cases h2:pA c.toNat with
  |false=>simp
  |true=>
  simp;refine⟨iS s',?_,⟨_,agm s'⟩,?_⟩
  ·have e1:((s'.length:Int)+1).toNat- 1=s'.length:=by omega
   simp[gC,auy,e1];omega
  unfold TH;refine D1 (fun p:Nat=>[.av [iS s',iI p]]) (fun p=>p≤s'.length∧∀u∈s'.take p,lV u.toNat=true) (fun p=>s'.length- p) 0 ?_ (by simp) fun p ⟨hp0,hI⟩=>?_
  ·simp[SE.den]
  by_cases hp:p<s'.length
  ·have FP:p<(⟨s'.toArray⟩:ByteArray).size:=by simpa[auy]using hp
   have uj:((⟨s'.toArray⟩:ByteArray)[p]'FP)=s'[p]:=by simp[awi]
   have hn:¬((p:Int)<0):=by omega
   have bx:lV s'[p].toNat=false→(∀x∈s',lV x.toNat=true)→Ei (c::s')=true:=fun h ha=>absurd (ha _ (aqI hp)) (by simp[h]);by_cases ape:s'[p].toNat<128
   ·have Wd:=decode_ascii ⟨s'.toArray⟩ p FP (by rw[uj];exact ape);rw[uj]at Wd;have Iy:=ahh (s'[p].toNat:Int)
    have kT:IntKind.u8.wrap (s'[p].toNat:Int)=s'[p].toNat:=by
     simp only[IntKind.wrap,IntKind.bits,IntKind.signed];simp;omega
    simp[SE.den,hp,Wd,hn,kT];by_cases O6:122<(s'[p].toNat:Int)
    ·left;exact⟨O6,bx (by simp[lV,pA,zx];omega)⟩
    right;refine⟨by omega,_,Iy,?_⟩;simp[aek,alC];cases hc:lV s'[p].toNat with
    |false=>simp;exact bx hc
    |true=>simp;exact⟨p+1,by omega,⟨by omega,ay (p:=fun u:UInt8=>lV u.toNat=true) hp hI hc⟩,by omega⟩
   ·obtain⟨xf,sw⟩:=decode_high ⟨s'.toArray⟩ p FP (by rw[uj];omega);generalize Wd:Utf8.decode ⟨s'.toArray⟩ p=dd at xf sw;obtain⟨rn,w⟩:=dd;simp only at xf sw;simp[SE.den,hp,Wd,hn];left;exact⟨by omega,bx (by simp[lV,pA,zx];omega)⟩
  ·have:=aF hp hI;have ha:(s'.all fun c=>lV c.toNat)=true:=by simpa using this
   simp[SE.den,hp];exact⟨_,hr,by simp[ha]⟩
end Go.Proofs.YtggffkaadeagbaaGreat
namespace Go.Proofs.YtggffkaadeagbaaGreat
open Go Go.Ev
mutual
def dA:Tm→Bool
 |.mk k n s ts=>if k=0 then decide (-2147483648≤n)&&decide (n≤2147483648)&&s.isEmpty&&ts.isEmpty
  else if k=1 then decide (0≤n)&&decide (n≤1048576)&&s.isEmpty&&ts.isEmpty
  else if k=2 then decide (n=0)&&((q8 s&&decide (ts.length=2))||(fN s&&decide (ts.length≤6)))&&Au ts
  else false
def Au:List Tm→Bool
 |[]=>true
 |t::l=>dA t&&Au l
end
theorem wC:∀l:List Tm,Au l=l.all dA
 |[]=>rfl
 |t::l=>by simp[Au,wC l]
theorem T0{t:Tm}(h:t.k=0):dA t=(decide (-2147483648≤t.n)&&decide (t.n≤2147483648)&&t.s.isEmpty&&t.ts.isEmpty):=by
 cases t;simp[Tm.k]at h;subst h;simp[dA,Tm.n,Tm.s,Tm.ts];rfl
theorem Ku{t:Tm}(h:t.k=1):dA t=(decide (0≤t.n)&&decide (t.n≤1048576)&&t.s.isEmpty&&t.ts.isEmpty):=by
 cases t;simp[Tm.k]at h;subst h;simp[dA,Tm.n,Tm.s,Tm.ts];rfl
theorem Kv{t:Tm}(h:t.k=2):dA t=(decide (t.n=0)&&((q8 t.s&&decide (t.ts.length=2))||(fN t.s&&decide (t.ts.length≤6)))&&t.ts.all dA):=by
 cases t;simp[Tm.k]at h;subst h;simp[dA,Tm.n,Tm.s,Tm.ts,wC];rfl
theorem T1{t:Tm}(h0:t.k≠0)(h1:t.k≠1)(h2:t.k≠2):dA t=false:=by
 cases t;simp[Tm.k]at h0 h1 h2;simp[dA,h0,h1,h2]
theorem Jb{α:Type}{p:α→Bool}{l:List α}{i:Nat}(h:i<l.length)(hp:p l[i]=false):l.all p=false:=avi.2 ⟨l[i],aqI h,by simp[hp]⟩
theorem alD(t:Tm)(hs:Sm t.s)(hl:Sm t.ts)(ih:∀u∈t.ts,CC 213 false [dB u] (iB (dA u))):CC 213 false [dB t] (iB (dA t)):=by
 refine CC.gF akf n213 t213 (by simpa using mQ t) (by rfl) ?_;rw[cI];have h1:=apa t.s;have h2:=v89 t.s hs
 have l2:∀b,b=t.ts.all dA→∀x y,BU.sat aqD CC (nu (·=b)) [] [.agg [iI t.k,iI t.n,iS t.s,iT t.ts],x,y]:=fun b hb x y=>by
  unfold BU;refine eg t.ts.length (fun i (_:Unit)=>[iI i]) (fun i _=>∀u∈t.ts.take i,dA u=true) () ?_ ?_ fun i _ hi hI=>?_
  ·simp[SE.den]
  ·simp
  by_cases aa:i<t.ts.length
  ·have hw:=az aa hl;have hb:=ih t.ts[i] (aqI aa);rw[cI]at hb;simp only[nq,Pu,Ps,Pt,SY,Pv];simp[SE.den,aa,hw,uh aa,cI,af];refine⟨_,hb,?_⟩;cases hf:dA t.ts[i]<;>simp
   ·subst b;exact Jb aa hf
   ·exact⟨by omega,ay (p:=fun u=>dA u=true) aa hI hf⟩
  ·have:=aF aa hI;simp[SE.den,aa];subst b;simpa using this
 have l1:∀b,b=t.ts.all dA→∀x,G4.sat aqD CC (nu (·=b)) [] [.agg [iI t.k,iI t.n,iS t.s,iT t.ts],x]:=fun b hb x=>by
  unfold G4;refine eg t.ts.length (fun i (_:Unit)=>[iI i]) (fun i _=>∀u∈t.ts.take i,dA u=true) () ?_ ?_ fun i _ hi hI=>?_
  ·simp[SE.den]
  ·simp
  by_cases aa:i<t.ts.length
  ·have hw:=az aa hl;have hb:=ih t.ts[i] (aqI aa);rw[cI]at hb;simp only[nq,Pu,Ps,Pt,SY,Pv];simp[SE.den,aa,hw,uh aa,cI,af];refine⟨_,hb,?_⟩;cases hf:dA t.ts[i]<;>simp
   ·subst b;exact Jb aa hf
   ·exact⟨by omega,ay (p:=fun u=>dA u=true) aa hI hf⟩
  ·have:=aF aa hI;simp[SE.den,aa];subst b;simpa using this
 have e02:PL=BU:=rfl;simp[Ym,SE.den,e02,af];have ee:∀l:List Tm,l.isEmpty=decide (l.length=0):=fun l=>by cases l<;>simp
 have em:=avj (t.s=[]);by_cases k0:t.k=0
 ·left;refine⟨k0,?_⟩;rw[T0 k0];simp;grind
 right;refine⟨k0,?_⟩;by_cases k1:t.k=1
 ·left;refine⟨k1,?_⟩;rw[Ku k1];simp;grind
 right;refine⟨k1,?_⟩;by_cases k2:t.k=2
 ·left;refine⟨k2,_,h1,?_⟩;rw[Kv k2];by_cases n0:t.n=0
  ·cases b1:q8 t.s with
   |true=>
    simp[n0];by_cases eN:(t.ts.length:Int)=2
    ·right;refine⟨by omega,?_⟩;have FM:t.ts.length=2:=by omega
     exact n0▸l1 _ (by simp[FM]) _
    ·left;have FM:¬t.ts.length=2:=by omega
     refine⟨by omega,_,h2,?_⟩;cases b2:fN t.s<;>simp[FM];by_cases h6:6<(t.ts.length:Int)
     ·left;exact⟨h6,fun _=>by omega⟩
     ·right;exact⟨by omega,n0▸l2 _ (by simp;omega) _ _⟩
   |false=>
    simp[n0];refine⟨_,h2,?_⟩;cases b2:fN t.s<;>simp;by_cases h6:6<(t.ts.length:Int)
    ·left;exact⟨h6,fun _=>by omega⟩
    ·right;exact⟨by omega,n0▸l2 _ (by simp;omega) _ _⟩
  ·cases b1:q8 t.s<;>simp[n0]
 ·right;exact⟨k2,T1 k0 k1 k2⟩
theorem ahi:∀t:Tm,nN t→CC 213 false [dB t] (iB (dA t))
 |.mk k n s ts,h=>alD _ ((mC _).1 h).1 ((mC _).1 h).2.1 fun u hu=>ahi u (((mC _).1 h).2.2 u hu)
 decreasing_by simp[Tm.ts]at hu;have:=ar5 hu;simp;omega
mutual
def jl:Tm→Nat
 |.mk k _ _ ts=>if k=2 then cm ts+1 else 1
def cm:List Tm→Nat
 |[]=>0
 |t::l=>jl t+cm l
end
mutual
def vP:Tm→Nat
 |.mk k _ _ ts=>if k=2 then gI ts+1 else 1
def gI:List Tm→Nat
 |[]=>0
 |t::l=>max (vP t) (gI l)
end
theorem tG(t:Tm):jl t=cm (bR t)+1:=by
 obtain⟨k,n,s,ts⟩:=t;show jl (.mk k n s ts)=cm (if k=2 then ts else[])+1;by_cases hk:k=2<;>simp[jl,hk,cm]
theorem Ej(t:Tm):vP t=gI (bR t)+1:=by
 obtain⟨k,n,s,ts⟩:=t;show vP (.mk k n s ts)=gI (if k=2 then ts else[])+1;by_cases hk:k=2<;>simp[vP,hk,gI]
theorem Gc(a b:List Tm):cm (a++b)=cm a+cm b:=by
 induction a with
 |nil=>simp[cm]
 |cons t l ih=>simp[cm,ih];omega
theorem RR(a b:List Tm):gI (a++b)=max (gI a) (gI b):=by
 induction a with
 |nil=>simp[gI]
 |cons t l ih=>simp[gI,ih]
theorem Hj{t:Tm}{l:List Tm}(h:t∈l):jl t≤cm l:=by
 induction l with
 |nil=>cases h
 |cons u l ih=>rcases arv.1 h with rfl|h
               ·simp[cm]
               ·have:=ih h;simp[cm];omega
theorem Q2{t:Tm}{l:List Tm}(h:t∈l):vP t≤gI l:=by
 induction l with
 |nil=>cases h
 |cons u l ih=>rcases arv.1 h with rfl|h
               ·simp[gI];omega
               ·have:=ih h;simp[gI];omega
theorem ael(t:Tm):1≤jl t:=by rw[tG];omega
theorem aem(t:Tm):1≤vP t:=by rw[Ej];omega
theorem aen{t u:Tm}(h:u∈bR t):jl u<jl t:=by
 have:=Hj h;rw[tG t];omega
theorem T2(l:List Tm)(h:∀t∈l,vP t≤jl t):gI l≤cm l:=by
 induction l with
 |nil=>simp[gI]
 |cons t l ih=>have:=h t (by simp);have:=ih fun u hu=>h u (by simp[hu]);simp[gI,cm];omega
theorem Zl:∀t:Tm,vP t≤jl t
 |.mk k n s ts=>by
  have h:=T2 (bR (.mk k n s ts)) fun u hu=>Zl u;rw[tG,Ej];omega
 decreasing_by have:=rY hu;simp[Tm.ts]at this;have:=ar5 this;simp;omega
theorem Q3:∀(l:List Tm) (acc:Nat),(∀t∈l,pW t=jl t)→acc+cm l≤1000000000000→tD acc l=((acc+cm l:Nat):Int)
 |[],acc,_,_=>by simp[tD,cm]
 |t::l,acc,h,hb=>by
  simp only[cm]at hb⊢;rw[tD,h t (by simp),dL (by omega) (by omega)];have:=Q3 l (acc+jl t) (fun u hu=>h u (by simp[hu])) (by omega);rw[show((acc:Int)+(jl t:Int))=((acc+jl t:Nat):Int) by simp,this]
  congr 1;omega
theorem Ek:∀t:Tm,jl t≤1000000000000→pW t=jl t
 |.mk k n s ts,hb=>by
  have h:=Q3 (bR (.mk k n s ts)) 1 (fun u hu=>Ek u (by have:=aen hu;omega)) (by rw[tG]at hb;omega);rw[PE,tG,show(1:Int)=((1:Nat):Int)from rfl,h]
  congr 1;omega
 decreasing_by have:=rY hu;simp[Tm.ts]at this;have:=ar5 this;simp;omega
end Go.Proofs.YtggffkaadeagbaaGreat
namespace Go.Proofs.YtggffkaadeagbaaGreat
open Go Go.Ev
theorem Zm(a b:Int):Jm aqD [iI a,iI b]=some (iI (if b>a then b else a)):=rfl
theorem El{l:List Tm}{i:Nat}(h:i<l.length):gI (l.take (i+1))=max (gI (l.take i)) (vP l[i]):=by
 rw[aqR h,RR];simp[gI]
theorem Em{l:List Tm}{i:Nat}(h:i<l.length):cm (l.take (i+1))=cm (l.take i)+jl l[i]:=by
 rw[aqR h,Gc];simp[cm]
theorem En(l:List Tm)(i:Nat):cm (l.take i)≤cm l:=by
 have:=Gc (l.take i) (l.drop i);rw[List.take_append_drop]at this;omega
def BT(t:Tm):Prop:=nN t∧jl t≤1000000000000
def Mv(l:List Tm):Prop:=Sm l∧(∀t∈l,nN t)∧cm l≤1000000000000
theorem Mv.at{l:List Tm}(h:Mv l){t:Tm}(ht:t∈l):BT t:=⟨h.2.1 t ht,by have:=Hj ht;have:=h.2.2;omega⟩
theorem BT.args{t:Tm}(h:BT t):Mv (bR t):=by
 have h1:=(mC t).1 h.1;have h2:=tG t;refine⟨?_,fun u hu=>h1.2.2 u (rY hu),by have:=h.2;omega⟩;unfold bR;split
 ·exact h1.2.1
 ·simp
theorem alE(t:Tm)(h:BT t)(ih:∀u∈bR t,CC 214 false [dB u] (iI (vP u))):CC 214 false [dB t] (iI (vP t)):=by
 refine CC.of akh n214 (t214 _) (by simpa using mQ t) (by simp) ?_;have Hl:=aa4 t;rw[cI]at Hl⊢;simp[Yo,PM,SE.den,af];refine⟨_,Hl,?_⟩;have LI:(bR t).length≤9223372036854775807:=h.args.1;have CQ:gI (bR t)≤1000000000000:=Nat.le_trans (T2 _ fun u _=>Zl u) h.args.2.2;refine⟨by simp,?_⟩;refine eg (bR t).length (fun i (a:Int)=>[iI i,iI a]) (fun i a=>a=gI ((bR t).take i)) 0 ?_ ?_ fun i a hi ha=>?_
 ·simp[SE.den]
 ·simp[gI]
 by_cases aa:i<(bR t).length
 ·have hw:=az aa LI;have hb:=ih (bR t)[i] (aqI aa);rw[cI]at hb;simp[SE.den,aa,hw,uh aa,cI,af];refine⟨_,hb,?_⟩;simp[SE.den,Zm,aw,hw];have g1:=El aa;refine⟨?_,by omega⟩;rw[g1,ha];split<;>omega
 ·have:(bR t).take i=bR t:=aqT (by omega);rw[this]at ha;have kT:arc.wrap (a+1)=a+1:=dL (by omega) (by omega);simp[SE.den,aa,kT];rw[Ej,ha];simp
theorem ahj:∀t:Tm,BT t→CC 214 false [dB t] (iI (vP t))
 |.mk k n s ts,h=>alE _ h fun u hu=>ahj u (h.args.at hu)
 decreasing_by have:=rY hu;simp[Tm.ts]at this;have:=ar5 this;simp;omega
def Av(t:Tm):Bool:=dA t&&decide (jl t≤200)&&decide (vP t≤20)
def nP(l:List Tm):Bool:=l.all dA&&decide (cm l≤200)&&decide (gI l≤20)
def dr(a:At):Bool:=fN a.s&&decide (a.ts.length≤6)&&nP a.ts
def dW(g:Gl):Bool:=if g.op=0 then dr ⟨g.s,g.ts⟩else g.s.isEmpty&&decide (gu g.op=g.ts.length)&&nP g.ts
theorem apf(t:Tm)(h:BT t):CC 163 false [dB t] (iB (Av t)):=by
 refine CC.gF ake n163 t163 (by simpa using mQ t) (by rfl) ?_;have h1:=ahi t h.1;have h2:=VN t h.1.wf;have h3:=ahj t h;rw[Ek t h.2]at h2;rw[cI]at h1 h2 h3⊢;simp[Yl,SE.den,af];refine⟨_,h1,?_⟩;cases hf:dA t<;>simp[Av,hf];refine⟨_,h2,?_⟩;simp;by_cases hs:jl t≤200
 ·left;exact⟨by omega,_,h3,by simp[hs];omega⟩
 ·right;exact⟨by omega,fun h=>absurd h hs⟩
theorem Zn{l:List Tm}{i:Nat}(h:i<l.length)(hp:Av l[i]=false):nP l=false:=by
 have hm:=aqI h;have h1:=Hj hm;have h2:=Q2 hm;cases hf:dA l[i]with
 |false=>simp[nP,Jb h hf]
 |true=>
  simp[Av,hf]at hp;simp[nP];intro _ _;have:=hp;omega
theorem v107(l:List Tm)(h:Mv l):CC 107 false [iT l] (iB (nP l)):=by
 refine CC.gF akd n107 t107 (by simp) (by rfl) ?_;simp[Yk,PK,SE.den,af];refine eg l.length (fun i (a:Int)=>[iI i,iI a]) (fun i a=>a=cm (l.take i)∧(∀u∈l.take i,dA u=true)∧gI (l.take i)≤20) 0 ?_ ?_ fun i a hi hI=>?_
 ·simp[SE.den]
 ·simp[cm,gI]
 by_cases aa:i<l.length
 ·have hw:=az aa h.1;have hm:=aqI aa;have hb:=apf l[i] (h.at hm);have h2:=VN l[i] (h.at hm).1.wf;rw[Ek _ (h.at hm).2]at h2;rw[cI]at hb h2;simp[SE.den,aa,hw,uh aa,cI,af];refine⟨_,hb,?_⟩;cases hr:Av l[i]<;>simp
  ·exact Zn aa hr
  refine⟨_,h2,?_⟩;have oh:=hr;simp[Av]at oh;have g1:=Em aa;have g2:=En l (i+1);have g3:=h.2.2;have kT:arc.wrap (a+jl l[i])=a+jl l[i]:=by rw[hI.1];exact dL (by omega) (by omega)
  simp[hw,kT];refine⟨by omega,by rw[g1,hI.1];simp,ay (p:=fun u=>dA u=true) aa hI.2.1 oh.1.1,?_⟩;rw[El aa];have:=hI.2.2;omega
 ·have ht:l.take i=l:=aqT (by omega);rw[ht]at hI;obtain⟨h1,h2,h3⟩:=hI;have yl:l.all dA=true:=by simpa using h2
  simp[SE.den,aa,nP,yl,h3];subst a;by_cases hs:cm l≤200<;>simp[hs]
  ·omega
  ·omega
theorem v49(a:At)(hs:Sm a.s)(h:Mv a.ts):CC 49 false [.agg [iS a.s,iT a.ts]] (iB (dr a)):=by
 refine CC.gF aon n49 t49 (by intro x hx;obtain rfl:=arx.1 hx;exact D4 a) (by rfl) ?_;have h1:=v89 a.s hs;have h2:=v107 a.ts h;simp[acn,SE.den,af];refine⟨_,h1,?_⟩;cases hn:fN a.s<;>simp[dr,hn];by_cases hs:a.ts.length≤6
 ·left;exact⟨by omega,_,h2,by simp[hs]⟩
 ·right;exact⟨by omega,fun h=>absurd h hs⟩
theorem v152(g:Gl)(hs:Sm g.s)(h:Mv g.ts):CC 152 false [.agg [iI g.op,iS g.s,iT g.ts]] (iB (dW g)):=by
 refine CC.gF aki n152 t152 (by intro x hx;obtain rfl:=arx.1 hx;exact D6 g) (by rfl) ?_;have h1:=v49 ⟨g.s,g.ts⟩ hs h;have h2:=v107 g.ts h;have h3:=aoz g.op;simp[Yp,SE.den,af];by_cases k0:g.op=0
 ·left;exact⟨k0,_,h1,by simp[dW,k0]⟩
 right;refine⟨k0,?_⟩;by_cases ks:g.s=[]
 ·left;refine⟨ks,_,h3,?_⟩;simp;by_cases ka:gu g.op=g.ts.length
  ·left;exact⟨ka,_,h2,by simp[dW,k0,ka,ks]⟩
  ·right;exact⟨ka,by simp[dW,k0,ka]⟩
 ·right;exact⟨ks,by simp[dW,k0,ks]⟩
end Go.Proofs.YtggffkaadeagbaaGreat
namespace Go.Proofs.YtggffkaadeagbaaGreat
open Go Go.Ev
def acU(p:Bool→Int→Prop)(z:IV):Prop:=∃(b:Bool) (n:Int),z=.av [iB b,.agg [iI n]]∧p b n
@[simp] theorem apE(p:Bool→Int→Prop)(b:Bool)(n:Int):acU p (.av [iB b,.agg [iI n]])↔p b n:=
  ⟨fun⟨b',n',h1,h2⟩=>by cases h1;exact h2,fun h=>⟨b,n,rfl,h⟩⟩
theorem CC.T3{n:Nat}{f:Nat}{cB:ab}{m:Int}{xs:List IV}{cfg:bj}{s:Bool}{r:Int}(he:wP aqD cfg n [1] f=cB)(hl:(aqD.funcs[f]?).map (·.params.size)=some (1+xs.length))(hn:noTwo cB=true)
 (hs:cB.sat aqD CC (acU fun b k=>b=s∧(b=true→k=r)) [] (iI m::xs)):∃k:Int,(s=true→k=r)∧CC (712+f) true (.agg [.agg [iI m]]::xs) (.av [iB s,.agg [iI k]]):=by
 obtain⟨z,⟨b,k,rfl,rfl,hb⟩,h2⟩:=xL hn hs;refine⟨k,hb,?_⟩;have h:=CC.ajw (new:=true) (ins:=[[iI m]]) (outs:=[[iI k]]) (xs:=xs) (z:=iB b) (cfg:=cfg) (n:=n) (f:=f) he hl rfl (by simp[af]) h2;rw[dK]at h;exact h
def r9(t:Tm)(n d:Int):Bool:=dA t&&decide ((jl t:Int)≤n)&&decide ((vP t:Int)≤d)
def y_(l:List Tm)(n d:Int):Bool:=l.all dA&&decide ((cm l:Int)≤n)&&decide ((gI l:Int)≤d)
theorem ahk{l:List Tm}{i:Nat}{n d:Int}(h:i<l.length)(hp:r9 l[i] (n- cm (l.take i)) d=false):y_ l n d=false:=by
 have hm:=aqI h;have h2:=Q2 hm;have g1:=Em h;have g2:=En l (i+1);cases hf:dA l[i]with
 |false=>simp[y_,Jb h hf]
 |true=>
  simp[r9,hf]at hp;simp[y_];intro _ _;have:=hp;omega
theorem acV(l:List Tm)(hl:Sm l)(d:Int)(hd:0≤d)(ih:∀u∈l,∀n:Int,0≤n→n≤1000→∃k:Int,(r9 u n d=true→k=n- jl u)∧CC 871 true [.agg [.agg [iI n]],dB u,iI d] (.av [iB (r9 u n d),.agg [iI k]]))(n:Int)(hn:0≤n)(dD:n≤1000):
 ∃k:Int,(y_ l n d=true→k=n- cm l)∧CC 815 true [.agg [.agg [iI n]],iT l,iI d] (.av [iB (y_ l n d),.agg [iI k]]):=by
 refine CC.T3 (f:=103) (xs:=[iT l,iI d]) ak7 n103 (by rfl) ?_;simp[YV,SE.den,af];unfold Qg;refine ao l.length (fun i (a:Int)=>[iI i,iI a]) (fun i a=>a=n- cm (l.take i)∧0≤a∧(∀u∈l.take i,dA u=true)∧(gI (l.take i):Int)≤d) n ?_ (by simp[cm,gI,hn,hd]) fun i a hi hI=>?_
 ·simp[SE.den]
 by_cases aa:i<l.length
 ·have hw:=az aa hl;obtain⟨nQ,jh,qO,hI4⟩:=hI;obtain⟨k,hp,hb⟩:=ih l[i] (aqI aa) a jh (by omega);rw[cI]at hb;simp[SE.den,aa,hw,uh aa,cI,af];refine⟨_,hb,?_⟩;cases hr:r9 l[i] a d<;>simp[aw,af]
  ·exact ahk aa (nQ▸hr)
  ·have oh:=hr;simp[r9]at oh;have g1:=Em aa;have g2:=El aa;have hk:=hp hr;exact .mk k rfl (by omega) ⟨by omega,by omega,ay (p:=fun u=>dA u=true) aa qO oh.1.1,by omega⟩
 ·have ht:l.take i=l:=aqT (by omega);rw[ht]at hI;obtain⟨h1,h2,h3,h4⟩:=hI;have Ib:l.all dA=true:=by simpa using h3
  simp[SE.den,aa,aw];refine⟨?_,h1⟩;simp[y_,Ib,h4];omega
theorem Kw{t:Tm}(h:t.k=2):bR t=t.ts:=by simp[bR,h]
theorem Ky{t:Tm}(h:t.k≠2):bR t=[]:=by simp[bR,h]
theorem sz1{t:Tm}(h:t.k≠2):jl t=1:=by simp[tG,Ky h,cm]
theorem dp1{t:Tm}(h:t.k≠2):vP t=1:=by simp[Ej,Ky h,gI]
theorem We{t:Tm}(h:t.k≠2)(n d:Int)(h1:1≤n)(h2:1≤d):r9 t n d=dA t:=by
 have e1:decide (((1:Nat):Int)≤n)=true:=by simp;omega
 have e2:decide (((1:Nat):Int)≤d)=true:=by simp;omega
 rw[r9,sz1 h,dp1 h,e1,e2];simp
theorem alF{t:Tm}(h:t.k=2)(n d:Int):r9 t n d=(decide (t.n=0)&&((q8 t.s&&decide (t.ts.length=2))||(fN t.s&&decide (t.ts.length≤6)))&&y_ t.ts (n- 1) (d- 1)):=by
 have e1:decide ((jl t:Int)≤n)=decide ((cm t.ts:Int)≤n- 1):=by rw[tG,Kw h];simp;omega
 have e2:decide ((vP t:Int)≤d)=decide ((gI t.ts:Int)≤d- 1):=by rw[Ej,Kw h];simp;omega
 rw[r9,e1,e2,Kv h,y_];simp only[Bool.and_assoc]
theorem alG(t:Tm)(hs:Sm t.s)(hl:Sm t.ts)(d:Int)(ih:1≤d→∀u∈t.ts,∀n:Int,0≤n→n≤1000→∃k:Int,(r9 u n (d- 1)=true→k=n- jl u)∧CC 871 true [.agg [.agg [iI n]],dB u,iI (d- 1)] (.av [iB (r9 u n (d- 1)),.agg [iI k]]))(n:Int)(hn:0≤n)(dD:n≤1000)(zK:0≤d)(KV:d≤1000):
 ∃k:Int,(r9 t n d=true→k=n- jl t)∧CC 871 true [.agg [.agg [iI n]],dB t,iI d] (.av [iB (r9 t n d),.agg [iI k]]):=by
 refine CC.T3 (f:=159) (xs:=[dB t,iI d]) ak6 n159 (by rfl) ?_;rw[cI];have h1:=Zk t.s;have h2:=apd t.s;have w1:arc.wrap (n- 1)=n- 1:=dL (by omega) (by omega);have w2:arc.wrap (d- 1)=d- 1:=dL (by omega) (by omega);simp[YU,SE.den,af,aw,w1,w2];have hz:=ael t;have hq:=aem t;by_cases y0:n- 1<0
 ·left;refine⟨y0,?_⟩;simp[r9];omega
 right;refine⟨by omega,?_⟩;by_cases y1:d<1
 ·left;refine⟨y1,?_⟩;simp[r9];omega
 right;refine⟨by omega,?_⟩;obtain⟨k3,hp3,h3⟩:=acV t.ts hl (d- 1) (by omega) (ih (by omega)) (n- 1) (by omega) (by omega);have ee:t.ts.isEmpty=decide (t.ts.length=0):=by cases t.ts<;>simp
 have es:t.s.isEmpty=decide (t.s=[]):=by cases t.s<;>simp
 have em:=avj (t.s=[]);by_cases k0:t.k=0
 ·left;refine⟨k0,?_⟩;have k2:t.k≠2:=by omega
  rw[We k2 n d (by omega) (by omega),T0 k0,sz1 k2];rw[ee,es];clear ih h3 hp3 h1 h2 w1 w2;simp;grind
 right;refine⟨k0,?_⟩;by_cases k1:t.k=1
 ·left;refine⟨k1,?_⟩;have k2:t.k≠2:=by omega
  rw[We k2 n d (by omega) (by omega),Ku k1,sz1 k2];rw[ee,es];clear ih h3 hp3 h1 h2 w1 w2;simp;grind
 right;refine⟨k1,?_⟩;by_cases k2:t.k=2
 rotate_left
 ·right;refine⟨k2,?_⟩;rw[We k2 n d (by omega) (by omega),T1 k0 k1 k2]
 left;refine⟨k2,?_⟩
 have rf:∀b:Bool,r9 t n d=(b&&y_ t.ts (n- 1) (d- 1))→b=true→y_ t.ts (n- 1) (d- 1)=r9 t n d∧(y_ t.ts (n- 1) (d- 1)=true→k3=n- jl t):=fun b e1 e2=>by
  subst e2;refine⟨by simp[e1],fun h=>?_⟩;rw[hp3 h,tG,Kw k2];simp;omega
 rw[alF k2]at rf⊢;by_cases n0:t.n=0
 rotate_left
 ·left;simp[n0]
 right;refine⟨n0,?_⟩;by_cases z6:(6:Int)<t.ts.length
 ·left;have:¬t.ts.length≤6:=by omega
  have:¬t.ts.length=2:=by omega
  simp[*]
 have z6':t.ts.length≤6:=by omega
 right;refine⟨by omega,_,h1,?_⟩;cases b1:fN t.s with
 |true=>
  simp[b1,n0,z6']at rf⊢;exact⟨_,h3,by simp[af,aw];exact rf⟩
 |false=>
  simp;refine⟨_,h2,?_⟩;cases b2:q8 t.s with
  |false=>simp
  |true=>
   simp;by_cases z2':t.ts.length=2
   ·simp[b1,b2,n0,z2']at rf⊢;exact⟨_,h3,by simp[af,aw];exact rf⟩
   ·left;exact⟨by omega,fun _ h=>absurd h z2'⟩
theorem v159:∀t:Tm,nN t→∀n d:Int,0≤n→n≤1000→0≤d→d≤1000→∃k:Int,(r9 t n d=true→k=n- jl t)∧CC 871 true [.agg [.agg [iI n]],dB t,iI d] (.av [iB (r9 t n d),.agg [iI k]])
 |.mk k n s ts,h=>fun n d h1 h2 h3 h4=>by
  exact alG _ ((mC _).1 h).1 ((mC _).1 h).2.1 d (fun hd u hu n a b=>v159 u (((mC _).1 h).2.2 u hu) n (d- 1) a b (by omega) (by omega)) n h1 h2 h3 h4
 decreasing_by simp[Tm.ts]at hu;have:=ar5 hu;simp;omega
theorem ahl(l:List Tm)(hl:Sm l)(h:∀t∈l,nN t)(n d:Int)(h1:0≤n)(h2:n≤1000)(h3:0≤d)(h4:d≤1000):
 ∃k:Int,CC 815 true [.agg [.agg [iI n]],iT l,iI d] (.av [iB (y_ l n d),.agg [iI k]]):=by
 obtain⟨k,_,h⟩:=acV l hl d h3 (fun u hu n a b=>v159 u (h u hu) n d a b h3 h4) n h1 h2;exact⟨k,h⟩
theorem Mw(l:List Tm):y_ l 200 20=nP l:=by
 have e1:∀a b:Nat,decide ((a:Int)≤b)=decide (a≤b):=fun a b=>by simp
 rw[y_,nP,show(200:Int)=((200:Nat):Int)from rfl,show(20:Int)=((20:Nat):Int)from rfl,e1,e1]
theorem v45(a:At)(h:rZ a):CC 45 false [.agg [iS a.s,iT a.ts]] (iB (dr a)):=by
 refine CC.gF aoI n45 t45 (by intro x hx;obtain rfl:=arx.1 hx;exact D4 a) (by rfl) ?_;have h1:=Zk a.s;obtain⟨k2,h2⟩:=ahl a.ts h.2.1 h.2.2 200 20 (by omega) (by omega) (by omega) (by omega);rw[Mw]at h2;simp[acD,SE.den,af];refine⟨_,h1,?_⟩;cases hn:fN a.s<;>simp[dr,hn];by_cases hs:a.ts.length≤6
 ·left;exact⟨by omega,_,h2,by simp[af,hs]⟩
 ·right;exact⟨by omega,fun h=>absurd h hs⟩
theorem v138(g:Gl)(h:r6 g):CC 138 false [.agg [iI g.op,iS g.s,iT g.ts]] (iB (dW g)):=by
 refine CC.gF ak9 n138 t138 (by intro x hx;obtain rfl:=arx.1 hx;exact D6 g) (by rfl) ?_;have h1:=Zk g.s;obtain⟨k2,h2⟩:=ahl g.ts h.2.1 h.2.2 200 20 (by omega) (by omega) (by omega) (by omega);rw[Mw]at h2;have es:g.s.isEmpty=decide (g.s=[]):=by cases g.s<;>simp
 have ez:(g.ts=[])=(g.ts.length=0):=by cases g.ts<;>simp
 simp[YW,SE.den,af];by_cases k0:g.op=0
 ·left;refine⟨k0,_,h1,?_⟩;cases hn:fN g.s<;>simp[dW,k0,dr,hn];by_cases h6:g.ts.length≤6
  ·left;exact⟨by omega,_,h2,by simp[af,h6]⟩
  ·right;exact⟨by omega,fun h=>absurd h h6⟩
 right;refine⟨k0,?_⟩;have hG:∀A:Int,gu g.op=A→dW g=(decide (g.s=[])&&decide (A=g.ts.length)&&nP g.ts):=fun A e=>by simp only[dW,k0,if_false,es,e]
 by_cases k1:g.op=1
 ·left;refine⟨k1,?_⟩;left;refine⟨by omega,?_⟩;left;refine⟨by omega,?_⟩;have gA:=hG 0 (by simp[gu,k1]);by_cases ks:g.s=[]
  ·left;refine⟨ks,?_⟩;by_cases kt:g.ts=[]
   ·left;exact⟨kt,_,h2,by simp[af,gA,ks,kt]⟩
   ·right;exact⟨kt,by rw[gA];have:¬(0:Int)=g.ts.length:=fun e=>kt (arf (by omega));simp[this]⟩
  ·right;exact⟨ks,by simp[gA,ks]⟩
 right;refine⟨k1,?_⟩;by_cases k2:g.op=2
 ·left;refine⟨k2,?_⟩;left;refine⟨by omega,?_⟩;left;refine⟨by omega,?_⟩;have gA:=hG 0 (by simp[gu,k2]);by_cases ks:g.s=[]
  ·left;refine⟨ks,?_⟩;by_cases kt:g.ts=[]
   ·left;exact⟨kt,_,h2,by simp[af,gA,ks,kt]⟩
   ·right;exact⟨kt,by rw[gA];have:¬(0:Int)=g.ts.length:=fun e=>kt (arf (by omega));simp[this]⟩
  ·right;exact⟨ks,by simp[gA,ks]⟩
 right;refine⟨k2,?_⟩;by_cases Mp:g.op=11
 ·left;refine⟨Mp,?_⟩;left;refine⟨by omega,?_⟩;left;refine⟨by omega,?_⟩;have gA:=hG 1 (by simp[gu,Mp]);by_cases ks:g.s=[]
  ·left;refine⟨ks,?_⟩;by_cases kt:(g.ts.length:Int)=1
   ·left;exact⟨kt,_,h2,by simp[af,gA,ks,kt]⟩
   ·right;exact⟨kt,by rw[gA];simp[ks];omega⟩
  ·right;exact⟨ks,by simp[gA,ks]⟩
 right;refine⟨Mp,?_⟩;by_cases Mq:g.op=12
 ·left;refine⟨Mq,?_⟩;left;refine⟨by omega,?_⟩;left;refine⟨by omega,?_⟩;have gA:=hG 1 (by simp[gu,Mq]);by_cases ks:g.s=[]
  ·left;refine⟨ks,?_⟩;by_cases kt:(g.ts.length:Int)=1
   ·left;exact⟨kt,_,h2,by simp[af,gA,ks,kt]⟩
   ·right;exact⟨kt,by rw[gA];simp[ks];omega⟩
  ·right;exact⟨ks,by simp[gA,ks]⟩
 right;refine⟨Mq,?_⟩;by_cases p0:0<g.op
 rotate_left
 ·right;refine⟨by omega,?_⟩;have:¬(2<g.op∧g.op<11):=by omega
  rw[hG (-1) (by simp[gu,k1,k2,Mp,Mq,this])];simp;try omega
 left;refine⟨p0,?_⟩;by_cases p12:g.op≤12
 rotate_left
 ·right;refine⟨by omega,?_⟩;have:¬(2<g.op∧g.op<11):=by omega
  rw[hG (-1) (by simp[gu,k1,k2,Mp,Mq,this])];simp;try omega
 left;refine⟨p12,?_⟩;have hp:2<g.op∧g.op<11:=by omega
 have gA:=hG 2 (by simp[gu,k1,k2,Mp,Mq,hp]);by_cases ks:g.s=[]
 ·left;refine⟨ks,?_⟩;by_cases kt:(g.ts.length:Int)=2
  ·left;exact⟨kt,_,h2,by simp[af,gA,ks,kt]⟩
  ·right;exact⟨kt,by rw[gA];simp[ks];omega⟩
 ·right;exact⟨ks,by simp[gA,ks]⟩
end Go.Proofs.YtggffkaadeagbaaGreat
namespace Go.Proofs.YtggffkaadeagbaaGreat
open Go Go.Ev
mutual
theorem aeo:∀t:Tm,dA t=true→dm t
 |.mk k n s ts,h=>by
  rw[yY];simp only[Tm.k,Tm.n,Tm.ts];refine⟨fun h1=>?_,fun h2=>?_⟩
  ·rw[Ku (by exact h1)]at h;simp only[Tm.n,aqG]at h;exact⟨of_decide_eq_true h.1.1.1,of_decide_eq_true h.1.1.2⟩
  ·rw[Kv (by exact h2),←wC]at h;simp only[aqG]at h;exact Hm ts h.2
theorem Hm:∀l:List Tm,Au l=true→∀u∈l,dm u
 |[],_=>by simp
 |t::l,h=>by
  simp only[Au,aqG]at h;intro u hu;rcases arv.1 hu with hu|hu
  ·rw[hu];exact aeo t h.1
  ·exact Hm l h.2 u hu
end
theorem Q4{l:List Tm}(h:nP l=true):∀u∈l,dm u:=by
 simp only[nP,aqG,←wC]at h;exact Hm l h.1.1
def qu(acc:List Int)(x:Int):List Int:=if x∈acc then acc else acc++[x]
def cK(l xs:List Int):List Int:=xs.foldl qu l
theorem xR(xs:List Int):cK [] xs=As xs:=rfl
theorem lW(l xs ys:List Int):cK l (xs++ys)=cK (cK l xs) ys:=by simp[cK,List.foldl_append]
theorem Vr.cK{l xs:List Int}(h:Vr l)(hx:∀x∈xs,0≤x∧x≤1048576):Vr (cK l xs):=by
 induction xs generalizing l with
 |nil=>exact h
 |cons x xs ih=>
  refine ih (l:=qu l x) ?_ (fun y hy=>hx y (by simp[hy]));unfold qu;split
  ·exact h
  ·exact h.snoc (by assumption) (hx x (by simp))
def fq(l:List Tm):List Int:=(l.map fX).flatten
theorem Mx{l:List Tm}{i:Nat}(h:i<l.length):fq (l.take (i+1))=fq (l.take i)++fX l[i]:=by
 unfold fq;rw[aqR h,List.map_append,List.flatten_append];simp
theorem Wf{l:List Tm}(h:∀t∈l,dm t):∀x∈fq l,0≤x∧x≤1048576:=fun x hx=>by
 obtain⟨y,hy,hx⟩:=List.mem_flatten.1 hx;obtain⟨u,hu,rfl⟩:=List.mem_map.1 hy;exact y8 u (h u hu) x hx
theorem Zo{t:Tm}(h:t.k≠1):fX t=fq (bR t):=by
 obtain⟨k,n,s,ts⟩:=t;simp only[Tm.k]at h;simp only[fX,h,if_false,bR,Tm.k,Tm.ts,BX,fq];by_cases h2:k=2<;>simp[h2]
theorem CC.apg{n:Nat}{new:Bool}{f:FuncId}{cB:ab}{cfg:bj}{l r:List Int}{xs:List IV}(he:wO aqD cfg n 1 f=cB)(hl:(aqD.funcs[f]?).map (·.params.size)=some (xs.length+1))(hn:noTwo cB=true)
 (hs:cB.sat aqD CC (BV (·=r)) [] (iL l::xs)):CC (356+f) new (iL l::xs) (iL r):=by
 obtain⟨_,rfl,h⟩:=CC.agp (·=r) he hl hn hs;exact h
theorem CC.B9{n:Nat}{new:Bool}{f:FuncId}{cB:ab}{cfg:bj}{args:List IV}{r:List Int}(he:aI aqD cfg n new f=cB)(hl:(aqD.funcs[f]?).map (·.params.size)=some args.length)(ht:∀z,aN aqD f z=true)(hp:∀x∈args,Pure x)(hn:noTwo cB=true)
 (hs:cB.sat aqD CC (BV (·=r)) [] args):CC f new args (iL r):=by
 obtain⟨_,rfl,h⟩:=CC.agq (·=r) he hl ht hp hn hs;exact h
theorem alH(t:Tm)(qd:Sm t.ts)(ht:dm t)(ih:∀u∈t.ts,dm u→∀l:List Int,Vr l→CC 511 true [iL l,dB u] (iL (cK l (fX u))))(l:List Int)(hl:Vr l):
 CC 511 true [iL l,dB t] (iL (cK l (fX t))):=by
 refine CC.apg (f:=155) akC n155 (by rfl) ?_;have Hl:=aa4 t;have CM:=hl.len;have LI:(bR t).length≤9223372036854775807:=by unfold bR;split<;>simp[qd]
 have hfa:∀u∈bR t,dm u:=fun u hu=>YF ht hu;have iha:∀u∈bR t,∀l:List Int,Vr l→CC 511 true [iL l,dB u] (iL (cK l (fX u))):=fun u hu=>ih u (rY hu) (hfa u hu);rw[cI]at Hl⊢;have key:∀(m:List Int),Vr m→∀(x:List IV→List IV) (K:List (List IV→Prop)),True:=fun _ _ _ _=>trivial
 have step:∀{m:List Int} {i:Nat} {a:List Int} (aa:i<(bR t).length),Vr a∧a=cK m (fq ((bR t).take i))→Vr (cK a (fX (bR t)[i]))∧cK a (fX (bR t)[i])=cK m (fq ((bR t).take (i+1))):=by
  rintro m i a aa ⟨h1,rfl⟩;exact⟨h1.cK (y8 _ (hfa _ (aqI aa))),by rw[Mx aa,lW]⟩
 have fin:∀{m:List Int} {i:Nat} {a:List Int},¬i<(bR t).length→Vr a∧a=cK m (fq ((bR t).take i))→a=cK m (fq (bR t)):=by
  rintro m i a aa ⟨_,rfl⟩;rw[aqT (by omega)]
 have l4:t.k≠1→G8.sat aqD CC (BV (·=cK l (fX t))) [] [iL l,.agg [iI t.k,iI t.n,iS t.s,iT t.ts],iT (bR t)]:=by
  intro hk;rw[Zo hk];unfold G8;refine ao (bR t).length (fun i (a:List Int)=>[iI i,iL a]) (fun i a=>Vr a∧a=cK l (fq ((bR t).take i))) l ?_ ?_ fun i a hi hI=>?_
  ·simp[SE.den]
  ·exact⟨hl,rfl⟩
  by_cases aa:i<(bR t).length
  ·have hw:=az aa LI;have hb:=iha (bR t)[i] (aqI aa) a hI.1;rw[cI]at hb;simp[SE.den,aa,hw,uh aa,cI,af,aw,cellsOf];exact⟨_,hb,_,by simp,by omega,step aa hI⟩
  ·simp[SE.den,aa];exact⟨_,⟨by simp[cellsOf,aw],rfl⟩,by rw[Am];exact fin aa hI⟩
 have l2:bR t=[]→∀x:IV,G7.sat aqD CC (BV (·=l)) [] [iL l,.agg [iI t.k,iI t.n,iS t.s,iT t.ts],x,iT (bR t)]:=by
  intro ha x;unfold G7;rw[ha];refine ao 0 (fun i (a:List Int)=>[iI i,iL a]) (fun i a=>a=l) l ?_ rfl fun i a hi hI=>?_
  ·simp[SE.den]
  obtain rfl:i=0:=by omega
  simp[SE.den];subst a;exact⟨_,⟨by simp[cellsOf,aw],rfl⟩,by rw[Am]⟩
 have l1:bR t=[]→∀(x:IV) (m:List Int),G6.sat aqD CC (BV (·=m)) [] [iL l,.agg [iI t.k,iI t.n,iS t.s,iT t.ts],x,iL m,iT (bR t)]:=by
  intro ha x m;unfold G6;rw[ha];refine ao 0 (fun i (a:List Int)=>[iI i,iL a]) (fun i a=>a=m) m ?_ rfl fun i a hi hI=>?_
  ·simp[SE.den]
  obtain rfl:i=0:=by omega
  simp[SE.den];subst a;exact⟨_,⟨by simp[cellsOf,aw],rfl⟩,by rw[Am]⟩
 have l0:G5.sat aqD CC (BV (·=cK l (fX t))) [Px fun vs=>∃b:Bool,vs=[iB b]∧(b=decide (t.n∈l))] [iL l,.agg [iI t.k,iI t.n,iS t.s,iT t.ts]]:=by
  unfold G5;refine eg l.length (fun i (_:Unit)=>[iI i]) (fun i _=>∀x∈l.take i,x≠t.n) () ?_ ?_ fun i _ hi hI=>?_
  ·simp[SE.den]
  ·simp
  by_cases aa:i<l.length
  ·have hw:=az aa (by omega);simp[SE.den,aa,hw,cellsOf,Px];by_cases he:l[i]=t.n
   ·left;exact⟨he,he▸aqI aa⟩
   ·right;exact⟨he,by omega,ay aa hI he⟩
  ·have:=aF aa hI;simp[SE.den,aa,Px];exact fun h=>this _ h rfl
 simp[YE,SE.den,af];by_cases k1:t.k=1
 ·left;refine⟨k1,?_⟩;have aph:fX t=[t.n]:=by obtain⟨k,n,s,ts⟩:=t;simp only[Tm.k]at k1;simp[fX,k1,Tm.n]
  have bc:bR t=[]:=Ky (by omega);rw[aph]at l0⊢;unfold P2;refine pe (fun vs=>∃b:Bool,vs=[iB b]∧(b=decide (t.n∈l))) l0 ?_;rintro vs ⟨b,rfl,hb⟩;refine⟨rfl,?_⟩;simp[SE.den,af,aw,cellsOf];have B_:cK l [t.n]=qu l t.n:=rfl;rw[B_];unfold qu;cases b with
  |true=>
   have hm:t.n∈l:=by simpa using hb.symm
   rw[if_pos hm];right;exact⟨rfl,_,Hl,by simp,l2 bc _⟩
  |false=>
   have hm:t.n∉l:=by simpa using hb.symm
   rw[if_neg hm];left;refine⟨rfl,iL (l++[t.n]),?_,_,Hl,by simp,l1 bc _ _⟩;simp[jM,iN,cellsOf];exact⟨rfl,by omega,by omega⟩
 ·right;exact⟨k1,_,Hl,by simp,l4 k1⟩
theorem abo:∀t:Tm,vO t→dm t→∀l:List Int,Vr l→CC 511 true [iL l,dB t] (iL (cK l (fX t)))
 |.mk k n s ts,h,hf=>alH _ ((Ak _).1 h).1 hf fun u hu=>abo u (((Ak _).1 h).2 u hu)
 decreasing_by simp[Tm.ts]at hu;have:=ar5 hu;simp;omega
theorem acW{Q:IV→Prop}(ts:List Tm)(qd:Sm ts)(hw:∀t∈ts,vO t∧dm t)(hQ:Q (iL (varsOf ts))):IT.sat aqD CC Q [] [iT ts]:=by
 simp[IT,PQ,SE.den,af];refine ao ts.length (fun i (a:List Int)=>[iI i,iL a]) (fun i a=>Vr a∧a=cK [] (fq (ts.take i))) [] ?_ ⟨Vr.nil,rfl⟩ fun i a hi hI=>?_
 ·simp[SE.den]
 by_cases aa:i<ts.length
 ·have kT:=az aa qd;have hf:=hw _ (aqI aa);have hb:=abo ts[i] hf.1 hf.2 a hI.1;rw[cI]at hb;simp[SE.den,aa,kT,uh aa,cI,af,aw,cellsOf];obtain⟨h1,rfl⟩:=hI;exact⟨_,hb,_,by simp,by omega,h1.cK (y8 _ hf.2),by rw[Mx aa,lW]⟩
 ·obtain⟨h1,h2⟩:=hI;rw[aqT (by omega)]at h2;simp[SE.den,aa];subst a;exact hQ
theorem ahm(ts:List Tm)(qd:Sm ts)(hw:∀t∈ts,vO t∧dm t):CC 108 false [iT ts] (iL (varsOf ts)):=
 CC.B9 akl n108 t108 (by simp) (by rfl) (acW ts qd hw (by rw[Am]))
theorem acX(ts:List Tm)(qd:Sm ts)(hw:∀t∈ts,vO t∧dm t):CC 108 true [iT ts] (iL (varsOf ts)):=
 CC.B9 agr n108 t108 (by simp) (by rfl) (acW ts qd hw (by rw[Am]))
theorem v93(g:Gl)(qd:Sm g.ts)(hw:∀t∈g.ts,vO t∧dm t):CC 93 false [.agg [iI g.op,iS g.s,iT g.ts]] (iL (varsOf g.ts)):=by
 refine CC.B9 aoo n93 t93 (by intro x hx;obtain rfl:=arx.1 hx;exact D6 g) (by rfl) ?_;have hb:=ahm g.ts qd hw;simp[aco,SE.den,af];exact⟨_,hb,by simp⟩
theorem v50(g:At)(qd:Sm g.ts)(hw:∀t∈g.ts,vO t∧dm t):CC 50 false [.agg [iS g.s,iT g.ts]] (iL (varsOf g.ts)):=by
 refine CC.B9 aoq n50 t50 (by intro x hx;obtain rfl:=arx.1 hx;exact D4 g) (by rfl) ?_;have hb:=ahm g.ts qd hw;simp[acq,SE.den,af];exact⟨_,hb,by simp⟩
end Go.Proofs.YtggffkaadeagbaaGreat
namespace Go.Proofs.YtggffkaadeagbaaGreat
open Go Go.Ev
def acY(ds:List De)(s:List UInt8)(n:Int):Prop:=∃d∈ds,d.s=s∧d.n=n
noncomputable def bu(ds:List De)(s:List UInt8)(n:Int):Bool:=ds.any fun d=>d.s==s&&d.n==n
theorem Eo(ds:List De)(s:List UInt8)(n:Int):bu ds s n=true↔acY ds s n:=by simp[bu,acY]
theorem kI{ds:List De}{s:List UInt8}{n:Int}(h:∀d∈ds,(d.s=s→¬d.n=n)):bu ds s n=false:=by
 cases hb:bu ds s n with
 |false=>rfl
 |true=>obtain⟨d,h1,h2⟩:=(Eo _ _ _).1 hb;exact absurd h2.2 (h d h1 h2.1)
theorem Ep{ds:List De}{s:List UInt8}{n:Int}{d:De}(hd:d∈ds)(h:d.s=s∧d.n=n):bu ds s n=true:=(Eo _ _ _).2 ⟨d,hd,h⟩
theorem v51(l:List De)(s:List UInt8)(n:Int)(hl:Sm l):CC 51 false [eI l,iS s,iI n] (iB (bu l s n)):=by
 refine CC.gF aol n51 t51 (by simp) (by rfl) ?_;simp[ack,S8,SE.den,af];refine eg l.length (fun i (_:Unit)=>[iI i]) (fun i _=>∀d∈l.take i,(d.s=s→¬d.n=n)) () ?_ (by simp) fun i _ hi hI=>?_
 ·simp[SE.den]
 by_cases aa:i<l.length
 ·have hw:=az aa hl;have hs:=fun h=>ay (p:=fun d:De=>(d.s=s→¬d.n=n)) aa hI h;have hy:=Ep (aqI aa) (s:=s) (n:=n);simp[SE.den,aa,hw,tF aa,af];by_cases h1:l[i].s=s
  ·by_cases h2:l[i].n=n
   ·simp[h1,h2];exact hy ⟨h1,h2⟩
   ·simp[h1,h2];exact⟨by omega,hs fun _ h=>h2 h⟩
  ·simp[h1];exact⟨by omega,hs fun h=>absurd h h1⟩
 ·simp[SE.den,aa];exact kI (aF aa hI)
theorem api(l:List De)(s:List UInt8)(n:Int)(hl:Sm l):CC 51 true [eI l,iS s,iI n] (iB (bu l s n)):=by
 refine CC.gF akG n51 t51 (by simp) (by rfl) ?_;simp[YN,Qb,SE.den,af];refine eg l.length (fun i (_:Unit)=>[iI i]) (fun i _=>∀d∈l.take i,(d.s=s→¬d.n=n)) () ?_ (by simp) fun i _ hi hI=>?_
 ·simp[SE.den]
 by_cases aa:i<l.length
 ·have hw:=az aa hl;have hs:=fun h=>ay (p:=fun d:De=>(d.s=s→¬d.n=n)) aa hI h;have hy:=Ep (aqI aa) (s:=s) (n:=n);simp[SE.den,aa,hw,tF aa,af,aw];by_cases h1:l[i].s=s
  ·by_cases h2:l[i].n=n
   ·simp[h1,h2];exact hy ⟨h1,h2⟩
   ·simp[h1,h2];exact⟨by omega,hs fun _ h=>h2 h⟩
  ·simp[h1];exact⟨by omega,hs fun h=>absurd h h1⟩
 ·simp[SE.den,aa,aw];exact kI (aF aa hI)
theorem ahn(l:List De)(s:List UInt8)(n:Int)(hl:Sm l):∃b,(b=0↔bu l s n=true)∧CC 200 false [eI l,iS s,iI n] (iI b):=by
 refine CC.Ki _ akn n200 t200 (by simp) (by rfl) ?_;simp[Yu,PY,SE.den,af];refine eg l.length (fun i (a:Int)=>[iI i,iI a]) (fun _ a=>a≠0) 7 ?_ (by simp) fun i a hi ha=>?_
 ·simp[SE.den]
 by_cases aa:i<l.length
 ·have hw:=az aa hl;simp[SE.den,aa,hw,tF aa,af];by_cases h1:l[i].s=s
  ·simp[h1];omega
  ·simp[h1];omega
 ·have hb:=v51 l s n hl;simp[SE.den,aa];refine⟨_,hb,?_⟩;cases bu l s n<;>simp[ha]
def Jc(ds:List De)(gs:List Gl):Prop:=∀g∈gs,g.op=0→bu ds g.s g.ts.length=true
theorem v201(l:List De)(g:List Gl)(hl:Sm l)(hg:Sm g):∃b,(b=0↔Jc l g)∧CC 201 false [eI l,qL g] (iI b):=by
 refine CC.Ki _ ako n201 t201 (by simp) (by rfl) ?_;simp[Yv,PZ,SE.den,af];refine eg g.length (fun i (_:Unit)=>[iI i]) (fun i _=>∀x∈g.take i,x.op=0→bu l x.s x.ts.length=true) () ?_ (by simp) fun i a hi hI=>?_
 ·simp[SE.den]
 by_cases aa:i<g.length
 ·have hw:=az aa hg;obtain⟨b,hz,hb⟩:=ahn l g[i].s g[i].ts.length hl;have hs:=fun h=>ay (p:=fun x:Gl=>x.op=0→bu l x.s x.ts.length=true) aa hI h;simp[SE.den,aa,hw,lT aa,af];by_cases h1:g[i].op=0
  ·right;refine⟨h1,_,hb,?_⟩;simp[hw];by_cases h2:b=0
   ·right;exact⟨h2,by omega,hs fun _=>hz.1 h2⟩
   ·left;exact⟨h2,by simp[h2];exact fun h=>h2 (hz.2 (h _ (aqI aa) h1))⟩
  ·left;exact⟨h1,by omega,hs fun h=>absurd h h1⟩
 ·simp[SE.den,aa];exact aF aa hI
def jW(n:Int):Bool:=decide (5≤n)&&decide (n≤12)
theorem aho(n:Int):CC 202 false [iI n] (iB (jW n)):=by
 refine CC.gF akp n202 t202 (by simp) (by rfl) ?_;simp[Yw,SE.den,af,jW];omega
theorem apj(l:List Int)(n:Int)(hl:Sm l):CC 204 false [iL l,iI n] (iB (decide (n∈l))):=by
 refine CC.gF aks n204 t204 (by simp) (by rfl) ?_;simp[Yy,P1,SE.den,af];refine eg l.length (fun i (_:Unit)=>[iI i]) (fun i _=>∀x∈l.take i,x≠n) () ?_ (by simp) fun i _ hi hI=>?_
 ·simp[SE.den]
 by_cases aa:i<l.length
 ·have hw:=az aa hl;simp[SE.den,aa,hw];by_cases h1:l[i]=n
  ·left;exact⟨h1,h1▸aqI aa⟩
  ·right;exact⟨h1,by omega,ay aa hI h1⟩
 ·have:=aF aa hI;simp[SE.den,aa];exact fun h=>this _ h rfl
end Go.Proofs.YtggffkaadeagbaaGreat
