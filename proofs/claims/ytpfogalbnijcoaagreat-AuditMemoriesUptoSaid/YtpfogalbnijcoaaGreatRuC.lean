/- A part of the proof, no condition: comparisons. -/
import Derived.Test.YtpfogalbnijcoaaGreatRuA
open Go.Proofs.Tryz renaming prog->ar1
open List renaming drop_eq_getElem_cons->asH,drop_of_length_le->asJ
open List.cons renaming injEq->as4
open Option renaming some->aa
open Bool renaming true->ab,false->af
set_option linter.all false
namespace Go.Proofs.YtpfogalbnijcoaaGreat
open Go Go.Ev
theorem n183:(ar1.funcs[234]?).map (·.params.size)=aa 2:=by kernel_rfl
theorem t183(z:IV):aQ ar1 234 z=ab:=by kernel_rfl
def CK(n:Int):List Int->Nat->Int
 |[],_=> -1
 |x::l,i=>if n=x then i else CK n l (i+1)
theorem Qe(n:Int):∀(l:List Int) (i:Nat),decide (0<=CK n l i)=l.contains n
 |[],_=>rfl
 |x::l,i=>by
  by_cases h:n=x
  ·simp[CK,h]
  ·have:=Qe n l (i+1);simp[CK,h]at this⊢;exact this
theorem ao9(l:List Int)(n:Int)(hl:Sm l):CC 234 af [iL l,iI n] (iI (CK n l 0)):=by
 refine CC.of aj5 n183 (t183 _) (by simp) (by simp) ?_;simp[YV,SE.den];refine dE l.length (λi (_:Unit)=>[iI i]) (λi _=>CK n l 0=CK n (l.drop i) i) () ?_ ?_ λi _ hi hI=>?_
 ·simp[SE.den]
 ·simp
 by_cases ai:i<l.length
 ·rw[asH ai]at hI;have hw:=aD ai hl;simp[SE.den,ai,hw];by_cases h:n=l[i]
  ·left;exact⟨h,by rw[hI];simp[CK,h]⟩
  ·right;simp[h,hI,CK];omega
 ·simp[SE.den,ai];rw[hI,asJ (by omega)];rfl
theorem n121:(ar1.funcs[187]?).map (·.params.size)=aa 2:=by kernel_rfl
theorem t121(z:IV):aQ ar1 187 z=ab:=by kernel_rfl
theorem n94:(ar1.funcs[67]?).map (·.params.size)=aa 2:=by kernel_rfl
theorem t94(z:IV):aQ ar1 67 z=ab:=by kernel_rfl
theorem n53:(ar1.funcs[65]?).map (·.params.size)=aa 2:=by kernel_rfl
theorem t53(z:IV):aQ ar1 65 z=ab:=by kernel_rfl
theorem c53(a b:List Int)(hl:Sm a):CC 65 af [iL a,iL b] (iB (a==b)):=by
 refine CC.of aoo n53 (t53 _) (by simp) (by simp) ?_;simp[ac5,SE.den];by_cases bR:a.length=b.length
 ·right;simp[bR];refine dE a.length (λi (_:Unit)=>[iI i]) (λi _=>(a=b↔a.drop i=b.drop i)) () ?_ ?_ λi _ hi hI=>?_
  ·simp[SE.den]
  ·simp
  by_cases ai:i<a.length
  ·have wz:i<b.length:=by omega
   have iw:a=b↔a[i]=b[i]/\a.drop (i+1)=b.drop (i+1):=by
    rw[hI,asH ai,asH wz,as4]
   have hw:=aD ai hl;simp[SE.den,ai,wz,hw];by_cases h:a[i]=b[i]
   ·right;exact⟨h,by omega,by rw[iw];simp[h]⟩
   ·left;exact⟨h,λhh=>h (iw.1 hh).1⟩
  ·simp[SE.den,ai];rw[asJ (by omega),asJ (by omega)]at hI;exact hI.2 rfl
 ·left;exact⟨by omega,λh=>bR (by rw[h])⟩
theorem n78:(ar1.funcs[29]?).map (·.params.size)=aa 2:=by kernel_rfl
theorem t78(z:IV):aQ ar1 29 z=ab:=by kernel_rfl
end Go.Proofs.YtpfogalbnijcoaaGreat
namespace Go.Proofs.YtpfogalbnijcoaaGreat
open Go Go.Ev
def Tm.k:Tm->Int|.mk k _ _ _=>k
def Tm.n:Tm->Int|.mk _ n _ _=>n
def Tm.s:Tm->List UInt8|.mk _ _ s _=>s
def Tm.ts:Tm->List Tm|.mk _ _ _ ts=>ts
theorem cL(t:Tm):dH t=.agg [iI t.k,iI t.n,iS t.s,iT t.ts]:=by cases t;exact uR _ _ _ _
def rk(k:Int):Int:=if k=1 then 0 else if k=0 then 1 else if k=2 then 2 else 3
mutual
def wH:Tm->Prop
 |.mk _ _ _ ts=>Sm ts/\Qf ts
def Qf:List Tm->Prop
 |[]=>True
 |t::l=>wH t/\Qf l
end
theorem Qg:∀l:List Tm,Qf l↔∀t∈l,wH t
 |[]=>by simp[Qf]
 |t::l=>by simp[Qf,Qg l]
theorem Bj(t:Tm):wH t↔Sm t.ts/\∀u∈t.ts,wH u:=by cases t;simp[wH,Qg,Tm.ts]
end Go.Proofs.YtpfogalbnijcoaaGreat
namespace Go.Proofs.YtpfogalbnijcoaaGreat
open Go Go.Ev
def WfA(a:At):Prop:=Sm a.ts/\∀t∈a.ts,wH t
end Go.Proofs.YtpfogalbnijcoaaGreat
namespace Go.Proofs.YtpfogalbnijcoaaGreat
open Go Go.Ev
def WfF(f:Fa):Prop:=WfA f.a/\Sm f.j
def WfP(x:Ap):Prop:=Sm x.aW/\Sm x.gone/\Sm x.made/\Sm x.ff
structure Jq(m:Me):Prop where
 sf:Sm m.facts
 sp:Sm m.past
 sl:Sm m.log
 f:∀x∈m.facts,WfF x
 p:∀x∈m.past,WfF x
 l:∀x∈m.log,WfP x
theorem agO{l:List Fa}{i:Nat}(h:i<l.length):dD 4 (iv l) (iI (i:Nat))=aa (eX l[i]):=gj (by simp[h]) rfl
theorem agP{l:List At}{i:Nat}(h:i<l.length):dD 2 (nf l) (iI (i:Nat))=aa (CJ l[i]):=gj (by simp[h]) rfl
theorem agQ{l:List Ap}{i:Nat}(h:i<l.length):dD 6 (mu l) (iI (i:Nat))=aa (kS l[i]):=gj (by simp[h]) rfl
theorem uS{l:List Tm}{i:Nat}(h:i<l.length):dD 4 (iT l) (iI (i:Nat))=aa (dH l[i]):=gj (by simp[h]) (by rw[cL];rfl)
end Go.Proofs.YtpfogalbnijcoaaGreat
