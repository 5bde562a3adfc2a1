/- A part of the proof, no condition: comparisons. -/
import Derived.Test.YtggffkaadeagbaaGreatRuA
open Go.Proofs.Tryz renaming prog->aqD
open List renaming drop_eq_getElem_cons->arj,drop_of_length_le->aro
open List.cons renaming injEq->arF
set_option linter.all false
namespace Go.Proofs.YtggffkaadeagbaaGreat
open Go Go.Ev
theorem n183:(aqD.funcs[183]?).map (·.params.size)=some 2:=by kernel_rfl
theorem t183(z:IV):aN aqD 183 z=true:=by kernel_rfl
def BR(n:Int):List Int→Nat→Int
 |[],_=> -1
 |x::l,i=>if n=x then i else BR n l (i+1)
theorem PB(n:Int):∀(l:List Int) (i:Nat),decide (0≤BR n l i)=l.contains n
 |[],_=>rfl
 |x::l,i=>by
  by_cases h:n=x
  ·simp[BR,h]
  ·have:=PB n l (i+1);simp[BR,h]at this⊢;exact this
theorem an8(l:List Int)(n:Int)(hl:Sm l):CC 183 false [iL l,iI n] (iI (BR n l 0)):=by
 refine CC.of ajh n183 (t183 _) (by simp) (by simp) ?_;simp[X5,SE.den];refine eg l.length (fun i (_:Unit)=>[iI i]) (fun i _=>BR n l 0=BR n (l.drop i) i) () ?_ ?_ fun i _ hi hI=>?_
 ·simp[SE.den]
 ·simp
 by_cases aa:i<l.length
 ·rw[arj aa]at hI;have hw:=az aa hl;simp[SE.den,aa,hw];by_cases h:n=l[i]
  ·left;exact⟨h,by rw[hI];simp[BR,h]⟩
  ·right;simp[h,hI,BR];omega
 ·simp[SE.den,aa];rw[hI,aro (by omega)];rfl
theorem n121:(aqD.funcs[121]?).map (·.params.size)=some 2:=by kernel_rfl
theorem t121(z:IV):aN aqD 121 z=true:=by kernel_rfl
theorem n94:(aqD.funcs[94]?).map (·.params.size)=some 2:=by kernel_rfl
theorem t94(z:IV):aN aqD 94 z=true:=by kernel_rfl
theorem n53:(aqD.funcs[53]?).map (·.params.size)=some 2:=by kernel_rfl
theorem t53(z:IV):aN aqD 53 z=true:=by kernel_rfl
theorem c53(a b:List Int)(hl:Sm a):CC 53 false [iL a,iL b] (iB (a==b)):=by
 refine CC.of anl n53 (t53 _) (by simp) (by simp) ?_;simp[ab_,SE.den];by_cases bT:a.length=b.length
 ·right;simp[bT];refine eg a.length (fun i (_:Unit)=>[iI i]) (fun i _=>(a=b↔a.drop i=b.drop i)) () ?_ ?_ fun i _ hi hI=>?_
  ·simp[SE.den]
  ·simp
  by_cases aa:i<a.length
  ·have zE:i<b.length:=by omega
   have jh:a=b↔a[i]=b[i]∧a.drop (i+1)=b.drop (i+1):=by
    rw[hI,arj aa,arj zE,arF]
   have hw:=az aa hl;simp[SE.den,aa,zE,hw];by_cases h:a[i]=b[i]
   ·right;exact⟨h,by omega,by rw[jh];simp[h]⟩
   ·left;exact⟨h,fun hh=>h (jh.1 hh).1⟩
  ·simp[SE.den,aa];rw[aro (by omega),aro (by omega)]at hI;exact hI.2 rfl
 ·left;exact⟨by omega,fun h=>bT (by rw[h])⟩
theorem n78:(aqD.funcs[78]?).map (·.params.size)=some 2:=by kernel_rfl
theorem t78(z:IV):aN aqD 78 z=true:=by kernel_rfl
end Go.Proofs.YtggffkaadeagbaaGreat
namespace Go.Proofs.YtggffkaadeagbaaGreat
open Go Go.Ev
def Tm.k:Tm→Int|.mk k _ _ _=>k
def Tm.n:Tm→Int|.mk _ n _ _=>n
def Tm.s:Tm→List UInt8|.mk _ _ s _=>s
def Tm.ts:Tm→List Tm|.mk _ _ _ ts=>ts
theorem cI(t:Tm):dB t=.agg [iI t.k,iI t.n,iS t.s,iT t.ts]:=by cases t;exact ug _ _ _ _
def Kh(a b:Int):Int:=if a<b then-1 else if b<a then 1 else 0
def afS(a b:List UInt8):Int:=if Op.bytesLess a b then-1 else if a=b then 0 else 1
def rk(k:Int):Int:=if k=1 then 0 else if k=0 then 1 else if k=2 then 2 else 3
def SZ(x y:Int):Int:=if x=0 then y else x
mutual
def an9:Tm→Tm→Int
 |.mk k n s ts,u=>SZ (Kh (rk k) (rk u.k)) (if rk k=0 then Kh n u.n else if rk k=1 then Kh n u.n else if rk k=2 then SZ (Kh ts.length u.ts.length) (SZ (afS s u.s) (cmpL ts u.ts))else SZ (Kh k u.k) (SZ (Kh n u.n) (afS s u.s)))
def cmpL:List Tm→List Tm→Int
 |[],_=>0
 |t::l,m=>match m with
  |[]=>0
  |u::m=>SZ (an9 t u) (cmpL l m)
end
mutual
def vO:Tm→Prop
 |.mk _ _ _ ts=>Sm ts∧PC ts
def PC:List Tm→Prop
 |[]=>True
 |t::l=>vO t∧PC l
end
theorem PD:∀l:List Tm,PC l↔∀t∈l,vO t
 |[]=>by simp[PC]
 |t::l=>by simp[PC,PD l]
theorem Ak(t:Tm):vO t↔Sm t.ts∧∀u∈t.ts,vO u:=by cases t;simp[vO,PD,Tm.ts]
end Go.Proofs.YtggffkaadeagbaaGreat
namespace Go.Proofs.YtggffkaadeagbaaGreat
open Go Go.Ev
def WfA(a:At):Prop:=Sm a.ts∧∀t∈a.ts,vO t
end Go.Proofs.YtggffkaadeagbaaGreat
namespace Go.Proofs.YtggffkaadeagbaaGreat
open Go Go.Ev
def WfF(f:Fa):Prop:=WfA f.a∧Sm f.j
def WfP(x:Ap):Prop:=Sm x.bw∧Sm x.gone∧Sm x.made∧Sm x.fV
structure IQ(m:Me):Prop where
 sf:Sm m.facts
 sp:Sm m.past
 sl:Sm m.log
 f:∀x∈m.facts,WfF x
 p:∀x∈m.past,WfF x
 l:∀x∈m.log,WfP x
theorem afT{l:List Fa}{i:Nat}(h:i<l.length):dx 4 (kb l) (iI (i:Nat))=some (eT l[i]):=fZ (by simp[h]) rfl
theorem afU{l:List At}{i:Nat}(h:i<l.length):dx 2 (mP l) (iI (i:Nat))=some (BQ l[i]):=fZ (by simp[h]) rfl
theorem afV{l:List Ap}{i:Nat}(h:i<l.length):dx 6 (D3 l) (iI (i:Nat))=some (kF l[i]):=fZ (by simp[h]) rfl
theorem uh{l:List Tm}{i:Nat}(h:i<l.length):dx 4 (iT l) (iI (i:Nat))=some (dB l[i]):=fZ (by simp[h]) (by rw[cI];rfl)
end Go.Proofs.YtggffkaadeagbaaGreat
