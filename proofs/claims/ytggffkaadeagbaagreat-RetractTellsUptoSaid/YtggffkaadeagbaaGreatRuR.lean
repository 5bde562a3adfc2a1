/- A part of the proof, no condition: comparisons are orders; memories behind Retract. -/
import Derived.Test.YtggffkaadeagbaaGreatRuH
import Derived.Test.YtggffkaadeagbaaGreatRuN
import Derived.Test.YtggffkaadeagbaaGreatRuQ
open UInt8 renaming lt_iff_toNat_lt->awN
open Bool renaming true->ab,false->af
set_option linter.all false
namespace Go.Proofs.YtggffkaadeagbaaGreat
open Go Go.Ev
variable{Q:IV->Prop}{k0 k1 k2 k3 k4 k5:List IV->Prop}
end Go.Proofs.YtggffkaadeagbaaGreat
namespace Go.Proofs.YtggffkaadeagbaaGreat
open Go Go.Ev
theorem s_(x y:Int):mR (-x) (-y)= - mR x y:=by unfold mR;split<;>split<;>omega
theorem sE(a b:Int):fW b a= - fW a b:=by unfold fW;split<;>split<;>(try split)<;>omega
theorem ZV{a b:Int}(h:fW a b=0):a=b:=by
 unfold fW at h;split at h
 ·omega
 ·split at h<;>omega
theorem Nf(a b:UInt8)(l m:List UInt8):uI (a::l) (b::m)=if a.toNat<b.toNat then-1 else if b.toNat<a.toNat then 1 else uI l m:=by
 unfold uI;rw[Op.bytesLess];by_cases h1:a.toNat<b.toNat
 ·have:a<b:=awN.2 h1;simp[h1,this]
 ·have c8:¬a<b:=λh=>h1 (awN.1 h);by_cases h2:b.toNat<a.toNat
  ·have aW:¬a=b:=λh=>by subst h;omega
   have hb:(a==b)=af:=by simpa using aW
   simp[c8,hb,aW,h1,h2]
  ·have he:a=b:=UInt8.toNat_inj.1 (by omega);subst he;simp
theorem C7:∀a b:List UInt8,uI b a= - uI a b
 |[],[]=>rfl
 |[],_::_=>rfl
 |_::_,[]=>rfl
 |a::l,b::m=>by
  have ih:=C7 l m;rw[Nf,Nf,ih];split<;>split<;>(try split)<;>omega
theorem Xq:∀(l m:List Tm),l.length=m.length->(∀t∈l,∀u,rq u t= - rq t u)->cmpL m l= - cmpL l m
 |[],[],_,_=>rfl
 |t::l,u::m,h,k=>by
  have ih:=Xq l m (by simpa using h) λt ht u=>k t (by simp[ht]) u;rw[cmpL,cmpL,ih,k t (by simp) u,s_]
 |[],_::_,h,_=>by simp at h
 |_::_,[],h,_=>by simp at h
theorem alk{a b:Int}(h:fW (rk a) (rk b)=0):rk b=rk a:=(ZV h).symm
theorem alm(a b:Tm)(k:∀t∈a.ts,∀u,rq u t= - rq t u):rq b a= - rq a b:=by
 rw[Lz,Lz a b,sE (rk a.k) (rk b.k)];by_cases h0:fW (rk a.k) (rk b.k)=0
 ·have hr:=alk h0;rw[hr]at h0⊢;rw[h0];have e1:∀x:Int,mR (-0) x=x:=λx=>by simp[mR]
  have e2:∀x:Int,mR 0 x=x:=λx=>by simp[mR]
  rw[e1,e2];split
  ·exact sE _ _
  ·split
   ·exact sE _ _
   ·split
    ·rw[sE (a.ts.length:Int) b.ts.length,C7 a.s b.s];by_cases hl:fW (a.ts.length:Int) b.ts.length=0
     ·rw[Xq a.ts b.ts (C5 hl) k,s_,s_]
     ·rw[Bq (by omega),Bq hl]
    ·rw[sE a.k b.k,sE a.n b.n,C7 a.s b.s,s_,s_]
 ·rw[Bq (by omega),Bq h0]
theorem adV:∀(a b:Tm),rq b a= - rq a b
 |.mk k n s ts,b=>alm _ b λt ht u=>adV t u
 decreasing_by simp[Tm.ts]at ht;have:=List.sizeOf_lt_of_mem ht;simp;omega
theorem aln(a b:At):yS b a= - yS a b:=by
 unfold yS;rw[C7 a.s b.s,sE (a.ts.length:Int) b.ts.length];by_cases hl:fW (a.ts.length:Int) b.ts.length=0
 ·rw[Xq a.ts b.ts (C5 hl) λt _ u=>adV t u,s_,s_]
 ·rw[Bq (x:= -fW (a.ts.length:Int) b.ts.length) (by omega),Bq hl,s_]
theorem ZW(a:At):yS a a=0:=by have:=aln a a;omega
theorem Xr(a:Fa):Aa a a=ab:=by simp[Aa,ZW]
theorem He:∀l:List Fa,ky l l=ab
 |[]=>rfl
 |a::l=>by simp[ky,Xr,He l]
theorem Hf:∀l:List Ap,qf l l=ab
 |[]=>rfl
 |a::l=>by simp[qf,xF,Hf l]
theorem Xs(m:Me):vX m m=ab:=by simp[vX,He,Hf]
end Go.Proofs.YtggffkaadeagbaaGreat
namespace Go.Proofs.YtggffkaadeagbaaGreat
open Go Go.Ev
end Go.Proofs.YtggffkaadeagbaaGreat
