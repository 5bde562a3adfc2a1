/- A part of the proof, no condition: the checks of the reference come to an end, names, terms, constraints, goals, variables. -/
import Derived.Test.YtggffkaadeagbaaGreatRgF
import Derived.Test.YtggffkaadeagbaaGreatEvP
import Derived.Test.YtggffkaadeagbaaGreatRuH
open Go.Proofs.Tryz renaming prog->ar3
open ByteArray renaming size->avk
open List renaming sizeOf_lt_of_mem->atD,mem_append->asE,getElem_mem->asb,mem_singleton->atM,nil_append->as7,map_nil->atW
open Classical renaming em->axL
set_option linter.all false
namespace Go.Proofs.YtggffkaadeagbaaGreat
open Go Go.Ev
def AX(z:IV):Prop:=∃b:Bool,z=iB b
def lG(z:IV):Prop:=∃n:Int,z=iI n
@[simp] theorem aq8(b:Bool):AX (iB b):=⟨b,rfl⟩
@[simp] theorem aq9(n:Int):lG (iI n):=⟨n,rfl⟩
variable{n:Nat}{new:Bool}{f:FuncId}{cR:af}{args:List IV}{cfg:aL}
theorem CC.PS{Q:IV→Prop}(he:aA ar3 cfg n new f=cR)(hl:(ar3.funcs[f]?).map (·.params.size)=some args.length)(ht:∀z,Q z→aD ar3 f z=true)(hp:∀x∈args,Pure x)(hz:∀z,Q z→Pure z)(hn:noTwo cR=true)
 (hs:cR.sat ar3 CC Q [] args):∃z,Q z∧CC f new args z:=by
 obtain⟨z,h1,h2⟩:=yk hn hs;exact⟨z,h1,CC.of he hl (ht z h1) hp (hz z h1) h2⟩
theorem CC.bool(he:aA ar3 cfg n new f=cR)(hl:(ar3.funcs[f]?).map (·.params.size)=some args.length)(ht:∀z,aD ar3 f z=true)(hp:∀x∈args,Pure x)(hn:noTwo cR=true)
 (hs:cR.sat ar3 CC AX [] args):∃b,CC f new args (iB b):=by
 obtain⟨z,⟨b,rfl⟩,h2⟩:=CC.PS he hl (fun z _=>ht z) hp (by rintro _ ⟨b,rfl⟩;exact .raw _) hn hs;exact⟨b,h2⟩
theorem CC.int(he:aA ar3 cfg n new f=cR)(hl:(ar3.funcs[f]?).map (·.params.size)=some args.length)(ht:∀z,aD ar3 f z=true)(hp:∀x∈args,Pure x)(hn:noTwo cR=true)
 (hs:cR.sat ar3 CC lG [] args):∃b,CC f new args (iI b):=by
 obtain⟨z,⟨b,rfl⟩,h2⟩:=CC.PS he hl (fun z _=>ht z) hp (by rintro _ ⟨b,rfl⟩;exact .raw _) hn hs;exact⟨b,h2⟩
def Cm(p:Bool→Prop)(z:IV):Prop:=∃b:Bool,z=iB b∧p b
@[simp] theorem aq0(p:Bool→Prop)(b:Bool):Cm p (iB b)↔p b:=⟨fun⟨b',h1,h2⟩=>by cases h1;exact h2,fun h=>⟨b,rfl,h⟩⟩
theorem CC.lH(p:Bool→Prop)(he:aA ar3 cfg n new f=cR)(hl:(ar3.funcs[f]?).map (·.params.size)=some args.length)(ht:∀z,aD ar3 f z=true)(hp:∀x∈args,Pure x)(hn:noTwo cR=true)
 (hs:cR.sat ar3 CC (Cm p) [] args):∃b,p b∧CC f new args (iB b):=by
 obtain⟨z,⟨b,rfl,hb⟩,h2⟩:=CC.PS he hl (fun z _=>ht z) hp (by rintro _ ⟨b,rfl,_⟩;exact .raw _) hn hs;exact⟨b,hb,h2⟩
abbrev nT(c:Int):IV:=.raw (.int .u8 c)
@[simp] theorem arz(t:TypeId)(a b:Int):da ar3 .lss t (nT a) (nT b)=some (iB (decide (a<b))):=rfl
@[simp] theorem arA(t:TypeId)(a b:Int):da ar3 .gtr t (nT a) (nT b)=some (iB (decide (a>b))):=rfl
@[simp] theorem arB(t:TypeId)(a b:Int):da ar3 .leq t (nT a) (nT b)=some (iB (decide (a≤b))):=rfl
@[simp] theorem arC(t:TypeId)(a b:Int):da ar3 .geq t (nT a) (nT b)=some (iB (decide (a≥b))):=rfl
@[simp] theorem arD(t:TypeId)(a b:Int):da ar3 .neq t (nT a) (nT b)=some (iB (a !=b)):=rfl
@[simp] theorem arE(t:TypeId)(a b:List UInt8):da ar3 .eql t (iS a) (iS b)=some (iB (a==b)):=by
  show some (IV.bool (a.toArray.toList==b.toArray.toList))=_;simp
@[simp] theorem ag8(l:List UInt8):xj (iS l)=some (iI l.length):=by
  simp[xj,avk]
theorem n148:(ar3.funcs[148]?).map (·.params.size)=some 1:=by kernel_rfl
theorem t148(z:IV):aD ar3 148 z=true:=by kernel_rfl
theorem ag9(c:Int):∃b,CC 148 false [nT c] (iB b):=by
 refine CC.bool alc n148 t148 (by simp) (by rfl) ?_;simp[YB,SE.den];omega
theorem n198:(ar3.funcs[198]?).map (·.params.size)=some 1:=by kernel_rfl
theorem t198(z:IV):aD ar3 198 z=true:=by kernel_rfl
theorem apI(c:Int):∃b,CC 198 false [nT c] (iB b):=by
 refine CC.bool ald n198 t198 (by simp) (by rfl) ?_;simp[YC,SE.den];omega
theorem n149:(ar3.funcs[149]?).map (·.params.size)=some 1:=by kernel_rfl
theorem t149(z:IV):aD ar3 149 z=true:=by kernel_rfl
theorem apJ(c:List UInt8):∃b,CC 149 false [iS c] (iB b):=by
 refine CC.bool ale n149 t149 (by simp) (by rfl) ?_;simp[YD,SE.den]
 grind
theorem n257:(ar3.funcs[257]?).map (·.params.size)=some 1:=by kernel_rfl
theorem t257(z:IV):aD ar3 257 z=true:=by kernel_rfl
theorem apK(c:List UInt8):∃b,CC 257 false [iS c] (iB b):=by
 refine CC.bool alo n257 t257 (by simp) (by rfl) ?_;simp[YJ,SE.den]
 grind
@[simp] theorem aq1{e i:SE}{ν:List IV}{l:List UInt8}{k:Nat}{c:UInt8}(he:e.den ar3 ν=some (iS l))(hi:i.den ar3 ν=some (iI (k:Nat)))(hc:l[k]?=some c):(SE.As e i).den ar3 ν=some (nT (c.toNat:Int)):=by
  simp[SE.den,he,hi,hc]
theorem n147:(ar3.funcs[147]?).map (·.params.size)=some 1:=by kernel_rfl
theorem t147(z:IV):aD ar3 147 z=true:=by kernel_rfl
theorem apL(c:List UInt8)(hc:Sm c):∃b,(b=true→1≤c.length)∧CC 147 false [iS c] (iB b):=by
 refine CC.lH _ alb n147 t147 (by simp) (by rfl) ?_;simp[YA,Pv,SE.den];refine dh c.length (fun i (_:Unit)=>[iI i]) (fun _ _=>True) () ?_ ?_ fun i _ hi _=>?_
 ·simp[SE.den]
 ·trivial
 by_cases aa:i<c.length
 ·have hw:=aw aa hc;obtain⟨b1,h1⟩:=ag9 c[i].toNat;obtain⟨b2,h2⟩:=apI c[i].toNat;simp[SE.den,aa,hw];refine⟨_,h1,?_⟩;cases b1 with
  |true=>simp;omega
  |false=>
   simp;refine⟨_,h2,?_⟩;cases b2<;>simp<;>omega
 ·simp[SE.den,aa];omega
theorem n89:(ar3.funcs[89]?).map (·.params.size)=some 1:=by kernel_rfl
theorem t89(z:IV):aD ar3 89 z=true:=by kernel_rfl
theorem e89(c:List UInt8)(hc:Sm c):∃b,CC 89 false [iS c] (iB b):=by
 refine CC.bool apu n89 t89 (by simp) (by rfl) ?_;obtain⟨b1,h0,h1⟩:=apL c hc;obtain⟨b3,h3⟩:=apJ c;simp[acz,SE.den];refine⟨_,h1,?_⟩;cases b1 with
 |false=>simp
 |true=>
  have hl:0<c.length:=h0 rfl;obtain⟨b2,h2⟩:=ag9 c[0].toNat;simp[hl];refine⟨_,h2,?_⟩;cases b2 with
  |false=>simp
  |true=>
   simp;exact⟨_,h3,by simp⟩
end Go.Proofs.YtggffkaadeagbaaGreat
namespace Go.Proofs.YtggffkaadeagbaaGreat
open Go Go.Ev
mutual
def nU:Tm→Prop
 |.mk _ _ s ts=>Sm s∧Sm ts∧PT ts
def PT:List Tm→Prop
 |[]=>True
 |t::l=>nU t∧PT l
end
theorem PU:∀l:List Tm,PT l↔∀t∈l,nU t
 |[]=>by simp[PT]
 |t::l=>by simp[PT,PU l]
theorem oi(t:Tm):nU t↔Sm t.s∧Sm t.ts∧∀u∈t.ts,nU u:=by cases t;simp[nU,PU,Tm.ts,Tm.s]
theorem nU.wf:∀t:Tm,nU t→py t
 |.mk k n s ts,h=>(mI _).2 ⟨((oi _).1 h).2.1,fun u hu=>nU.wf u (((oi _).1 h).2.2 u hu)⟩
 decreasing_by simp[Tm.ts]at hu;have:=atD hu;simp;omega
mutual
def bx:Tm→Prop
 |.mk k n _ ts=>(k=1→0≤n∧n≤1048576)∧(k=2→Ed ts)
def Ed:List Tm→Prop
 |[]=>True
 |t::l=>bx t∧Ed l
end
theorem IP:∀l:List Tm,Ed l↔∀t∈l,bx t
 |[]=>by simp[Ed]
 |t::l=>by simp[Ed,IP l]
theorem jX(t:Tm):bx t↔(t.k=1→0≤t.n∧t.n≤1048576)∧(t.k=2→∀u∈t.ts,bx u):=by cases t;simp[bx,IP,Tm.ts,Tm.k,Tm.n]
theorem Y1{t u:Tm}(h:bx t)(hu:u∈dQ t):bx u:=by
 unfold dQ at hu;split at hu
 ·exact((jX t).1 h).2 (by assumption) u hu
 ·simp at hu
theorem eR{α:Type}{p:α→Prop}{l:List α}{i:Nat}(h:i<l.length)(h1:∀u∈l.take i,p u)(h2:p l[i]):∀u∈l.take (i+1),p u:=by
 intro u hu;rw[List.take_succ_eq_append_getElem h]at hu;rcases asE.1 hu with hu|hu
 ·exact h1 u hu
 ·simp at hu;subst hu;exact h2
theorem gV{α:Type}{p:α→Prop}{l:List α}{i:Nat}(h:¬i<l.length)(h1:∀u∈l.take i,p u):∀u∈l,p u:=by
 rwa[List.take_of_length_le (by omega)]at h1
theorem n213:(ar3.funcs[213]?).map (·.params.size)=some 1:=by kernel_rfl
theorem t213(z:IV):aD ar3 213 z=true:=by kernel_rfl
theorem f213(t:Tm)(hs:Sm t.s)(hl:Sm t.ts)(ih:∀u∈t.ts,∃b,(b=true→bx u)∧CC 213 false [bV u] (iB b)):∃b,(b=true→bx t)∧CC 213 false [bV t] (iB b):=by
 refine CC.lH _ aln n213 t213 (by simpa using jc t) (by rfl) ?_;rw[bo];have z0:t.k=0→bx t:=fun h=>(jX t).2 ⟨fun h'=>by omega,fun h'=>by omega⟩;have z1:t.k=1→0≤t.n→t.n≤1048576→bx t:=fun h h1 h2=>(jX t).2 ⟨fun _=>⟨h1,h2⟩,fun h'=>by omega⟩;have z2:t.k=2→(∀u∈t.ts,bx u)→bx t:=fun h h1=>(jX t).2 ⟨fun h'=>by omega,fun _=>h1⟩;obtain⟨b1,h1⟩:=apK t.s;obtain⟨b2,h2⟩:=e89 t.s hs
 have l2:t.k=2→∀x y,ym.sat ar3 CC (Cm fun b=>b=true→bx t) [] [.agg [iI t.k,iI t.n,iS t.s,iT t.ts],x,y]:=fun hk x y=>by
  unfold ym;refine dh t.ts.length (fun i (_:Unit)=>[iI i]) (fun i _=>∀u∈t.ts.take i,bx u) () ?_ ?_ fun i _ hi hI=>?_
  ·simp[SE.den]
  ·simp
  by_cases aa:i<t.ts.length
  ·have hw:=aw aa hl;obtain⟨b,cK,hb⟩:=ih t.ts[i] (asb aa);rw[bo]at hb;simp only[nB,OX,OV,OW,Sl,OY];simp[SE.den,aa,hw,rI aa,bo,ab];refine⟨_,hb,?_⟩;cases b<;>simp;exact⟨by omega,eR aa hI (cK rfl)⟩
  ·simp[SE.den,aa];exact z2 hk (gV aa hI)
 have l1:t.k=2→∀x,GZ.sat ar3 CC (Cm fun b=>b=true→bx t) [] [.agg [iI t.k,iI t.n,iS t.s,iT t.ts],x]:=fun hk x=>by
  unfold GZ;refine dh t.ts.length (fun i (_:Unit)=>[iI i]) (fun i _=>∀u∈t.ts.take i,bx u) () ?_ ?_ fun i _ hi hI=>?_
  ·simp[SE.den]
  ·simp
  by_cases aa:i<t.ts.length
  ·have hw:=aw aa hl;obtain⟨b,cK,hb⟩:=ih t.ts[i] (asb aa);rw[bo]at hb;simp only[nB,OX,OV,OW,Sl,OY];simp[SE.den,aa,hw,rI aa,bo,ab];refine⟨_,hb,?_⟩;cases b<;>simp;exact⟨by omega,eR aa hI (cK rfl)⟩
  ·simp[SE.den,aa];exact z2 hk (gV aa hI)
 have e02:Px=ym:=rfl
 have As:t.k=2→∀x y,6<(t.ts.length:Int)∨(t.ts.length:Int)≤6∧ym.sat ar3 CC (Cm fun b=>b=true→bx t) [] [.agg [iI t.k,iI t.n,iS t.s,iT t.ts],x,y]:=fun hk x y=>by
  by_cases h:6<(t.ts.length:Int)
  ·exact .inl h
  ·exact .inr ⟨by omega,l2 hk x y⟩
 simp[YI,SE.den,e02,ab];have em:=axL (t.s=[]);by_cases k0:t.k=0
 ·left;refine⟨k0,?_⟩;have:=z0 k0;grind
 right;refine⟨k0,?_⟩;by_cases k1:t.k=1
 ·left;refine⟨k1,?_⟩;have:=z1 k1;grind
 right;refine⟨k1,?_⟩;by_cases k2:t.k=2
 ·left;refine⟨k2,_,h1,?_⟩;by_cases n0:t.n=0
  ·cases b1 with
   |true=>
    simp[n0];by_cases fi:(t.ts.length:Int)=2
    ·right;exact⟨by omega,n0▸l1 k2 _⟩
    ·left;refine⟨by omega,_,h2,?_⟩;cases b2<;>simp;exact n0▸As k2 _ _
   |false=>
    simp[n0];refine⟨_,h2,?_⟩;cases b2<;>simp;exact n0▸As k2 _ _
  ·cases b1<;>simp[n0]
 ·right;exact k2
theorem ag_:∀t:Tm,nU t→∃b,(b=true→bx t)∧CC 213 false [bV t] (iB b)
 |.mk k n s ts,h=>f213 _ ((oi _).1 h).1 ((oi _).1 h).2.1 fun u hu=>ag_ u (((oi _).1 h).2.2 u hu)
 decreasing_by simp[Tm.ts]at hu;have:=atD hu;simp;omega
theorem n214:(ar3.funcs[214]?).map (·.params.size)=some 1:=by kernel_rfl
theorem t214(z:IV):aD ar3 214 z=true:=by kernel_rfl
theorem Y2(a b:Int):∃c,I7 ar3 [iI a,iI b]=some (iI c):=by
 exact⟨if b>a then b else a,rfl⟩
theorem f214(t:Tm)(hl:Sm t.ts)(ih:∀u∈t.ts,∃b,CC 214 false [bV u] (iI b)):∃b,CC 214 false [bV t] (iI b):=by
 refine CC.int alp n214 t214 (by simpa using jc t) (by rfl) ?_;have G4:=aa7 t;rw[bo]at G4⊢;simp[YK,Py,SE.den,ab];refine⟨_,G4,?_⟩;have FT:(dQ t).length≤9223372036854775807:=by unfold dQ;split<;>simp[hl]
 have ha:∀u∈dQ t,∃b,CC 214 false [bV u] (iI b):=fun u hu=>by
  unfold dQ at hu;split at hu
  ·exact ih u hu
  ·cases hu
 refine⟨by simp,?_⟩;refine dh (dQ t).length (fun i (a:Int)=>[iI i,iI a]) (fun _ _=>True) 0 ?_ ?_ fun i a hi _=>?_
 ·simp[SE.den]
 ·trivial
 by_cases aa:i<(dQ t).length
 ·have hw:=aw aa FT;obtain⟨b,hb⟩:=ha (dQ t)[i] (asb aa);obtain⟨c,hc⟩:=Y2 a b;rw[bo]at hb;simp[SE.den,aa,hw,rI aa,bo,ab];refine⟨_,hb,?_⟩;simp[SE.den,hc,au,hw];omega
 ·simp[SE.den,aa]
theorem aha:∀t:Tm,py t→∃b,CC 214 false [bV t] (iI b)
 |.mk k n s ts,h=>f214 _ ((mI _).1 h).1 fun u hu=>aha u (((mI _).1 h).2 u hu)
 decreasing_by simp[Tm.ts]at hu;have:=atD hu;simp;omega
end Go.Proofs.YtggffkaadeagbaaGreat
namespace Go.Proofs.YtggffkaadeagbaaGreat
open Go Go.Ev
structure Gl where
 op:Int
 s:List UInt8
 ts:List Tm
structure Rl where
 name:List UInt8
 keep:List At
 remove:List At
 guard:List Gl
 body:List Gl
 vars:Int
structure De where
 s:List UInt8
 n:Int
structure Pg where
 decls:List De
 rules:List Rl
def G5(g:Gl):IV:=.agg [iI g.op,iS g.s,iT g.ts]
abbrev qT(l:List Gl):IV:=.tree 3 (l.map G5)
def oB(r:Rl):IV:=.agg [iS r.name,cS r.keep,cS r.remove,qT r.guard,qT r.body,iI r.vars]
abbrev yn(l:List Rl):IV:=.tree 6 (l.map oB)
def PX(d:De):IV:=.agg [iS d.s,iI d.n]
abbrev ek(l:List De):IV:=.tree 2 (l.map PX)
def dj(p:Pg):IV:=.agg [ek p.decls,yn p.rules]
theorem Ee(a:Gl):Pure (G5 a):=.agg _ (by simp)
@[simp] theorem abk(l:List Gl):Pure (qT l):=px 3 G5 (fun a=>⟨_,rfl,by simp⟩) l
theorem je(a:Rl):Pure (oB a):=.agg _ (by simp)
@[simp] theorem apM(l:List Rl):Pure (yn l):=px 6 oB (fun a=>⟨_,rfl,by simp⟩) l
@[simp] theorem G6(l:List De):Pure (ek l):=px 2 PX (fun a=>⟨_,rfl,by simp⟩) l
theorem fA(a:Pg):Pure (dj a):=.agg _ (by simp)
def pC(a:At):Prop:=Sm a.s∧Sm a.ts∧∀t∈a.ts,nU t
def tG(a:Gl):Prop:=Sm a.s∧Sm a.ts∧∀t∈a.ts,nU t
theorem n163:(ar3.funcs[163]?).map (·.params.size)=some 1:=by kernel_rfl
theorem t163(z:IV):aD ar3 163 z=true:=by kernel_rfl
theorem apN(t:Tm)(h:nU t):∃b,(b=true→bx t)∧CC 163 false [bV t] (iB b):=by
 refine CC.lH _ alm n163 t163 (by simpa using jc t) (by rfl) ?_;obtain⟨b1,hf,h1⟩:=ag_ t h;have h2:=Vw t h.wf;obtain⟨b3,h3⟩:=aha t h.wf;rw[bo]at h1 h2 h3⊢;simp[YH,SE.den,ab];refine⟨_,h1,?_⟩;cases b1<;>simp;have hf:=hf rfl;refine⟨_,h2,?_⟩;simp;by_cases hs:ru t≤200
 ·left;exact⟨hs,_,h3,by simp[hf]⟩
 ·right;omega
theorem n107:(ar3.funcs[107]?).map (·.params.size)=some 1:=by kernel_rfl
theorem t107(z:IV):aD ar3 107 z=true:=by kernel_rfl
theorem ahb(l:List Tm)(hl:Sm l)(h:∀t∈l,nU t):∃b,(b=true→∀t∈l,bx t)∧CC 107 false [iT l] (iB b):=by
 refine CC.lH _ alk n107 t107 (by simp) (by rfl) ?_;simp[YG,Pw,SE.den,ab];refine dh l.length (fun i (a:Int)=>[iI i,iI a]) (fun i _=>∀u∈l.take i,bx u) 0 ?_ ?_ fun i a hi hI=>?_
 ·simp[SE.den]
 ·simp
 by_cases aa:i<l.length
 ·have hw:=aw aa hl;have hm:=asb aa;obtain⟨b,hf,hb⟩:=apN l[i] (h _ hm);have h2:=Vw l[i] (h _ hm).wf;rw[bo]at hb h2;simp[SE.den,aa,hw,rI aa,bo,ab];refine⟨_,hb,?_⟩;cases b<;>simp;refine⟨_,h2,?_⟩;simp[hw];exact⟨by omega,eR aa hI (hf rfl)⟩
 ·have:=gV aa hI;simp[SE.den,aa];intro _;exact this
theorem n49:(ar3.funcs[49]?).map (·.params.size)=some 1:=by kernel_rfl
theorem t49(z:IV):aD ar3 49 z=true:=by kernel_rfl
theorem e49(a:At)(h:pC a):∃b,(b=true→a.ts.length≤6∧∀t∈a.ts,bx t)∧CC 49 false [.agg [iS a.s,iT a.ts]] (iB b):=by
 refine CC.lH _ apx n49 t49 (by intro x hx;obtain rfl:=atM.1 hx;exact r9 a) (by rfl) ?_;obtain⟨b1,h1⟩:=e89 a.s h.1;obtain⟨b2,hf,h2⟩:=ahb a.ts h.2.1 h.2.2;simp[acC,SE.den,ab];refine⟨_,h1,?_⟩;cases b1<;>simp;by_cases hs:(a.ts.length:Int)≤6
 ·left;exact⟨hs,_,h2,by simp;exact fun hb=>⟨by omega,hf hb⟩⟩
 ·right;omega
def pD(op:Int):Int:=if op=1∨op=2 then 0 else if op=11∨op=12 then 1 else if 2<op∧op<11 then 2 else-1
theorem n199:(ar3.funcs[199]?).map (·.params.size)=some 1:=by kernel_rfl
theorem t199(z:IV):aD ar3 199 z=true:=by kernel_rfl
theorem apO(op:Int):CC 199 false [iI op] (iI (pD op)):=by
 refine CC.of alr n199 (t199 _) (by simp) (by simp) ?_;simp[YM,SE.den,pD]
 grind
theorem n152:(ar3.funcs[152]?).map (·.params.size)=some 1:=by kernel_rfl
theorem t152(z:IV):aD ar3 152 z=true:=by kernel_rfl
theorem apP(g:Gl)(h:tG g):∃b,(b=true→(g.op≠0→pD g.op=g.ts.length)∧∀t∈g.ts,bx t)∧CC 152 false [.agg [iI g.op,iS g.s,iT g.ts]] (iB b):=by
 refine CC.lH _ alq n152 t152 (by intro x hx;obtain rfl:=atM.1 hx;exact Ee g) (by rfl) ?_;obtain⟨b1,FQ,h1⟩:=e49 ⟨g.s,g.ts⟩ h;obtain⟨b2,PY,h2⟩:=ahb g.ts h.2.1 h.2.2;have h3:=apO g.op;simp[YL,SE.den,ab];by_cases k0:g.op=0
 ·left;exact⟨k0,_,h1,by simp[k0];exact fun hb=>(FQ hb).2⟩
 right;refine⟨k0,?_⟩;by_cases ks:g.s=[]
 ·left;refine⟨ks,_,h3,?_⟩;simp;by_cases ka:pD g.op=g.ts.length
  ·left;exact⟨ka,_,h2,by simp[ka];exact PY⟩
  ·right;exact ka
 ·right;exact ks
end Go.Proofs.YtggffkaadeagbaaGreat
namespace Go.Proofs.YtggffkaadeagbaaGreat
open Go Go.Ev
theorem tH{l:List De}{i:Nat}(h:i<l.length):cq 2 (ek l) (iI (i:Nat))=some (.agg [iS l[i].s,iI l[i].n]):=dv (by simp[h,PX]) rfl
theorem lW{l:List Gl}{i:Nat}(h:i<l.length):cq 3 (qT l) (iI (i:Nat))=some (.agg [iI l[i].op,iS l[i].s,iT l[i].ts]):=dv (by simp[h,G5]) rfl
theorem n51:(ar3.funcs[51]?).map (·.params.size)=some 3:=by kernel_rfl
theorem t51(z:IV):aD ar3 51 z=true:=by kernel_rfl
theorem e51(l:List De)(s:List UInt8)(n:Int)(hl:Sm l):∃b,CC 51 false [ek l,iS s,iI n] (iB b):=by
 refine CC.bool apv n51 t51 (by simp) (by rfl) ?_;simp[acA,SM,SE.den,ab];refine dh l.length (fun i (_:Unit)=>[iI i]) (fun _ _=>True) () ?_ ?_ fun i _ hi _=>?_
 ·simp[SE.den]
 ·trivial
 by_cases aa:i<l.length
 ·have hw:=aw aa hl;simp[SE.den,aa,hw,tH aa,ab];by_cases h1:l[i].s=s
  ·simp[h1];omega
  ·simp[h1];omega
 ·simp[SE.den,aa]
theorem n200:(ar3.funcs[200]?).map (·.params.size)=some 3:=by kernel_rfl
theorem t200(z:IV):aD ar3 200 z=true:=by kernel_rfl
theorem ahc(l:List De)(s:List UInt8)(n:Int)(hl:Sm l):∃b,CC 200 false [ek l,iS s,iI n] (iI b):=by
 refine CC.int alw n200 t200 (by simp) (by rfl) ?_;simp[YQ,PH,SE.den,ab];refine dh l.length (fun i (a:Int)=>[iI i,iI a]) (fun _ _=>True) 7 ?_ ?_ fun i a hi _=>?_
 ·simp[SE.den]
 ·trivial
 by_cases aa:i<l.length
 ·have hw:=aw aa hl;simp[SE.den,aa,hw,tH aa,ab];by_cases h1:l[i].s=s
  ·simp[h1];omega
  ·simp[h1];omega
 ·obtain⟨b,hb⟩:=e51 l s n hl;simp[SE.den,aa];refine⟨_,hb,?_⟩;cases b<;>simp
theorem n201:(ar3.funcs[201]?).map (·.params.size)=some 2:=by kernel_rfl
theorem t201(z:IV):aD ar3 201 z=true:=by kernel_rfl
theorem apQ(l:List De)(g:List Gl)(hl:Sm l)(hg:Sm g):∃b,CC 201 false [ek l,qT g] (iI b):=by
 refine CC.int alx n201 t201 (by simp) (by rfl) ?_;simp[YR,PI,SE.den,ab];refine dh g.length (fun i (_:Unit)=>[iI i]) (fun _ _=>True) () ?_ ?_ fun i a hi _=>?_
 ·simp[SE.den]
 ·trivial
 by_cases aa:i<g.length
 ·have hw:=aw aa hg;obtain⟨b,hb⟩:=ahc l g[i].s g[i].ts.length hl;simp[SE.den,aa,hw,lW aa,ab];by_cases h1:g[i].op=0
  ·right;refine⟨h1,_,hb,?_⟩;simp[hw];omega
  ·left;exact⟨h1,by omega⟩
 ·simp[SE.den,aa]
theorem n202:(ar3.funcs[202]?).map (·.params.size)=some 1:=by kernel_rfl
theorem t202(z:IV):aD ar3 202 z=true:=by kernel_rfl
theorem ahd(n:Int):∃b,CC 202 false [iI n] (iB b):=by
 refine CC.bool aly n202 t202 (by simp) (by rfl) ?_;simp[YS,SE.den,ab];omega
theorem n204:(ar3.funcs[204]?).map (·.params.size)=some 2:=by kernel_rfl
theorem t204(z:IV):aD ar3 204 z=true:=by kernel_rfl
theorem apR(l:List Int)(n:Int)(hl:Sm l):∃b,CC 204 false [iL l,iI n] (iB b):=by
 refine CC.bool alB n204 t204 (by simp) (by rfl) ?_;simp[YU,PK,SE.den,ab];refine dh l.length (fun i (_:Unit)=>[iI i]) (fun _ _=>True) () ?_ ?_ fun i _ hi _=>?_
 ·simp[SE.den]
 ·trivial
 by_cases aa:i<l.length
 ·have hw:=aw aa hl;simp[SE.den,aa,hw];omega
 ·simp[SE.den,aa]
end Go.Proofs.YtggffkaadeagbaaGreat
namespace Go.Proofs.YtggffkaadeagbaaGreat
open Go Go.Ev
def Vr(l:List Int):Prop:=l.Nodup∧∀x∈l,0≤x∧x≤1048576
theorem Y3:∀(N:Nat) (l:List Int),l.Nodup→(∀x∈l,0≤x∧x<N)→l.length≤N
 |0,[],_,_=>by simp
 |0,x::l,_,h=>by have:=h x (by simp);omega
 |N+1,l,hn,h=>by
  have ih:=Y3 N (l.erase (N:Int)) (hn.erase _) fun x hx=>by
   have h1:=h x (List.mem_of_mem_erase hx);have h2:x≠(N:Int):=fun he=>by rw[hn.mem_erase_iff]at hx;exact hx.1 he
   omega
  rw[List.length_erase]at ih;split at ih<;>omega
theorem Vr.len{l:List Int}(h:Vr l):l.length≤1048577:=Y3 1048577 l h.1 fun x hx=>by have:=h.2 x hx;omega
theorem Vr.nil:Vr []:=⟨by simp,by simp⟩
theorem Vr.snoc{l:List Int}{n:Int}(h:Vr l)(h1:n∉l)(h2:0≤n∧n≤1048576):Vr (l++[n]):=by
 refine⟨?_,fun x hx=>?_⟩
 ·rw[List.nodup_append];exact⟨h.1,by simp,fun a ha b hb=>by simp at hb;subst hb;exact fun he=>h1 (he▸ha)⟩
 ·rcases asE.1 hx with hx|hx
  ·exact h.2 x hx
  ·simp at hx;subst hx;exact h2
theorem alN:ar3.funcs.size=356:=by kernel_rfl
def G7(p:List Int→Prop)(z:IV):Prop:=∃l:List Int,z=iL l∧p l
theorem ahe{a b:List Int}(h:iL a=iL b):a=b:=by
 injection h with _ h2
 exact(List.map_inj_right (fun x y hh=>by injection hh with hh;injection hh)).1 h2
@[simp] theorem AY(p:List Int→Prop)(l:List Int):G7 p (iL l)↔p l:=⟨fun⟨b',h1,h2⟩=>by rw[ahe h1];exact h2,fun h=>⟨l,rfl,h⟩⟩
theorem CC.ahf{n:Nat}{new:Bool}{f:FuncId}{cR:af}{cfg:aL}{l:List Int}{xs:List IV}(p:List Int→Prop)(he:AR ar3 cfg n 1 f=cR)(hl:(ar3.funcs[f]?).map (·.params.size)=some (xs.length+1))(hn:noTwo cR=true)
 (hs:cR.sat ar3 CC (G7 p) [] (iL l::xs)):∃l',p l'∧CC (356+f) new (iL l::xs) (iL l'):=by
 obtain⟨z,⟨l',rfl,hp⟩,h2⟩:=yk hn hs;refine⟨l',hp,?_⟩;rw[←alN];exact CC.ofRow he hl h2
theorem n155:(ar3.funcs[155]?).map (·.params.size)=some 2:=by kernel_rfl
theorem Y4(l:List Int):(l.map iI).all (fun e=>(cellsOf e).all au)=true:=by
 rw[List.all_eq_true];intro e he;obtain⟨x,_,rfl⟩:=List.mem_map.1 he;rfl
theorem f155(t:Tm)(tF:Sm t.ts)(ht:bx t)(ih:∀u∈t.ts,bx u→∀l:List Int,Vr l→∃l':List Int,Vr l'∧CC 511 true [iL l,bV u] (iL l'))(l:List Int)(hl:Vr l):
 ∃l':List Int,Vr l'∧CC 511 true [iL l,bV t] (iL l'):=by
 refine CC.ahf (f:=155) Vr alL n155 (by rfl) ?_;have G4:=aa7 t;have tQ:=hl.len;have FT:(dQ t).length≤9223372036854775807:=by unfold dQ;split<;>simp[tF]
 have RA:∀u∈dQ t,∀l:List Int,Vr l→∃l':List Int,Vr l'∧CC 511 true [iL l,bV u] (iL l'):=fun u hu=>ih u (Lx hu) (Y1 ht hu);rw[bo]at G4⊢
 have l4:G3.sat ar3 CC (G7 Vr) [] [iL l,.agg [iI t.k,iI t.n,iS t.s,iT t.ts],iT (dQ t)]:=by
  unfold G3;refine ao (dQ t).length (fun i (a:List Int)=>[iI i,iL a]) (fun i a=>Vr a) l ?_ ?_ fun i a hi hI=>?_
  ·simp[SE.den]
  ·exact hl
  by_cases aa:i<(dQ t).length
  ·have hw:=aw aa FT;obtain⟨l',k1,hb⟩:=RA (dQ t)[i] (asb aa) a hI;rw[bo]at hb;simp[SE.den,aa,hw,rI aa,bo,ab,au,cellsOf];exact⟨_,hb,l',by simp,by omega,k1⟩
  ·simp[SE.den,aa];exact⟨_,⟨by simp[cellsOf,au],rfl⟩,by rw[AY];exact hI⟩
 have l2:∀x:IV,G2.sat ar3 CC (G7 Vr) [] [iL l,.agg [iI t.k,iI t.n,iS t.s,iT t.ts],x,iT (dQ t)]:=by
  intro x;unfold G2;refine ao (dQ t).length (fun i (a:List Int)=>[iI i,iL a]) (fun i a=>Vr a) l ?_ ?_ fun i a hi hI=>?_
  ·simp[SE.den]
  ·exact hl
  by_cases aa:i<(dQ t).length
  ·have hw:=aw aa FT;obtain⟨l',k1,hb⟩:=RA (dQ t)[i] (asb aa) a hI;rw[bo]at hb;simp[SE.den,aa,hw,rI aa,bo,ab,au,cellsOf];exact⟨_,hb,l',by simp,by omega,k1⟩
  ·simp[SE.den,aa];exact⟨_,⟨by simp[cellsOf,au],rfl⟩,by rw[AY];exact hI⟩
 have l1:∀(x:IV) (m:List Int),Vr m→G1.sat ar3 CC (G7 Vr) [] [iL l,.agg [iI t.k,iI t.n,iS t.s,iT t.ts],x,iL m,iT (dQ t)]:=by
  intro x m hm;unfold G1;refine ao (dQ t).length (fun i (a:List Int)=>[iI i,iL a]) (fun i a=>Vr a) m ?_ ?_ fun i a hi hI=>?_
  ·simp[SE.den]
  ·exact hm
  by_cases aa:i<(dQ t).length
  ·have hw:=aw aa FT;obtain⟨l',k1,hb⟩:=RA (dQ t)[i] (asb aa) a hI;rw[bo]at hb;simp[SE.den,aa,hw,rI aa,bo,ab,au,cellsOf];exact⟨_,hb,l',by simp,by omega,k1⟩
  ·simp[SE.den,aa];exact⟨_,⟨by simp[cellsOf,au],rfl⟩,by rw[AY];exact hI⟩
 have l0:G0.sat ar3 CC (G7 Vr) [J1 fun vs=>∃b:Bool,vs=[iB b]∧(b=false→t.n∉l)] [iL l,.agg [iI t.k,iI t.n,iS t.s,iT t.ts]]:=by
  unfold G0;refine dh l.length (fun i (_:Unit)=>[iI i]) (fun i _=>∀x∈l.take i,x≠t.n) () ?_ ?_ fun i _ hi hI=>?_
  ·simp[SE.den]
  ·simp
  by_cases aa:i<l.length
  ·have hw:=aw aa (by omega);simp[SE.den,aa,hw,cellsOf,J1];by_cases he:l[i]=t.n
   ·left;exact he
   ·right;exact⟨he,by omega,eR aa hI he⟩
  ·have:=gV aa hI;simp[SE.den,aa,J1];exact fun h=>this _ h rfl
 simp[Y0,SE.den,ab];by_cases k1:t.k=1
 ·left;refine⟨k1,?_⟩;unfold PL;refine fJ (fun vs=>∃b:Bool,vs=[iB b]∧(b=false→t.n∉l)) l0 ?_;rintro vs ⟨b,rfl,hb⟩;refine⟨rfl,?_⟩;simp[SE.den,ab,au,cellsOf];cases b with
  |true=>right;exact⟨rfl,_,G4,by simp,l2 _⟩
  |false=>
   left;refine⟨rfl,iL (l++[t.n]),?_,_,G4,by simp,l1 _ _ (hl.snoc (hb rfl) (((jX t).1 ht).1 k1))⟩;simp[gl,iz,cellsOf];exact⟨rfl,by omega,by omega⟩
 ·right;exact⟨k1,_,G4,by simp,l4⟩
theorem abl:∀t:Tm,py t→bx t→∀l:List Int,Vr l→∃l':List Int,Vr l'∧CC 511 true [iL l,bV t] (iL l')
 |.mk k n s ts,h,hf=>f155 _ ((mI _).1 h).1 hf fun u hu=>abl u (((mI _).1 h).2 u hu)
 decreasing_by simp[Tm.ts]at hu;have:=atD hu;simp;omega
end Go.Proofs.YtggffkaadeagbaaGreat
namespace Go.Proofs.YtggffkaadeagbaaGreat
open Go Go.Ev
theorem CC.Ef{n:Nat}{new:Bool}{f:FuncId}{cR:af}{cfg:aL}{args:List IV}(p:List Int→Prop)(he:aA ar3 cfg n new f=cR)(hl:(ar3.funcs[f]?).map (·.params.size)=some args.length)(ht:∀z,aD ar3 f z=true)(hp:∀x∈args,Pure x)(hn:noTwo cR=true)
 (hs:cR.sat ar3 CC (G7 p) [] args):∃l',p l'∧CC f new args (iL l'):=by
 obtain⟨z,⟨l',rfl,hb⟩,h2⟩:=CC.PS he hl (fun z _=>ht z) hp (by rintro _ ⟨b,rfl,_⟩;exact AT b) hn hs;exact⟨l',hb,h2⟩
theorem n108:(ar3.funcs[108]?).map (·.params.size)=some 1:=by kernel_rfl
theorem t108(z:IV):aD ar3 108 z=true:=by kernel_rfl
theorem ahg{Q:IV→Prop}(ts:List Tm)(tF:Sm ts)(hw:∀t∈ts,py t∧bx t)(hQ:∀l,Vr l→Q (iL l)):IN.sat ar3 CC Q [] [iT ts]:=by
 simp[IN,PB,SE.den,ab];refine ao ts.length (fun i (a:List Int)=>[iI i,iL a]) (fun i a=>Vr a) [] ?_ Vr.nil fun i a hi hI=>?_
 ·simp[SE.den]
 by_cases aa:i<ts.length
 ·have jv:=aw aa tF;obtain⟨l',k1,hb⟩:=abl ts[i] (hw _ (asb aa)).1 (hw _ (asb aa)).2 a hI;rw[bo]at hb;simp[SE.den,aa,jv,rI aa,bo,ab,au,cellsOf];exact⟨_,hb,l',by simp,by omega,k1⟩
 ·simp[SE.den,aa];exact hQ _ hI
theorem ahh(ts:List Tm)(tF:Sm ts)(hw:∀t∈ts,py t∧bx t):∃l',Vr l'∧CC 108 false [iT ts] (iL l'):=
 CC.Ef Vr alu n108 t108 (by simp) (by rfl) (ahg ts tF hw fun l hl=>by rw[AY];exact hl)
theorem n93:(ar3.funcs[93]?).map (·.params.size)=some 1:=by kernel_rfl
theorem t93(z:IV):aD ar3 93 z=true:=by kernel_rfl
theorem e93(g:Gl)(tF:Sm g.ts)(hw:∀t∈g.ts,py t∧bx t):∃l',Vr l'∧CC 93 false [.agg [iI g.op,iS g.s,iT g.ts]] (iL l'):=by
 refine CC.Ef Vr apy n93 t93 (by intro x hx;obtain rfl:=atM.1 hx;exact Ee g) (by rfl) ?_;obtain⟨l',k1,hb⟩:=ahh g.ts tF hw;simp[acD,SE.den,ab];exact⟨_,hb,by simpa using k1⟩
theorem n50:(ar3.funcs[50]?).map (·.params.size)=some 1:=by kernel_rfl
theorem t50(z:IV):aD ar3 50 z=true:=by kernel_rfl
theorem e50(g:At)(tF:Sm g.ts)(hw:∀t∈g.ts,py t∧bx t):∃l',Vr l'∧CC 50 false [.agg [iS g.s,iT g.ts]] (iL l'):=by
 refine CC.Ef Vr apA n50 t50 (by intro x hx;obtain rfl:=atM.1 hx;exact r9 g) (by rfl) ?_;obtain⟨l',k1,hb⟩:=ahh g.ts tF hw;simp[acF,SE.den,ab];exact⟨_,hb,by simpa using k1⟩
theorem ahi:aA ar3 YO 400 true 108=IN:=by kernel_rfl
end Go.Proofs.YtggffkaadeagbaaGreat
namespace Go.Proofs.YtggffkaadeagbaaGreat
open Go Go.Ev
theorem acL{a b:List Gl}(h:a.length+b.length≤1000):gl 3 48 (qT a) (qT b)=some (qT (a++b)):=by
 have h2:=wZ (s:=3) (enc:=G5) (fun x=>⟨_,rfl,rfl,rfl⟩) b;simp[gl,h2];omega
theorem n150:(ar3.funcs[150]?).map (·.params.size)=some 1:=by kernel_rfl
theorem t150(z:IV):aD ar3 150 z=true:=by kernel_rfl
theorem n91:(ar3.funcs[91]?).map (·.params.size)=some 1:=by kernel_rfl
theorem t91(z:IV):aD ar3 91 z=true:=by kernel_rfl
theorem n151:(ar3.funcs[151]?).map (·.params.size)=some 1:=by kernel_rfl
theorem t151(z:IV):aD ar3 151 z=true:=by kernel_rfl
theorem iG(r:Rl):oB r=.agg [iS r.name,cS r.keep,cS r.remove,qT r.guard,qT r.body,iI r.vars]:=rfl
theorem VI(r:Rl)(h:r.keep.length+r.remove.length≤1000):CC 150 false [oB r] (cS (r.keep++r.remove)):=by
 refine CC.of alh n150 (t150 _) (by simpa using je r) (by simp) ?_;have h1:=Cj (a:=[]) (b:=r.keep) (by simp;omega);have h2:=Cj h;simp only[as7,atW]at h1;rw[iG];simp[YE,SE.den,ab];exact⟨_,h1,h2⟩
theorem c91(r:Rl)(h:r.keep.length+r.remove.length≤1000):CC 91 false [oB r] (cS (r.keep++r.remove)):=by
 refine CC.of apz n91 (t91 _) (by simpa using je r) (by simp) ?_;have h1:=Cj (a:=[]) (b:=r.keep) (by simp;omega);have h2:=Cj h;simp only[as7,atW]at h1;rw[iG];simp[acE,SE.den,ab];exact⟨_,h1,h2⟩
theorem abm(r:Rl)(h:r.guard.length+r.body.length≤1000):CC 151 false [oB r] (qT (r.guard++r.body)):=by
 refine CC.of ali n151 (t151 _) (by simpa using je r) (by simp) ?_;have h1:=acL (a:=[]) (b:=r.guard) (by simp;omega);have h2:=acL h;simp only[as7,atW]at h1;rw[iG];simp[YF,SE.den,ab];exact⟨_,h1,h2⟩
end Go.Proofs.YtggffkaadeagbaaGreat
