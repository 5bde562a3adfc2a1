/- A part of the proof, no condition: what the code of Retract and of the bounds computes; contracts. -/
import Derived.Test.YtpfogalbnijcoaaGreatEvJ
import Derived.Test.YtpfogalbnijcoaaGreatEvP
import Derived.Test.YtpfogalbnijcoaaGreatProg
import Derived.KernelRfl
open Go.Proofs.Tryz renaming prog->ar1
open List renaming mem_map->asv,length->asI
open Option renaming some->aa
open Bool renaming true->ab,false->af
set_option linter.all false
namespace Go.Proofs.YtpfogalbnijcoaaGreat
open Go Go.Ev
def vA:List Nat:=[67,65,187,29,234,209,280,208,250,295,256,281,279,257,227,101,177,49,22,23,8,9,4]
def rm:List Nat:=[11,193,277,226,318,225]
def stops:List Nat:=[238]
def YV:ak:=
 (IL (nM 2 1 2 (yp 3 (lO dh jN) vb 0 3 2 1) (jV (-1))))
def agH:bg:=⟨vA,rm,stops,[⟨0,234,2,[(0,(8,0))],[],[],[]⟩],[]⟩
theorem aj5:aK ar1 agH 400 af 234=YV:=by kernel_rfl
def ac5:ak:=
 (IL (lM fj .neq cb fj aU (jM cb 2 cb 1 bC 2 (jU 3 (gn 1 dh 2 (vu 4 .neq jN iN aU 0 3 2 1))) iF)))
def aj6:bg:=⟨vA,rm,stops,[⟨0,65,4,[(0,(5,0))],[],[],[]⟩],[]⟩
theorem aoo:aK ar1 aj6 400 af 65=ac5:=by kernel_rfl
def YW:ak:=
 (nL (jt 4 0) tT 2 (.ret (rG 0)) (.ret rE))
def agI:bg:=⟨vA,rm,stops,[],[]⟩
theorem aj7:aK ar1 agI 400 af 177=YW:=by kernel_rfl
def YX:ak:=
 (jP 4 (vm 177 0 0 0 0 1 (jJ (.i 1) fj 2 fj (nG 4 dh 2 4 4 (zP 101 (iK 4 4 4 4) 5 (Wc 3 ie) (wY 0 2 (Wc 3 ie)))) (.ret qc))))
def agJ:bg:=⟨vA,rm,stops,[⟨0,101,4,[(0,(3,0)),(0,(5,0))],[],[],[]⟩],[]⟩
theorem aj8:aK ar1 agJ 400 af 101=YX:=by kernel_rfl
def YY:ak:=
 (tO (fD cb cb 8 (jJ dg cb 1 cb (qf 4 1 4 3 (vm 101 3 3 3 3 4 (pB (FL iN) (lY .gtr (FL iN) 60) aU 0 3 1 1 (mM (FL iN))))) iF)))
def agK:bg:=⟨vA,rm,stops,[⟨0,49,5,[(0,(3,0)),(0,(4,0))],[],[],[]⟩],[]⟩
theorem aj9:aK ar1 agK 400 af 49=YY:=by kernel_rfl
def ac6:ak:=
 (tO (ga cb 1 cb (qf 2 1 2 2 (qb 49 vg 3 3 aU 0 1)) iF))
def aj_:bg:=⟨vA,rm,stops,[⟨0,22,2,[(0,(3,0))],[],[],[]⟩],[]⟩
theorem aop:aK ar1 aj_ 400 af 22=ac6:=by kernel_rfl
def YZ:ak:=
 (tO (ga cb 1 cb (qf 2 1 2 2 (qb 49 vg 3 3 BV 0 1)) FK))
def agL:bg:=⟨vA,rm,stops,[⟨0,22,2,[(0,(3,0))],[],[],[]⟩],[]⟩
theorem aka:aK ar1 agL 400 ab 22=YZ:=by kernel_rfl
def ac7:ak:=
 (tO (fD cb cb 9 (ga cb 1 cb (qf 4 1 4 2 (fD oO oO 20 (qf 4 1 4 3 (xf 22 (acU 2 (tJ 3 1 3 2)) (lP 4 4 aU 0 1))))) iF)))
def akb:bg:=⟨vA,rm,stops,[⟨0,9,4,[(0,(3,0))],[],[],[]⟩],[]⟩
theorem aoq:aK ar1 akb 400 af 9=ac7:=by kernel_rfl
def ac8:ak:=
 (xh 2 0 5 1 (mA 8 0 0 0 1 (Ht dq 2 aU (ja 9 Cc (kh 3 3 (ja 9 wV (kh 4 4 (fD gq gq 12 (ga gq 5 gq (lh 6 2 5 6 6 (fD (nK 6) (nK 6) 8 (fD (gM 6) (gM 6) 8 (fD zJ zJ 20 (nH (GH 6 5) (lY .gtr (GH 6 5) 20) aU 0 3 5 1))))) iF)))))))))
def akc:bg:=⟨vA,rm,stops,[⟨0,4,4,[(0,(5,0))],[],[],[]⟩],[]⟩
theorem aor:aK ar1 akc 400 af 4=ac8:=by kernel_rfl
end Go.Proofs.YtpfogalbnijcoaaGreat
namespace Go.Proofs.YtpfogalbnijcoaaGreat
open Go Go.Ev
inductive Tm where
 |mk (k n:Int) (s:List UInt8) (ts:List Tm)
mutual
def dH:Tm->IV
 |.mk k n s ts=>.agg [iI k,iI n,iS s,.tree 4 (NQ ts)]
def NQ:List Tm->List IV
 |[]=>[]
 |t::ts=>dH t::NQ ts
end
theorem My:∀l:List Tm,NQ l=l.map dH
 |[]=>rfl
 |t::l=>by simp[NQ,My l]
structure At where
 s:List UInt8
 ts:List Tm
structure Fa where
 id:Int
 a:At
 j:List Int
structure Ap where
 rule:Int
 aW:List Int
 gone:List Int
 made:List Int
 failed:Bool
 ff:List Int
structure Me where
 facts:List Fa
 past:List Fa
 log:List Ap
 next:Int
 given:Int
abbrev iT(l:List Tm):IV:=.tree 4 (l.map dH)
def CJ(a:At):IV:=.agg [iS a.s,iT a.ts]
def eX(f:Fa):IV:=.agg [iI f.id,iS f.a.s,iT f.a.ts,iL f.j]
def kS(x:Ap):IV:=.agg [iI x.rule,iL x.aW,iL x.gone,iL x.made,iB x.failed,iL x.ff]
abbrev iv(l:List Fa):IV:=.tree 4 (l.map eX)
abbrev nf(l:List At):IV:=.tree 2 (l.map CJ)
abbrev mu(l:List Ap):IV:=.tree 6 (l.map kS)
def fF(m:Me):IV:=.agg [iv m.facts,iv m.past,mu m.log,iI m.next,iI m.given]
theorem uR(k n:Int)(s:List UInt8)(ts:List Tm):dH (.mk k n s ts)=.agg [iI k,iI n,iS s,iT ts]:=by simp[dH,My]
@[simp] theorem aos(v:Value):Pure (.raw v):=.raw v
@[simp] theorem Bi(l:List Int):Pure (iL l):=by
  refine .tree 1 _ λe he c hc=>?_;obtain⟨x,_,rfl⟩:=asv.1 he;simp[cellsOf]at hc;subst hc;exact .raw _
theorem ng:∀t:Tm,Pure (dH t)
 |.mk k n s ts=>by
  rw[uR];refine .agg _ λc hc=>?_;simp at hc;rcases hc with rfl|rfl|rfl|rfl
  ·exact .raw _
  ·exact .raw _
  ·exact .raw _
  ·refine .tree 4 _ λe he c hc=>?_;obtain⟨x,hx,rfl⟩:=asv.1 he;have:=ng x;obtain⟨k',n',s',ts'⟩:=x;rw[uR]at this hc;cases this with
   |agg _ h=>exact h c hc
 decreasing_by simp_wf;have:=List.sizeOf_lt_of_mem hx;omega
theorem pM{α:Type}(s:Nat)(enc:α->IV)(h:∀a,∃cs,enc a=.agg cs/\∀c∈cs,Pure c)(l:List α):Pure (.tree s (l.map enc)):=by
 refine .tree s _ λe he c hc=>?_;obtain⟨x,_,rfl⟩:=asv.1 he;obtain⟨cs,h1,h2⟩:=h x;rw[h1]at hc;exact h2 c hc
@[simp] theorem aqX(l:List Tm):Pure (iT l):=pM 4 dH (λt=>by
  have:=ng t;obtain⟨k',n',s',ts'⟩:=t;rw[uR]at this⊢;cases this with
  |agg _ h=>exact⟨_,rfl,h⟩) l
theorem EI(a:At):Pure (CJ a):=.agg _ (by simp)
theorem Mz(a:Fa):Pure (eX a):=.agg _ (by simp)
theorem Y0(a:Ap):Pure (kS a):=.agg _ (by simp)
@[simp] theorem Qd(l:List Fa):Pure (iv l):=pM 4 eX (λa=>⟨_,rfl,by simp⟩) l
@[simp] theorem abT(l:List At):Pure (nf l):=pM 2 CJ (λa=>⟨_,rfl,by simp⟩) l
@[simp] theorem abU(l:List Ap):Pure (mu l):=pM 6 kS (λa=>⟨_,rfl,by simp⟩) l
theorem lS(m:Me):Pure (fF m):=.agg _ (by simp)
def ni(n:Nat):Cr:=λf new xs z=>(f<n->eZ ar1 af new f xs z/\Pure z/\aQ ar1 f z=ab)/\
 (∀g,g<n->f=n+g->∃s es nX aF,xs=.tree s es::nX/\z=.tree s aF/\Cq ar1 s g es nX aF)/\
 (∀g,g<n->f=2*n+g->∃ins nX outs z0,xs=.agg (ins.map IV.agg)::nX/\z=.az (z0::outs.map IV.agg)/\outs.map asI=ins.map asI/\(∀cs∈outs,∀u∈cs,aj u=ab)/\Ct ar1 g ins nX outs z0)/\
 (∀g,g<n->f=3*n+g->∃t:Nat,xs=[.int t]/\D6 ar1 g t)/\
 (∀g,g<n->f=4*n+g->∃es,z=.tree (cK ar1 g) es/\jR ar1 (cK ar1 g) g xs es)/\
 (∀g,g<n->f=5*n+g->∃ds,z=.az ds/\lQ ar1 g xs ds)/\
 ∀g,g<n->f=6*n+g->∃ds nX,xs=.az ds::nX/\rN ar1 g ds nX z
def CC:Cr:=ni ar1.funcs.size
theorem wu:jb ar1 CC:=λ_ _ _ _ h=>h
theorem mixed:ar1.follows .mixedOrders=ab:=by kernel_rfl
theorem kT{f n:Nat}(hl:(ar1.funcs[f]?).map (·.params.size)=aa n):f<ar1.funcs.size:=by
 cases h:ar1.funcs[f]? with
 |none=>rw[h]at hl;cases hl
 |some _=>exact(Array.getElem?_eq_some_iff.1 h).1
theorem aot{n a g:Nat}(ha:a<n)(hg:g<n)(h:a=n+g):False:=by omega
theorem aou{n a g:Nat}(ha:a<n)(hg:g<n)(h:a=2*n+g):False:=by omega
theorem aov{n a g:Nat}(ha:a<n)(hg:g<n)(h:a=3*n+g):False:=by omega
theorem aow{n a g:Nat}(ha:a<n)(hg:g<n)(h:a=4*n+g):False:=by omega
theorem aox{n a g:Nat}(ha:a<n)(hg:g<n)(h:a=5*n+g):False:=by omega
theorem aoy{n a g:Nat}(ha:a<n)(hg:g<n)(h:a=6*n+g):False:=by omega
theorem aoz{n a:Nat}(ha:a<n)(h:n+a<n):False:=by omega
theorem aoA{n a g:Nat}(ha:a<n)(hg:g<n)(h:n+a=2*n+g):False:=by omega
theorem aoB{n a g:Nat}(ha:a<n)(hg:g<n)(h:n+a=3*n+g):False:=by omega
theorem aoC{n a g:Nat}(ha:a<n)(hg:g<n)(h:n+a=4*n+g):False:=by omega
theorem aoD{n a g:Nat}(ha:a<n)(hg:g<n)(h:n+a=5*n+g):False:=by omega
theorem aoE{n a g:Nat}(ha:a<n)(hg:g<n)(h:n+a=6*n+g):False:=by omega
theorem akd{n a g:Nat}(h:n+a=n+g):g=a:=by omega
theorem aoF{n a:Nat}(ha:a<n)(h:2*n+a<n):False:=by omega
theorem aoG{n a g:Nat}(ha:a<n)(hg:g<n)(h:2*n+a=n+g):False:=by omega
theorem aoH{n a g:Nat}(ha:a<n)(hg:g<n)(h:2*n+a=3*n+g):False:=by omega
theorem aoI{n a g:Nat}(ha:a<n)(hg:g<n)(h:2*n+a=4*n+g):False:=by omega
theorem aoJ{n a g:Nat}(ha:a<n)(hg:g<n)(h:2*n+a=5*n+g):False:=by omega
theorem aoK{n a g:Nat}(ha:a<n)(hg:g<n)(h:2*n+a=6*n+g):False:=by omega
theorem ake{n a g:Nat}(h:2*n+a=2*n+g):g=a:=by omega
theorem aoL{n a:Nat}(ha:a<n)(h:3*n+a<n):False:=by omega
theorem aoM{n a g:Nat}(ha:a<n)(hg:g<n)(h:3*n+a=n+g):False:=by omega
theorem aoN{n a g:Nat}(ha:a<n)(hg:g<n)(h:3*n+a=2*n+g):False:=by omega
theorem aoO{n a g:Nat}(ha:a<n)(hg:g<n)(h:3*n+a=4*n+g):False:=by omega
theorem aoP{n a g:Nat}(ha:a<n)(hg:g<n)(h:3*n+a=5*n+g):False:=by omega
theorem aoQ{n a g:Nat}(ha:a<n)(hg:g<n)(h:3*n+a=6*n+g):False:=by omega
theorem akf{n a g:Nat}(h:3*n+a=3*n+g):g=a:=by omega
theorem aoR{n a:Nat}(ha:a<n)(h:4*n+a<n):False:=by omega
theorem aoS{n a g:Nat}(ha:a<n)(hg:g<n)(h:4*n+a=n+g):False:=by omega
theorem aoT{n a g:Nat}(ha:a<n)(hg:g<n)(h:4*n+a=2*n+g):False:=by omega
theorem aoU{n a g:Nat}(ha:a<n)(hg:g<n)(h:4*n+a=3*n+g):False:=by omega
theorem aoV{n a g:Nat}(ha:a<n)(hg:g<n)(h:4*n+a=5*n+g):False:=by omega
theorem aoW{n a g:Nat}(ha:a<n)(hg:g<n)(h:4*n+a=6*n+g):False:=by omega
theorem akg{n a g:Nat}(h:4*n+a=4*n+g):g=a:=by omega
theorem aoX{n a:Nat}(ha:a<n)(h:5*n+a<n):False:=by omega
theorem aoY{n a g:Nat}(ha:a<n)(hg:g<n)(h:5*n+a=n+g):False:=by omega
theorem aoZ{n a g:Nat}(ha:a<n)(hg:g<n)(h:5*n+a=2*n+g):False:=by omega
theorem ao0{n a g:Nat}(ha:a<n)(hg:g<n)(h:5*n+a=3*n+g):False:=by omega
theorem ao1{n a g:Nat}(ha:a<n)(hg:g<n)(h:5*n+a=4*n+g):False:=by omega
theorem ao2{n a g:Nat}(ha:a<n)(hg:g<n)(h:5*n+a=6*n+g):False:=by omega
theorem akh{n a g:Nat}(h:5*n+a=5*n+g):g=a:=by omega
theorem ao3{n a:Nat}(ha:a<n)(h:6*n+a<n):False:=by omega
theorem ao4{n a g:Nat}(ha:a<n)(hg:g<n)(h:6*n+a=n+g):False:=by omega
theorem ao5{n a g:Nat}(ha:a<n)(hg:g<n)(h:6*n+a=2*n+g):False:=by omega
theorem ao6{n a g:Nat}(ha:a<n)(hg:g<n)(h:6*n+a=3*n+g):False:=by omega
theorem ao7{n a g:Nat}(ha:a<n)(hg:g<n)(h:6*n+a=4*n+g):False:=by omega
theorem ao8{n a g:Nat}(ha:a<n)(hg:g<n)(h:6*n+a=5*n+g):False:=by omega
theorem aki{n a g:Nat}(h:6*n+a=6*n+g):g=a:=by omega
theorem ni.plain{n:Nat}{new:Bool}{f:FuncId}{args:List IV}{z:IV}(ai:f<n)(h0:eZ ar1 af new f args z)(hz:Pure z)(ht:aQ ar1 f z=ab):ni n f new args z:=
 ⟨λ_=>⟨h0,hz,ht⟩,λg hg h=>(aot ai hg h).elim,λg hg h=>(aou ai hg h).elim,λg hg h=>(aov ai hg h).elim,λg hg h=>(aow ai hg h).elim,λg hg h=>(aox ai hg h).elim,λg hg h=>(aoy ai hg h).elim⟩
theorem CC.plain{new:Bool}{f:FuncId}{args:List IV}{z:IV}(ai:f<ar1.funcs.size)(h:eZ ar1 af new f args z)(hz:Pure z)(ht:aQ ar1 f z=ab):CC f new args z:=ni.plain ai h hz ht
theorem CC.of{n:Nat}{new:Bool}{f:FuncId}{cF:ak}{args:List IV}{z:IV}{cfg:bg}(he:aK ar1 cfg n new f=cF)(hl:(ar1.funcs[f]?).map (·.params.size)=aa args.length)(ht:aQ ar1 f z=ab)(hp:∀x∈args,Pure x)(hz:Pure z)
 (hs:cF.sat ar1 CC (·=z) [] args):CC f new args z:=ni.plain (kT hl) (eZ.nN mixed wu he hl hp hs) hz ht
theorem ni.row{n:Nat}{new:Bool}{f s:Nat}{es aF xs:List IV}(ai:f<n)(h0:Cq ar1 s f es xs aF):ni n (n+f) new (.tree s es::xs) (.tree s aF):=
 ⟨λh=>(aoz ai h).elim,λg hg h=>by rw[akd h];exact⟨s,es,xs,aF,rfl,rfl,h0⟩,λg hg h=>(aoA ai hg h).elim,λg hg h=>(aoB ai hg h).elim,λg hg h=>(aoC ai hg h).elim,λg hg h=>(aoD ai hg h).elim,λg hg h=>(aoE ai hg h).elim⟩
theorem CC.ofRow{n s:Nat}{f:FuncId}{cF:ak}{es aF xs:List IV}{cfg:bg}{new:Bool}(he:xG ar1 cfg n s f=cF)(hl:(ar1.funcs[f]?).map (·.params.size)=aa (xs.length+1))
 (hs:cF.sat ar1 CC (·=.tree s aF) [] (.tree s es::xs)):CC (ar1.funcs.size+f) new (.tree s es::xs) (.tree s aF):=
 ni.row (kT hl) (Cq.nN mixed wu he hl hs)
theorem ni.obj{n:Nat}{new:Bool}{f:Nat}{ins outs:List (List IV)}{xs:List IV}{z:IV}(ai:f<n)(ho:outs.map asI=ins.map asI)(hc:∀cs∈outs,∀u∈cs,aj u=ab)(h0:Ct ar1 f ins xs outs z):ni n (2*n+f) new (.agg (ins.map IV.agg)::xs) (.az (z::outs.map IV.agg)):=
 ⟨λh=>(aoF ai h).elim,λg hg h=>(aoG ai hg h).elim,λg hg h=>by rw[ake h];exact⟨ins,xs,outs,z,rfl,rfl,ho,hc,h0⟩,λg hg h=>(aoH ai hg h).elim,λg hg h=>(aoI ai hg h).elim,λg hg h=>(aoJ ai hg h).elim,λg hg h=>(aoK ai hg h).elim⟩
theorem CC.akj{n:Nat}{f:FuncId}{cF:ak}{ins outs:List (List IV)}{xs:List IV}{z:IV}{cfg:bg}{new:Bool}(he:xH ar1 cfg n (ins.map asI) f=cF)(hl:(ar1.funcs[f]?).map (·.params.size)=aa (ins.length+xs.length))
 (ho:outs.map asI=ins.map asI)(hc:∀cs∈outs,∀u∈cs,aj u=ab)(hs:cF.sat ar1 CC (·=.az (z::outs.map .agg)) [] (ins.flatten++xs)):CC (2*ar1.funcs.size+f) new (.agg (ins.map IV.agg)::xs) (.az (z::outs.map IV.agg)):=
 ni.obj (kT hl) ho hc (Ct.nN mixed wu he hl hs)
theorem ni.Qc{n:Nat}{new:Bool}{f t:Nat}{z:IV}(ai:f<n)(h0:D6 ar1 f t):ni n (3*n+f) new [.int t] z:=
 ⟨λh=>(aoL ai h).elim,λg hg h=>(aoM ai hg h).elim,λg hg h=>(aoN ai hg h).elim,λg hg h=>by rw[akf h];exact⟨t,rfl,h0⟩,λg hg h=>(aoO ai hg h).elim,λg hg h=>(aoP ai hg h).elim,λg hg h=>(aoQ ai hg h).elim⟩
theorem ni.fresh{n:Nat}{new:Bool}{f:Nat}{xs es:List IV}(ai:f<n)(h0:jR ar1 (cK ar1 f) f xs es):ni n (4*n+f) new xs (.tree (cK ar1 f) es):=
 ⟨λh=>(aoR ai h).elim,λg hg h=>(aoS ai hg h).elim,λg hg h=>(aoT ai hg h).elim,λg hg h=>(aoU ai hg h).elim,λg hg h=>by rw[akg h];exact⟨es,rfl,h0⟩,λg hg h=>(aoV ai hg h).elim,λg hg h=>(aoW ai hg h).elim⟩
theorem ni.agM{n:Nat}{new:Bool}{f:Nat}{xs ds:List IV}(ai:f<n)(h0:lQ ar1 f xs ds):ni n (5*n+f) new xs (.az ds):=
 ⟨λh=>(aoX ai h).elim,λg hg h=>(aoY ai hg h).elim,λg hg h=>(aoZ ai hg h).elim,λg hg h=>(ao0 ai hg h).elim,λg hg h=>(ao1 ai hg h).elim,λg hg h=>by rw[akh h];exact⟨ds,rfl,h0⟩,λg hg h=>(ao2 ai hg h).elim⟩
theorem ni.look{n:Nat}{new:Bool}{f:Nat}{xs ds:List IV}{z:IV}(ai:f<n)(h0:rN ar1 f ds xs z):ni n (6*n+f) new (.az ds::xs) z:=
 ⟨λh=>(ao3 ai h).elim,λg hg h=>(ao4 ai hg h).elim,λg hg h=>(ao5 ai hg h).elim,λg hg h=>(ao6 ai hg h).elim,λg hg h=>(ao7 ai hg h).elim,λg hg h=>(ao8 ai hg h).elim,λg hg h=>by rw[aki h];exact⟨ds,xs,rfl,h0⟩⟩
theorem WJ:ar1.underlying 4=aa .bool:=by kernel_rfl
@[simp] theorem aq4(a b:Bool):dc ar1 .eql 4 (iB a) (iB b)=aa (iB (a==b)):=ac4 _ _ WJ a b
@[simp] theorem aq5(a b:Bool):dc ar1 .neq 4 (iB a) (iB b)=aa (iB (!(a==b))):=aj2 _ _ WJ a b
abbrev Sm{α:Type}(l:List α):Prop:=l.length<=9223372036854775807
theorem aD{i:Nat}{n:Nat}(h:i<n)(hn:n<=9223372036854775807):IntKind.i64.wrap ((i:Int)+1)=((i+1:Nat):Int):=by
 rw[dQ (by omega) (by omega)];rfl
@[simp] theorem agN{l:List Int}{i:Nat}{x:Int}(h:l[i]?=aa x):dD 1 (iL l) (iI (i:Nat))=aa (iI x):=gj (by simp[h]) rfl
end Go.Proofs.YtpfogalbnijcoaaGreat
