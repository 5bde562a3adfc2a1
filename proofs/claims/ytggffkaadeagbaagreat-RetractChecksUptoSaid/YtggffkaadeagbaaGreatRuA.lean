/- A part of the proof, no condition: what the code of Retract and of the bounds computes; contracts. -/
import Derived.Test.YtggffkaadeagbaaGreatEvJ
import Derived.Test.YtggffkaadeagbaaGreatEvP
import Derived.Test.YtggffkaadeagbaaGreatProg
import Derived.KernelRfl
open Go.Proofs.Tryz renaming prog->aqD
open List renaming mem_map->aq5,length->ari
set_option linter.all false
namespace Go.Proofs.YtggffkaadeagbaaGreat
open Go Go.Ev
def uR:List Nat:=[58,75,67,109,94,53,52,68,69,70,26,28,25,19,121,78,183,123,127,126,186,189,190,128,249,66,133,191,71,64,164,250,130,129,131,158,206,102,44,79,30,31,10,23,61,22,24,27,29,15,9]
def qQ:List Nat:=[48,60,63,65,118,124,132,174,197,216,252,263,334]
def stops:List Nat:=[185,188,254]
def X5:ab:=
 (M7 (ni 2 1 2 (vA g_ dy g_ yG ta) Vh))
def afL:bj:=⟨uR,qQ,stops,[⟨0,183,2,[(0,(8,0))],[],[],[]⟩],[]⟩
theorem ajh:aI aqD afL 400 false 183=X5:=by kernel_rfl
def ab_:ab:=
 (M7 (M9 gD cj gD (oB cj 2 cj 1 bt 2 (eZ 3 (lN 1 dy 2 (M9 fz g_ fz ta))))))
def aji:bj:=⟨uR,qQ,stops,[⟨0,53,4,[(0,(5,0))],[],[],[]⟩],[]⟩
theorem anl:aI aqD aji 400 false 53=ab_:=by kernel_rfl
def X6:ab:=
 (oa (tz 0) .eql pO 2 (.ret (ju 0 3)) (.ret sW))
def afM:bj:=⟨uR,qQ,stops,[],[]⟩
theorem ajj:aI aqD afM 400 false 206=X6:=by kernel_rfl
def X7:ab:=
 (oA 4 0 206 0 0 0 0 (eZ 1 (jD (.i 1) gD 2 gD 4 dy 2 (oA 4 4 158 4 4 4 4 (yO (Vd 3 jI) (oz 0 2 (Vd 3 jI)))) (.ret pR))))
def afN:bj:=⟨uR,qQ,stops,[⟨0,158,4,[(0,(3,0)),(0,(5,0))],[],[],[]⟩],[]⟩
theorem ajk:aI aqD afN 400 false 158=X7:=by kernel_rfl
def X8:ab:=
 (s8 (fe cj cj 8 (jD cH cj 1 cj 4 bt 1 (oA 4 3 158 3 3 3 3 (eZ 4 (fe (E_ fz) (E_ fz) 60 (oz 0 1 (E_ fz))))) uc)))
def afO:bj:=⟨uR,qQ,stops,[⟨0,102,5,[(0,(3,0)),(0,(4,0))],[],[],[]⟩],[]⟩
theorem ajl:aI aqD afO 400 false 102=X8:=by kernel_rfl
def aca:ab:=
 (s8 (oB cj 1 cj 2 bt 1 (gi 2 2 102 uE (uL 3 3 0 1))))
def ajm:bj:=⟨uR,qQ,stops,[⟨0,44,2,[(0,(3,0))],[],[],[]⟩],[]⟩
theorem anm:aI aqD ajm 400 false 44=aca:=by kernel_rfl
def X9:ab:=
 (s8 (fA cj 1 cj 2 bt 1 (gi 2 2 102 uE (my 3 3 A7 0 1)) E9))
def afP:bj:=⟨uR,qQ,stops,[⟨0,44,2,[(0,(3,0))],[],[],[]⟩],[]⟩
theorem ajn:aI aqD afP 400 true 44=X9:=by kernel_rfl
def acb:ab:=
 (s8 (fe cj cj 9 (oB cj 1 cj 4 bt 1 (q5 2 (fe ow ow 20 (lN 4 bt 1 (q5 3 (gZ 44 (jf (abV 2 (oW 3 1 3 2))) (uL 4 4 0 1)))))))))
def ajo:bj:=⟨uR,qQ,stops,[⟨0,31,4,[(0,(3,0))],[],[],[]⟩],[]⟩
theorem ann:aI aqD ajo 400 false 31=acb:=by kernel_rfl
def acd:ab:=
 (Bl 5 (te 30 nf 2 2 (te 31 A6 3 3 (te 31 qW 4 4 (fe jA jA 12 (oB jA 5 jA 6 yF 5 (lO 6 6 (fe (l9 6) (l9 6) 8 (fe (fB 6) (fB 6) 8 (fe (v7 6) (v7 6) 20 (fe (H4 6 5) (H4 6 5) 20 (M5 5))))))))))))
def ajp:bj:=⟨uR,qQ,stops,[⟨0,10,4,[(0,(5,0))],[],[],[]⟩],[]⟩
theorem ano:aI aqD ajp 400 false 10=acd:=by kernel_rfl
end Go.Proofs.YtggffkaadeagbaaGreat
namespace Go.Proofs.YtggffkaadeagbaaGreat
open Go Go.Ev
inductive Tm where
 |mk (k n:Int) (s:List UInt8) (ts:List Tm)
mutual
def dB:Tm→IV
 |.mk k n s ts=>.agg [iI k,iI n,iS s,.tree 4 (Nd ts)]
def Nd:List Tm→List IV
 |[]=>[]
 |t::ts=>dB t::Nd ts
end
theorem LW:∀l:List Tm,Nd l=l.map dB
 |[]=>rfl
 |t::l=>by simp[Nd,LW l]
structure At where
 s:List UInt8
 ts:List Tm
structure Fa where
 id:Int
 a:At
 j:List Int
structure Ap where
 rule:Int
 bw:List Int
 gone:List Int
 made:List Int
 failed:Bool
 fV:List Int
structure Me where
 facts:List Fa
 past:List Fa
 log:List Ap
 next:Int
 given:Int
abbrev iT(l:List Tm):IV:=.tree 4 (l.map dB)
def BQ(a:At):IV:=.agg [iS a.s,iT a.ts]
def eT(f:Fa):IV:=.agg [iI f.id,iS f.a.s,iT f.a.ts,iL f.j]
def kF(x:Ap):IV:=.agg [iI x.rule,iL x.bw,iL x.gone,iL x.made,iB x.failed,iL x.fV]
abbrev kb(l:List Fa):IV:=.tree 4 (l.map eT)
abbrev mP(l:List At):IV:=.tree 2 (l.map BQ)
abbrev D3(l:List Ap):IV:=.tree 6 (l.map kF)
def gG(m:Me):IV:=.agg [kb m.facts,kb m.past,D3 m.log,iI m.next,iI m.given]
theorem ug(k n:Int)(s:List UInt8)(ts:List Tm):dB (.mk k n s ts)=.agg [iI k,iI n,iS s,iT ts]:=by simp[dB,LW]
@[simp] theorem anp(v:Value):Pure (.raw v):=.raw v
@[simp] theorem Aj(l:List Int):Pure (iL l):=by
  refine .tree 1 _ fun e he c hc=>?_;obtain⟨x,_,rfl⟩:=aq5.1 he;simp[cellsOf]at hc;subst hc;exact .raw _
theorem mQ:∀t:Tm,Pure (dB t)
 |.mk k n s ts=>by
  rw[ug];refine .agg _ fun c hc=>?_;simp at hc;rcases hc with rfl|rfl|rfl|rfl
  ·exact .raw _
  ·exact .raw _
  ·exact .raw _
  ·refine .tree 4 _ fun e he c hc=>?_;obtain⟨x,hx,rfl⟩:=aq5.1 he;have:=mQ x;obtain⟨k',n',s',ts'⟩:=x;rw[ug]at this hc;cases this with
   |agg _ h=>exact h c hc
 decreasing_by simp_wf;have:=List.sizeOf_lt_of_mem hx;omega
theorem ph{α:Type}(s:Nat)(enc:α→IV)(h:∀a,∃cs,enc a=.agg cs∧∀c∈cs,Pure c)(l:List α):Pure (.tree s (l.map enc)):=by
 refine .tree s _ fun e he c hc=>?_;obtain⟨x,_,rfl⟩:=aq5.1 he;obtain⟨cs,h1,h2⟩:=h x;rw[h1]at hc;exact h2 c hc
@[simp] theorem apz(l:List Tm):Pure (iT l):=ph 4 dB (fun t=>by
  have:=mQ t;obtain⟨k',n',s',ts'⟩:=t;rw[ug]at this⊢;cases this with
  |agg _ h=>exact⟨_,rfl,h⟩) l
theorem D4(a:At):Pure (BQ a):=.agg _ (by simp)
theorem LX(a:Fa):Pure (eT a):=.agg _ (by simp)
theorem X_(a:Ap):Pure (kF a):=.agg _ (by simp)
@[simp] theorem PA(l:List Fa):Pure (kb l):=ph 4 eT (fun a=>⟨_,rfl,by simp⟩) l
@[simp] theorem aa2(l:List At):Pure (mP l):=ph 2 BQ (fun a=>⟨_,rfl,by simp⟩) l
@[simp] theorem anq(l:List Ap):Pure (D3 l):=ph 6 kF (fun a=>⟨_,rfl,by simp⟩) l
theorem pj(m:Me):Pure (gG m):=.agg _ (by simp)
def mR(n:Nat):Cr:=fun f new xs z=>(f<n→eV aqD false new f xs z∧Pure z∧aN aqD f z=true)∧
 (∀g,g<n→f=n+g→∃s es nD aB,xs=.tree s es::nD∧z=.tree s aB∧BA aqD s g es nD aB)∧
 (∀g,g<n→f=2*n+g→∃ins nD outs z0,xs=.agg (ins.map IV.agg)::nD∧z=.av (z0::outs.map IV.agg)∧outs.map ari=ins.map ari∧(∀cs∈outs,∀u∈cs,af u=true)∧BC aqD g ins nD outs z0)∧
 (∀g,g<n→f=3*n+g→∃t:Nat,xs=[.int t]∧Dl aqD g t)∧
 (∀g,g<n→f=4*n+g→∃es,z=.tree (cF aqD g) es∧jF aqD (cF aqD g) g xs es)∧
 (∀g,g<n→f=5*n+g→∃ds,z=.av ds∧lF aqD g xs ds)∧
 ∀g,g<n→f=6*n+g→∃ds nD,xs=.av ds::nD∧q6 aqD g ds nD z
def CC:Cr:=mR aqD.funcs.size
theorem vD:iP aqD CC:=fun _ _ _ _ h=>h
theorem mixed:aqD.follows .mixedOrders=true:=by kernel_rfl
theorem kG{f n:Nat}(hl:(aqD.funcs[f]?).map (·.params.size)=some n):f<aqD.funcs.size:=by
 cases h:aqD.funcs[f]? with
 |none=>rw[h]at hl;cases hl
 |some _=>exact(Array.getElem?_eq_some_iff.1 h).1
theorem anr{n a g:Nat}(ha:a<n)(hg:g<n)(h:a=n+g):False:=by omega
theorem ans{n a g:Nat}(ha:a<n)(hg:g<n)(h:a=2*n+g):False:=by omega
theorem ant{n a g:Nat}(ha:a<n)(hg:g<n)(h:a=3*n+g):False:=by omega
theorem anu{n a g:Nat}(ha:a<n)(hg:g<n)(h:a=4*n+g):False:=by omega
theorem anv{n a g:Nat}(ha:a<n)(hg:g<n)(h:a=5*n+g):False:=by omega
theorem anw{n a g:Nat}(ha:a<n)(hg:g<n)(h:a=6*n+g):False:=by omega
theorem anx{n a:Nat}(ha:a<n)(h:n+a<n):False:=by omega
theorem anz{n a g:Nat}(ha:a<n)(hg:g<n)(h:n+a=2*n+g):False:=by omega
theorem anA{n a g:Nat}(ha:a<n)(hg:g<n)(h:n+a=3*n+g):False:=by omega
theorem anB{n a g:Nat}(ha:a<n)(hg:g<n)(h:n+a=4*n+g):False:=by omega
theorem anC{n a g:Nat}(ha:a<n)(hg:g<n)(h:n+a=5*n+g):False:=by omega
theorem anD{n a g:Nat}(ha:a<n)(hg:g<n)(h:n+a=6*n+g):False:=by omega
theorem ajq{n a g:Nat}(h:n+a=n+g):g=a:=by omega
theorem anE{n a:Nat}(ha:a<n)(h:2*n+a<n):False:=by omega
theorem anF{n a g:Nat}(ha:a<n)(hg:g<n)(h:2*n+a=n+g):False:=by omega
theorem anG{n a g:Nat}(ha:a<n)(hg:g<n)(h:2*n+a=3*n+g):False:=by omega
theorem anH{n a g:Nat}(ha:a<n)(hg:g<n)(h:2*n+a=4*n+g):False:=by omega
theorem anI{n a g:Nat}(ha:a<n)(hg:g<n)(h:2*n+a=5*n+g):False:=by omega
theorem anJ{n a g:Nat}(ha:a<n)(hg:g<n)(h:2*n+a=6*n+g):False:=by omega
theorem ajr{n a g:Nat}(h:2*n+a=2*n+g):g=a:=by omega
theorem anK{n a:Nat}(ha:a<n)(h:3*n+a<n):False:=by omega
theorem anL{n a g:Nat}(ha:a<n)(hg:g<n)(h:3*n+a=n+g):False:=by omega
theorem anM{n a g:Nat}(ha:a<n)(hg:g<n)(h:3*n+a=2*n+g):False:=by omega
theorem anN{n a g:Nat}(ha:a<n)(hg:g<n)(h:3*n+a=4*n+g):False:=by omega
theorem anO{n a g:Nat}(ha:a<n)(hg:g<n)(h:3*n+a=5*n+g):False:=by omega
theorem anP{n a g:Nat}(ha:a<n)(hg:g<n)(h:3*n+a=6*n+g):False:=by omega
theorem ajs{n a g:Nat}(h:3*n+a=3*n+g):g=a:=by omega
theorem anQ{n a:Nat}(ha:a<n)(h:4*n+a<n):False:=by omega
theorem anR{n a g:Nat}(ha:a<n)(hg:g<n)(h:4*n+a=n+g):False:=by omega
theorem anS{n a g:Nat}(ha:a<n)(hg:g<n)(h:4*n+a=2*n+g):False:=by omega
theorem anT{n a g:Nat}(ha:a<n)(hg:g<n)(h:4*n+a=3*n+g):False:=by omega
theorem anU{n a g:Nat}(ha:a<n)(hg:g<n)(h:4*n+a=5*n+g):False:=by omega
theorem anV{n a g:Nat}(ha:a<n)(hg:g<n)(h:4*n+a=6*n+g):False:=by omega
theorem ajt{n a g:Nat}(h:4*n+a=4*n+g):g=a:=by omega
theorem anW{n a:Nat}(ha:a<n)(h:5*n+a<n):False:=by omega
theorem anX{n a g:Nat}(ha:a<n)(hg:g<n)(h:5*n+a=n+g):False:=by omega
theorem anY{n a g:Nat}(ha:a<n)(hg:g<n)(h:5*n+a=2*n+g):False:=by omega
theorem anZ{n a g:Nat}(ha:a<n)(hg:g<n)(h:5*n+a=3*n+g):False:=by omega
theorem an0{n a g:Nat}(ha:a<n)(hg:g<n)(h:5*n+a=4*n+g):False:=by omega
theorem an1{n a g:Nat}(ha:a<n)(hg:g<n)(h:5*n+a=6*n+g):False:=by omega
theorem aju{n a g:Nat}(h:5*n+a=5*n+g):g=a:=by omega
theorem an2{n a:Nat}(ha:a<n)(h:6*n+a<n):False:=by omega
theorem an3{n a g:Nat}(ha:a<n)(hg:g<n)(h:6*n+a=n+g):False:=by omega
theorem an4{n a g:Nat}(ha:a<n)(hg:g<n)(h:6*n+a=2*n+g):False:=by omega
theorem an5{n a g:Nat}(ha:a<n)(hg:g<n)(h:6*n+a=3*n+g):False:=by omega
theorem an6{n a g:Nat}(ha:a<n)(hg:g<n)(h:6*n+a=4*n+g):False:=by omega
theorem an7{n a g:Nat}(ha:a<n)(hg:g<n)(h:6*n+a=5*n+g):False:=by omega
theorem ajv{n a g:Nat}(h:6*n+a=6*n+g):g=a:=by omega
theorem mR.plain{n:Nat}{new:Bool}{f:FuncId}{args:List IV}{z:IV}(aa:f<n)(h0:eV aqD false new f args z)(hz:Pure z)(ht:aN aqD f z=true):mR n f new args z:=
 ⟨fun _=>⟨h0,hz,ht⟩,fun g hg h=>(anr aa hg h).elim,fun g hg h=>(ans aa hg h).elim,fun g hg h=>(ant aa hg h).elim,fun g hg h=>(anu aa hg h).elim,fun g hg h=>(anv aa hg h).elim,fun g hg h=>(anw aa hg h).elim⟩
theorem CC.plain{new:Bool}{f:FuncId}{args:List IV}{z:IV}(aa:f<aqD.funcs.size)(h:eV aqD false new f args z)(hz:Pure z)(ht:aN aqD f z=true):CC f new args z:=mR.plain aa h hz ht
theorem CC.of{n:Nat}{new:Bool}{f:FuncId}{cB:ab}{args:List IV}{z:IV}{cfg:bj}(he:aI aqD cfg n new f=cB)(hl:(aqD.funcs[f]?).map (·.params.size)=some args.length)(ht:aN aqD f z=true)(hp:∀x∈args,Pure x)(hz:Pure z)
 (hs:cB.sat aqD CC (·=z) [] args):CC f new args z:=mR.plain (kG hl) (eV.nj mixed vD he hl hp hs) hz ht
theorem mR.row{n:Nat}{new:Bool}{f s:Nat}{es aB xs:List IV}(aa:f<n)(h0:BA aqD s f es xs aB):mR n (n+f) new (.tree s es::xs) (.tree s aB):=
 ⟨fun h=>(anx aa h).elim,fun g hg h=>by rw[ajq h];exact⟨s,es,xs,aB,rfl,rfl,h0⟩,fun g hg h=>(anz aa hg h).elim,fun g hg h=>(anA aa hg h).elim,fun g hg h=>(anB aa hg h).elim,fun g hg h=>(anC aa hg h).elim,fun g hg h=>(anD aa hg h).elim⟩
theorem CC.ofRow{n s:Nat}{f:FuncId}{cB:ab}{es aB xs:List IV}{cfg:bj}{new:Bool}(he:wO aqD cfg n s f=cB)(hl:(aqD.funcs[f]?).map (·.params.size)=some (xs.length+1))
 (hs:cB.sat aqD CC (·=.tree s aB) [] (.tree s es::xs)):CC (aqD.funcs.size+f) new (.tree s es::xs) (.tree s aB):=
 mR.row (kG hl) (BA.nj mixed vD he hl hs)
theorem mR.obj{n:Nat}{new:Bool}{f:Nat}{ins outs:List (List IV)}{xs:List IV}{z:IV}(aa:f<n)(ho:outs.map ari=ins.map ari)(hc:∀cs∈outs,∀u∈cs,af u=true)(h0:BC aqD f ins xs outs z):mR n (2*n+f) new (.agg (ins.map IV.agg)::xs) (.av (z::outs.map IV.agg)):=
 ⟨fun h=>(anE aa h).elim,fun g hg h=>(anF aa hg h).elim,fun g hg h=>by rw[ajr h];exact⟨ins,xs,outs,z,rfl,rfl,ho,hc,h0⟩,fun g hg h=>(anG aa hg h).elim,fun g hg h=>(anH aa hg h).elim,fun g hg h=>(anI aa hg h).elim,fun g hg h=>(anJ aa hg h).elim⟩
theorem CC.ajw{n:Nat}{f:FuncId}{cB:ab}{ins outs:List (List IV)}{xs:List IV}{z:IV}{cfg:bj}{new:Bool}(he:wP aqD cfg n (ins.map ari) f=cB)(hl:(aqD.funcs[f]?).map (·.params.size)=some (ins.length+xs.length))
 (ho:outs.map ari=ins.map ari)(hc:∀cs∈outs,∀u∈cs,af u=true)(hs:cB.sat aqD CC (·=.av (z::outs.map .agg)) [] (ins.flatten++xs)):CC (2*aqD.funcs.size+f) new (.agg (ins.map IV.agg)::xs) (.av (z::outs.map IV.agg)):=
 mR.obj (kG hl) ho hc (BC.nj mixed vD he hl hs)
theorem mR.Pz{n:Nat}{new:Bool}{f t:Nat}{z:IV}(aa:f<n)(h0:Dl aqD f t):mR n (3*n+f) new [.int t] z:=
 ⟨fun h=>(anK aa h).elim,fun g hg h=>(anL aa hg h).elim,fun g hg h=>(anM aa hg h).elim,fun g hg h=>by rw[ajs h];exact⟨t,rfl,h0⟩,fun g hg h=>(anN aa hg h).elim,fun g hg h=>(anO aa hg h).elim,fun g hg h=>(anP aa hg h).elim⟩
theorem mR.fresh{n:Nat}{new:Bool}{f:Nat}{xs es:List IV}(aa:f<n)(h0:jF aqD (cF aqD f) f xs es):mR n (4*n+f) new xs (.tree (cF aqD f) es):=
 ⟨fun h=>(anQ aa h).elim,fun g hg h=>(anR aa hg h).elim,fun g hg h=>(anS aa hg h).elim,fun g hg h=>(anT aa hg h).elim,fun g hg h=>by rw[ajt h];exact⟨es,rfl,h0⟩,fun g hg h=>(anU aa hg h).elim,fun g hg h=>(anV aa hg h).elim⟩
theorem mR.afQ{n:Nat}{new:Bool}{f:Nat}{xs ds:List IV}(aa:f<n)(h0:lF aqD f xs ds):mR n (5*n+f) new xs (.av ds):=
 ⟨fun h=>(anW aa h).elim,fun g hg h=>(anX aa hg h).elim,fun g hg h=>(anY aa hg h).elim,fun g hg h=>(anZ aa hg h).elim,fun g hg h=>(an0 aa hg h).elim,fun g hg h=>by rw[aju h];exact⟨ds,rfl,h0⟩,fun g hg h=>(an1 aa hg h).elim⟩
theorem mR.look{n:Nat}{new:Bool}{f:Nat}{xs ds:List IV}{z:IV}(aa:f<n)(h0:q6 aqD f ds xs z):mR n (6*n+f) new (.av ds::xs) z:=
 ⟨fun h=>(an2 aa h).elim,fun g hg h=>(an3 aa hg h).elim,fun g hg h=>(an4 aa hg h).elim,fun g hg h=>(an5 aa hg h).elim,fun g hg h=>(an6 aa hg h).elim,fun g hg h=>(an7 aa hg h).elim,fun g hg h=>by rw[ajv h];exact⟨ds,xs,rfl,h0⟩⟩
theorem VM:aqD.underlying 4=some .bool:=by kernel_rfl
@[simp] theorem apG(a b:Bool):c_ aqD .eql 4 (iB a) (iB b)=some (iB (a==b)):=ab9 _ _ VM a b
@[simp] theorem apH(a b:Bool):c_ aqD .neq 4 (iB a) (iB b)=some (iB (!(a==b))):=aje _ _ VM a b
abbrev Sm{α:Type}(l:List α):Prop:=l.length≤9223372036854775807
theorem az{i:Nat}{n:Nat}(h:i<n)(hn:n≤9223372036854775807):IntKind.i64.wrap ((i:Int)+1)=((i+1:Nat):Int):=by
 rw[dL (by omega) (by omega)];rfl
@[simp] theorem afR{l:List Int}{i:Nat}{x:Int}(h:l[i]?=some x):dx 1 (iL l) (iI (i:Nat))=some (iI x):=fZ (by simp[h]) rfl
end Go.Proofs.YtggffkaadeagbaaGreat
