/- A part of the proof, no condition: what the code of Retract and of the bounds computes; contracts. -/
import Derived.Test.YtggffkaadeagbaaGreatEvJ
import Derived.Test.YtggffkaadeagbaaGreatEvP
import Derived.Test.YtggffkaadeagbaaGreatProg
import Derived.KernelRfl
open Go.Proofs.Tryz renaming prog->asK
open List renaming mem_map->ath,length->atu
open Option renaming some->aa
open Bool renaming true->ab,false->af
set_option linter.all false
namespace Go.Proofs.YtggffkaadeagbaaGreat
open Go Go.Ev
def jB:List Nat:=[58,75,67,109,94,53,52,68,69,70,26,28,25,19,121,78,183,123,127,126,186,189,190,128,249,66,133,191,71,64,164,250,130,129,131,158,206,102,44,79,30,31,10,23,61,22,24,27,29,15,9]
def iw:List Nat:=[48,60,63,65,118,124,132,174,197,216,252,263,334]
def stops:List Nat:=[185,188,254]
def ZF:ak:=
 (Ge (oi 2 1 2 (wJ ej cZ ej zL qD) Jf))
def ahp:a_:=⟨jB,iw,stops,[⟨0,183,2,[(0,(8,0))],[],[],[]⟩],[]⟩
theorem akS:aH asK ahp 400 af 183=ZF:=by kernel_rfl
def adN:ak:=
 (Ge (xx dR bK dR (mW bK 2 bK 1 bw 2 (eC 3 (jn 1 cZ 2 (xx eS ej eS qD))))))
def akT:a_:=⟨jB,iw,stops,[⟨0,53,4,[(0,(5,0))],[],[],[]⟩],[]⟩
theorem apj:aH asK akT 400 af 53=adN:=by kernel_rfl
def ZH:ak:=
 (Ge (xx dR bK dR (uA bK 3 2 bK (K5 dR 3 2 dR 1 bw 2 (eC 3 (jn 1 cZ 2 (xx eS ej eS qD))) rm) rm)))
def ahq:a_:=⟨jB,iw,stops,[⟨0,164,4,[(0,(5,0))],[],[],[]⟩],[]⟩
theorem akU:aH asK ahq 400 af 164=ZH:=by kernel_rfl
def ZI:ak:=
 (od (qJ 0) .eql oh 1 rW (lI .eql 0 0 (oc 1) (pE 0 0 2 zR (oc 3))))
def ahr:a_:=⟨jB,iw,stops,[],[]⟩
theorem akV:aH asK ahr 400 af 250=ZI:=by kernel_rfl
def ZJ:ak:=
 (pA (oa cZ .lss bw cZ Jf (F6 .gtr 3 cZ (oc 1) rW)))
def ahs:a_:=⟨jB,iw,stops,[],[]⟩
theorem akW:aH asK ahs 400 af 130=ZJ:=by kernel_rfl
def ZK:ak:=
 (pA (B9 cZ .lss 9 bw cZ Jf (F6 .gtr 9 cZ (oc 1) rW)))
def aht:a_:=⟨jB,iw,stops,[],[]⟩
theorem akX:aH asK aht 400 af 129=ZK:=by kernel_rfl
def ZL:ak:=
 (qz (uA bK 3 2 bK (K5 dR 3 2 dR 4 bw 2 (mj 3 (jn 4 cZ 2 (mj 4 (kD 191 (gu 3 3 3 3) (gu 4 4 4 4) (qI gC .neq gC (.ret gC) qD))))) (cY bK dR (kD 130 bK dR (.nr ej)))) (cY bK dR (kD 130 bK dR (.nr ej)))))
def ahu:a_:=⟨jB,iw,stops,[⟨0,131,2,[(0,(5,0))],[],[],[]⟩],[]⟩
theorem akY:aH asK ahu 400 af 131=ZL:=by kernel_rfl
def ZM:ak:=
 (WM 4 4 (kh 250 (gu 0 0 0 0) 2 (kh 250 (gu 1 1 1 1) 3 (kD 130 cB ej (qI eS .neq eS (.ret eS) (jo 250 (gu 0 0 0 0) (j2 gC gC (lp 130 (zF 0 1 1) (.nr fD)) (kg .eql 3 gC (.i 1) (lp 130 (zF 0 1 1) (.nr fD)) (kg .eql 3 gC (.i 2) (cY kE ft (kD 130 kE ft (j2 fD fD (qH 129 0 2 1 2 (j2 kF kF (qH 131 0 3 1 3 (.nr pF)) (.ret kF))) (kg .eql 3 fD cx (qH 131 0 3 1 3 (.nr kF)) (.ret fD))))) (qH 130 0 0 1 0 (j2 fD fD (lp 130 (zF 0 1 1) (j2 kF kF (qH 129 0 2 1 2 (.nr pF)) (.ret kF))) (kg .eql 3 fD cx (qH 129 0 2 1 2 (.nr kF)) (.ret fD)))))))))))))
def ahv:a_:=⟨jB,iw,stops,[],[]⟩
theorem akZ:aH asK ahv 400 af 191=ZM:=by kernel_rfl
def adO:ak:=
 (uD 2 (qH 129 0 0 1 0 (j2 cB cB (cY eY lE (kD 130 eY lE (j2 ej ej (lp 131 (zF 0 1 1) (.nr eS)) (.ret ej)))) (kg .eql 3 cB cx (lp 131 (zF 0 1 1) (.nr ej)) (.ret cB)))))
def ak0:a_:=⟨jB,iw,stops,[],[]⟩
theorem apk:aH asK ak0 400 af 71=adO:=by kernel_rfl
def adP:ak:=
 (uD 2 (kD 71 lH (Cd 1 1) (eC 2 (.nr (Cu cB)))))
def ak1:a_:=⟨jB,iw,stops,[],[]⟩
theorem apl:aH asK ak1 400 af 64=adP:=by kernel_rfl
def ZN:ak:=
 (mj 0 (wJ (qJ 1) oh uw (kD 64 (n_ 0 1 0 2) (n_ 1 1 1 2) (uC cB (qH 164 0 3 1 3 (.nr ej)))) bf))
def ahw:a_:=⟨jB,iw,stops,[],[]⟩
theorem ak2:aH asK ahw 400 af 109=ZN:=by kernel_rfl
def adQ:ak:=
 (Ge (xx dR bK dR (mW bK 2 bK 4 bw 2 (mj 3 (jn 4 cZ 2 (mj 4 (kD 109 (gu 3 3 3 3) (gu 4 4 4 4) (r_ 5 5 0 2))))))))
def ak3:a_:=⟨jB,iw,stops,[⟨0,52,4,[(0,(5,0))],[],[],[]⟩],[]⟩
theorem apm:aH asK ak3 400 af 52=adQ:=by kernel_rfl
def adR:ak:=
 (WM 5 5 (qH 52 0 0 1 0 (vw 2 2 (zS 52 (zF 0 1 1) 3 3 (HW .neq 0 3 me bf (HW .neq 0 4 vy bf (.aS jA (xx jb jA jb (mW jA 4 jA 6 xr 4 (lq 6 5 (jn 6 uj 4 (xx (lS 6 6) (dU 5) zQ (abR .neq 4 5 4 (jH 6 4) bf (zS 53 (zF 5 1 6) 7 7 (qH 53 5 2 6 2 (vw 8 8 (qH 53 5 3 6 3 (vw 9 9 (qH 53 5 5 6 5 (r_ 10 10 0 4))))))))))))))))))))
def ak4:a_:=⟨jB,iw,stops,[⟨0,19,4,[(0,(5,0))],[],[],[]⟩],[]⟩
theorem apn:aH asK ak4 400 af 19=adR:=by kernel_rfl
def ZO:ak:=
 (od (qJ 0) .eql oh 2 (.ret (jH 0 3)) (.ret mD))
def ahx:a_:=⟨jB,iw,stops,[],[]⟩
theorem ak5:aH asK ahx 400 af 206=ZO:=by kernel_rfl
def ZP:ak:=
 (pD 4 0 206 0 0 0 0 (eC 1 (j9 (.i 1) dR 2 dR 4 cZ 2 (pD 4 4 158 4 4 4 4 (zU (WK 3 gC) (pC 0 2 (WK 3 gC)))) (.ret qG))))
def ahy:a_:=⟨jB,iw,stops,[⟨0,158,4,[(0,(3,0)),(0,(5,0))],[],[],[]⟩],[]⟩
theorem ak6:aH asK ahy 400 af 158=ZP:=by kernel_rfl
def ZQ:ak:=
 (pA (fC bK bK 8 (j9 cx bK 1 bK 4 bw 1 (pD 4 3 158 3 3 3 3 (eC 4 (fC (Gf eS) (Gf eS) 60 (pC 0 1 (Gf eS))))) rm)))
def ahz:a_:=⟨jB,iw,stops,[⟨0,102,5,[(0,(3,0)),(0,(4,0))],[],[],[]⟩],[]⟩
theorem ak7:aH asK ahz 400 af 102=ZQ:=by kernel_rfl
def adS:ak:=
 (pA (mW bK 1 bK 2 bw 1 (gB 2 2 102 vI (r_ 3 3 0 1))))
def ak8:a_:=⟨jB,iw,stops,[⟨0,44,2,[(0,(3,0))],[],[],[]⟩],[]⟩
theorem apo:aH asK ak8 400 af 44=adS:=by kernel_rfl
def ZR:ak:=
 (pA (fv bK 1 bK 2 bw 1 (gB 2 2 102 vI (lU 3 3 Ch 0 1)) Gc))
def ahA:a_:=⟨jB,iw,stops,[⟨0,44,2,[(0,(3,0))],[],[],[]⟩],[]⟩
theorem ak9:aH asK ahA 400 ab 44=ZR:=by kernel_rfl
def adT:ak:=
 (pA (fC bK bK 9 (mW bK 1 bK 4 bw 1 (mj 2 (fC pB pB 20 (jn 4 bw 1 (mj 3 (iD 44 (iC (Ol 2 (n_ 3 1 3 2))) (r_ 4 4 0 1)))))))))
def ak_:a_:=⟨jB,iw,stops,[⟨0,31,4,[(0,(3,0))],[],[],[]⟩],[]⟩
theorem apq:aH asK ak_ 400 af 31=adT:=by kernel_rfl
def adU:ak:=
 (uD 5 (uo 30 lH 2 2 (uo 31 uw 3 3 (uo 31 rY 4 4 (fC jb jb 12 (mW jb 5 jb 6 uj 5 (lq 6 6 (fC (jZ 6) (jZ 6) 8 (fC (fQ 6) (fQ 6) 8 (fC (xj 6) (xj 6) 20 (fC (Ja 6 5) (Ja 6 5) 20 (F8 5))))))))))))
def ala:a_:=⟨jB,iw,stops,[⟨0,10,4,[(0,(5,0))],[],[],[]⟩],[]⟩
theorem apr:aH asK ala 400 af 10=adU:=by kernel_rfl
end Go.Proofs.YtggffkaadeagbaaGreat
namespace Go.Proofs.YtggffkaadeagbaaGreat
open Go Go.Ev
inductive Tm where
 |mk (k n:Int) (s:List UInt8) (ts:List Tm)
mutual
def c7:Tm->IV
 |.mk k n s ts=>.agg [iI k,iI n,iS s,.tree 4 (Ov ts)]
def Ov:List Tm->List IV
 |[]=>[]
 |t::ts=>c7 t::Ov ts
end
theorem Nc:∀l:List Tm,Ov l=l.map c7
 |[]=>rfl
 |t::l=>by simp[Ov,Nc l]
structure At where
 s:List UInt8
 ts:List Tm
structure Fa where
 id:Int
 a:At
 j:List Int
structure Ap where
 rule:Int
 bA:List Int
 gone:List Int
 made:List Int
 failed:Bool
 fA:List Int
structure Me where
 facts:List Fa
 past:List Fa
 log:List Ap
 next:Int
 given:Int
abbrev iT(l:List Tm):IV:=.tree 4 (l.map c7)
def qd(a:At):IV:=.agg [iS a.s,iT a.ts]
def ef(f:Fa):IV:=.agg [iI f.id,iS f.a.s,iT f.a.ts,iL f.j]
def kI(x:Ap):IV:=.agg [iI x.rule,iL x.bA,iL x.gone,iL x.made,iB x.failed,iL x.fA]
abbrev gL(l:List Fa):IV:=.tree 4 (l.map ef)
abbrev h_(l:List At):IV:=.tree 2 (l.map qd)
abbrev Fb(l:List Ap):IV:=.tree 6 (l.map kI)
def dr(m:Me):IV:=.agg [gL m.facts,gL m.past,Fb m.log,iI m.next,iI m.given]
theorem vi(k n:Int)(s:List UInt8)(ts:List Tm):c7 (.mk k n s ts)=.agg [iI k,iI n,iS s,iT ts]:=by simp[c7,Nc]
@[simp] theorem aps(v:Value):Pure (.raw v):=.raw v
@[simp] theorem Bp(l:List Int):Pure (iL l):=by
  refine .tree 1 _ λe he c hc=>?_;obtain⟨x,_,rfl⟩:=ath.1 he;simp[cellsOf]at hc;subst hc;exact .raw _
theorem kU:∀t:Tm,Pure (c7 t)
 |.mk k n s ts=>by
  rw[vi];refine .agg _ λc hc=>?_;simp at hc;rcases hc with rfl|rfl|rfl|rfl
  ·exact .raw _
  ·exact .raw _
  ·exact .raw _
  ·refine .tree 4 _ λe he c hc=>?_;obtain⟨x,hx,rfl⟩:=ath.1 he;have:=kU x;obtain⟨k',n',s',ts'⟩:=x;rw[vi]at this hc;cases this with
   |agg _ h=>exact h c hc
 decreasing_by simp_wf;have:=List.sizeOf_lt_of_mem hx;omega
theorem qe{α:Type}(s:Nat)(enc:α->IV)(h:∀a,∃cs,enc a=.agg cs/\∀c∈cs,Pure c)(l:List α):Pure (.tree s (l.map enc)):=by
 refine .tree s _ λe he c hc=>?_;obtain⟨x,_,rfl⟩:=ath.1 he;obtain⟨cs,h1,h2⟩:=h x;rw[h1]at hc;exact h2 c hc
@[simp] theorem arH(l:List Tm):Pure (iT l):=qe 4 c7 (λt=>by
  have:=kU t;obtain⟨k',n',s',ts'⟩:=t;rw[vi]at this⊢;cases this with
  |agg _ h=>exact⟨_,rfl,h⟩) l
theorem wB(a:At):Pure (qd a):=.agg _ (by simp)
theorem Fc(a:Fa):Pure (ef a):=.agg _ (by simp)
theorem ZS(a:Ap):Pure (kI a):=.agg _ (by simp)
@[simp] theorem QH(l:List Fa):Pure (gL l):=qe 4 ef (λa=>⟨_,rfl,by simp⟩) l
@[simp] theorem C3(l:List At):Pure (h_ l):=qe 2 qd (λa=>⟨_,rfl,by simp⟩) l
@[simp] theorem apt(l:List Ap):Pure (Fb l):=qe 6 kI (λa=>⟨_,rfl,by simp⟩) l
theorem iQ(m:Me):Pure (dr m):=.agg _ (by simp)
def nP(n:Nat):Cr:=λf new xs z=>(f<n->fm asK af new f xs z/\Pure z/\aO asK f z=ab)/\
 (∀g,g<n->f=n+g->∃s es oD aF,xs=.tree s es::oD/\z=.tree s aF/\CK asK s g es oD aF)/\
 (∀g,g<n->f=2*n+g->∃ins oD outs z0,xs=.agg (ins.map IV.agg)::oD/\z=.az (z0::outs.map IV.agg)/\outs.map atu=ins.map atu/\(∀cs∈outs,∀u∈cs,aj u=ab)/\CM asK g ins oD outs z0)/\
 (∀g,g<n->f=3*n+g->∃t:Nat,xs=[.int t]/\Es asK g t)/\
 (∀g,g<n->f=4*n+g->∃es,z=.tree (cP asK g) es/\kb asK (cP asK g) g xs es)/\
 (∀g,g<n->f=5*n+g->∃ds,z=.az ds/\mq asK g xs ds)/\
 ∀g,g<n->f=6*n+g->∃ds oD,xs=.az ds::oD/\sg asK g ds oD z
def CC:Cr:=nP asK.funcs.size
theorem wM:jr asK CC:=λ_ _ _ _ h=>h
theorem mixed:asK.follows .mixedOrders=ab:=by kernel_rfl
theorem lx{f n:Nat}(hl:(asK.funcs[f]?).map (·.params.size)=aa n):f<asK.funcs.size:=by
 cases h:asK.funcs[f]? with
 |none=>rw[h]at hl;cases hl
 |some _=>exact(Array.getElem?_eq_some_iff.1 h).1
theorem apu{n a g:Nat}(ha:a<n)(hg:g<n)(h:a=n+g):False:=by omega
theorem apv{n a g:Nat}(ha:a<n)(hg:g<n)(h:a=2*n+g):False:=by omega
theorem apw{n a g:Nat}(ha:a<n)(hg:g<n)(h:a=3*n+g):False:=by omega
theorem apx{n a g:Nat}(ha:a<n)(hg:g<n)(h:a=4*n+g):False:=by omega
theorem apy{n a g:Nat}(ha:a<n)(hg:g<n)(h:a=5*n+g):False:=by omega
theorem apz{n a g:Nat}(ha:a<n)(hg:g<n)(h:a=6*n+g):False:=by omega
theorem apA{n a:Nat}(ha:a<n)(h:n+a<n):False:=by omega
theorem apB{n a g:Nat}(ha:a<n)(hg:g<n)(h:n+a=2*n+g):False:=by omega
theorem apC{n a g:Nat}(ha:a<n)(hg:g<n)(h:n+a=3*n+g):False:=by omega
theorem apD{n a g:Nat}(ha:a<n)(hg:g<n)(h:n+a=4*n+g):False:=by omega
theorem apE{n a g:Nat}(ha:a<n)(hg:g<n)(h:n+a=5*n+g):False:=by omega
theorem apF{n a g:Nat}(ha:a<n)(hg:g<n)(h:n+a=6*n+g):False:=by omega
theorem alb{n a g:Nat}(h:n+a=n+g):g=a:=by omega
theorem apG{n a:Nat}(ha:a<n)(h:2*n+a<n):False:=by omega
theorem apH{n a g:Nat}(ha:a<n)(hg:g<n)(h:2*n+a=n+g):False:=by omega
theorem apI{n a g:Nat}(ha:a<n)(hg:g<n)(h:2*n+a=3*n+g):False:=by omega
theorem apJ{n a g:Nat}(ha:a<n)(hg:g<n)(h:2*n+a=4*n+g):False:=by omega
theorem apK{n a g:Nat}(ha:a<n)(hg:g<n)(h:2*n+a=5*n+g):False:=by omega
theorem apL{n a g:Nat}(ha:a<n)(hg:g<n)(h:2*n+a=6*n+g):False:=by omega
theorem alc{n a g:Nat}(h:2*n+a=2*n+g):g=a:=by omega
theorem apM{n a:Nat}(ha:a<n)(h:3*n+a<n):False:=by omega
theorem apN{n a g:Nat}(ha:a<n)(hg:g<n)(h:3*n+a=n+g):False:=by omega
theorem apO{n a g:Nat}(ha:a<n)(hg:g<n)(h:3*n+a=2*n+g):False:=by omega
theorem apP{n a g:Nat}(ha:a<n)(hg:g<n)(h:3*n+a=4*n+g):False:=by omega
theorem apQ{n a g:Nat}(ha:a<n)(hg:g<n)(h:3*n+a=5*n+g):False:=by omega
theorem apR{n a g:Nat}(ha:a<n)(hg:g<n)(h:3*n+a=6*n+g):False:=by omega
theorem ald{n a g:Nat}(h:3*n+a=3*n+g):g=a:=by omega
theorem apS{n a:Nat}(ha:a<n)(h:4*n+a<n):False:=by omega
theorem apT{n a g:Nat}(ha:a<n)(hg:g<n)(h:4*n+a=n+g):False:=by omega
theorem apU{n a g:Nat}(ha:a<n)(hg:g<n)(h:4*n+a=2*n+g):False:=by omega
theorem apV{n a g:Nat}(ha:a<n)(hg:g<n)(h:4*n+a=3*n+g):False:=by omega
theorem apW{n a g:Nat}(ha:a<n)(hg:g<n)(h:4*n+a=5*n+g):False:=by omega
theorem apX{n a g:Nat}(ha:a<n)(hg:g<n)(h:4*n+a=6*n+g):False:=by omega
theorem ale{n a g:Nat}(h:4*n+a=4*n+g):g=a:=by omega
theorem apY{n a:Nat}(ha:a<n)(h:5*n+a<n):False:=by omega
theorem apZ{n a g:Nat}(ha:a<n)(hg:g<n)(h:5*n+a=n+g):False:=by omega
theorem ap0{n a g:Nat}(ha:a<n)(hg:g<n)(h:5*n+a=2*n+g):False:=by omega
theorem ap1{n a g:Nat}(ha:a<n)(hg:g<n)(h:5*n+a=3*n+g):False:=by omega
theorem ap2{n a g:Nat}(ha:a<n)(hg:g<n)(h:5*n+a=4*n+g):False:=by omega
theorem ap3{n a g:Nat}(ha:a<n)(hg:g<n)(h:5*n+a=6*n+g):False:=by omega
theorem alf{n a g:Nat}(h:5*n+a=5*n+g):g=a:=by omega
theorem ap4{n a:Nat}(ha:a<n)(h:6*n+a<n):False:=by omega
theorem ap5{n a g:Nat}(ha:a<n)(hg:g<n)(h:6*n+a=n+g):False:=by omega
theorem ap6{n a g:Nat}(ha:a<n)(hg:g<n)(h:6*n+a=2*n+g):False:=by omega
theorem ap7{n a g:Nat}(ha:a<n)(hg:g<n)(h:6*n+a=3*n+g):False:=by omega
theorem ap8{n a g:Nat}(ha:a<n)(hg:g<n)(h:6*n+a=4*n+g):False:=by omega
theorem ap9{n a g:Nat}(ha:a<n)(hg:g<n)(h:6*n+a=5*n+g):False:=by omega
theorem alg{n a g:Nat}(h:6*n+a=6*n+g):g=a:=by omega
theorem nP.plain{n:Nat}{new:Bool}{f:FuncId}{args:List IV}{z:IV}(ai:f<n)(h0:fm asK af new f args z)(hz:Pure z)(ht:aO asK f z=ab):nP n f new args z:=
 ⟨λ_=>⟨h0,hz,ht⟩,λg hg h=>(apu ai hg h).elim,λg hg h=>(apv ai hg h).elim,λg hg h=>(apw ai hg h).elim,λg hg h=>(apx ai hg h).elim,λg hg h=>(apy ai hg h).elim,λg hg h=>(apz ai hg h).elim⟩
theorem CC.plain{new:Bool}{f:FuncId}{args:List IV}{z:IV}(ai:f<asK.funcs.size)(h:fm asK af new f args z)(hz:Pure z)(ht:aO asK f z=ab):CC f new args z:=nP.plain ai h hz ht
theorem CC.of{n:Nat}{new:Bool}{f:FuncId}{cK:ak}{args:List IV}{z:IV}{cfg:a_}(he:aH asK cfg n new f=cK)(hl:(asK.funcs[f]?).map (·.params.size)=aa args.length)(ht:aO asK f z=ab)(hp:∀x∈args,Pure x)(hz:Pure z)
 (hs:cK.sat asK CC (·=z) [] args):CC f new args z:=nP.plain (lx hl) (fm.oj mixed wM he hl hp hs) hz ht
theorem nP.row{n:Nat}{new:Bool}{f s:Nat}{es aF xs:List IV}(ai:f<n)(h0:CK asK s f es xs aF):nP n (n+f) new (.tree s es::xs) (.tree s aF):=
 ⟨λh=>(apA ai h).elim,λg hg h=>by rw[alb h];exact⟨s,es,xs,aF,rfl,rfl,h0⟩,λg hg h=>(apB ai hg h).elim,λg hg h=>(apC ai hg h).elim,λg hg h=>(apD ai hg h).elim,λg hg h=>(apE ai hg h).elim,λg hg h=>(apF ai hg h).elim⟩
theorem CC.ofRow{n s:Nat}{f:FuncId}{cK:ak}{es aF xs:List IV}{cfg:a_}{new:Bool}(he:xU asK cfg n s f=cK)(hl:(asK.funcs[f]?).map (·.params.size)=aa (xs.length+1))
 (hs:cK.sat asK CC (·=.tree s aF) [] (.tree s es::xs)):CC (asK.funcs.size+f) new (.tree s es::xs) (.tree s aF):=
 nP.row (lx hl) (CK.oj mixed wM he hl hs)
theorem nP.obj{n:Nat}{new:Bool}{f:Nat}{ins outs:List (List IV)}{xs:List IV}{z:IV}(ai:f<n)(ho:outs.map atu=ins.map atu)(hc:∀cs∈outs,∀u∈cs,aj u=ab)(h0:CM asK f ins xs outs z):nP n (2*n+f) new (.agg (ins.map IV.agg)::xs) (.az (z::outs.map IV.agg)):=
 ⟨λh=>(apG ai h).elim,λg hg h=>(apH ai hg h).elim,λg hg h=>by rw[alc h];exact⟨ins,xs,outs,z,rfl,rfl,ho,hc,h0⟩,λg hg h=>(apI ai hg h).elim,λg hg h=>(apJ ai hg h).elim,λg hg h=>(apK ai hg h).elim,λg hg h=>(apL ai hg h).elim⟩
theorem CC.alh{n:Nat}{f:FuncId}{cK:ak}{ins outs:List (List IV)}{xs:List IV}{z:IV}{cfg:a_}{new:Bool}(he:xV asK cfg n (ins.map atu) f=cK)(hl:(asK.funcs[f]?).map (·.params.size)=aa (ins.length+xs.length))
 (ho:outs.map atu=ins.map atu)(hc:∀cs∈outs,∀u∈cs,aj u=ab)(hs:cK.sat asK CC (·=.az (z::outs.map .agg)) [] (ins.flatten++xs)):CC (2*asK.funcs.size+f) new (.agg (ins.map IV.agg)::xs) (.az (z::outs.map IV.agg)):=
 nP.obj (lx hl) ho hc (CM.oj mixed wM he hl hs)
theorem nP.QG{n:Nat}{new:Bool}{f t:Nat}{z:IV}(ai:f<n)(h0:Es asK f t):nP n (3*n+f) new [.int t] z:=
 ⟨λh=>(apM ai h).elim,λg hg h=>(apN ai hg h).elim,λg hg h=>(apO ai hg h).elim,λg hg h=>by rw[ald h];exact⟨t,rfl,h0⟩,λg hg h=>(apP ai hg h).elim,λg hg h=>(apQ ai hg h).elim,λg hg h=>(apR ai hg h).elim⟩
theorem nP.fresh{n:Nat}{new:Bool}{f:Nat}{xs es:List IV}(ai:f<n)(h0:kb asK (cP asK f) f xs es):nP n (4*n+f) new xs (.tree (cP asK f) es):=
 ⟨λh=>(apS ai h).elim,λg hg h=>(apT ai hg h).elim,λg hg h=>(apU ai hg h).elim,λg hg h=>(apV ai hg h).elim,λg hg h=>by rw[ale h];exact⟨es,rfl,h0⟩,λg hg h=>(apW ai hg h).elim,λg hg h=>(apX ai hg h).elim⟩
theorem nP.ahB{n:Nat}{new:Bool}{f:Nat}{xs ds:List IV}(ai:f<n)(h0:mq asK f xs ds):nP n (5*n+f) new xs (.az ds):=
 ⟨λh=>(apY ai h).elim,λg hg h=>(apZ ai hg h).elim,λg hg h=>(ap0 ai hg h).elim,λg hg h=>(ap1 ai hg h).elim,λg hg h=>(ap2 ai hg h).elim,λg hg h=>by rw[alf h];exact⟨ds,rfl,h0⟩,λg hg h=>(ap3 ai hg h).elim⟩
theorem nP.look{n:Nat}{new:Bool}{f:Nat}{xs ds:List IV}{z:IV}(ai:f<n)(h0:sg asK f ds xs z):nP n (6*n+f) new (.az ds::xs) z:=
 ⟨λh=>(ap4 ai h).elim,λg hg h=>(ap5 ai hg h).elim,λg hg h=>(ap6 ai hg h).elim,λg hg h=>(ap7 ai hg h).elim,λg hg h=>(ap8 ai hg h).elim,λg hg h=>(ap9 ai hg h).elim,λg hg h=>by rw[alg h];exact⟨ds,xs,rfl,h0⟩⟩
theorem Xk:asK.underlying 4=aa .bool:=by kernel_rfl
@[simp] theorem arO(a b:Bool):dt asK .eql 4 (iB a) (iB b)=aa (iB (a==b)):=adM _ _ Xk a b
@[simp] theorem arP(a b:Bool):dt asK .neq 4 (iB a) (iB b)=aa (iB (!(a==b))):=akP _ _ Xk a b
abbrev Sm{α:Type}(l:List α):Prop:=l.length<=9223372036854775807
theorem aD{i:Nat}{n:Nat}(h:i<n)(hn:n<=9223372036854775807):IntKind.i64.wrap ((i:Int)+1)=((i+1:Nat):Int):=by
 rw[cQ (by omega) (by omega)];rfl
@[simp] theorem ahC{l:List Int}{i:Nat}{x:Int}(h:l[i]?=aa x):dy 1 (iL l) (iI (i:Nat))=aa (iI x):=fw (by simp[h]) rfl
end Go.Proofs.YtggffkaadeagbaaGreat
