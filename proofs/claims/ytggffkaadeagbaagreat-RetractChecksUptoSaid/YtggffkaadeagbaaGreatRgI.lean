/- A part of the proof, no condition: the checks of the reference come to an end, rules and programs. -/
import Derived.Test.YtggffkaadeagbaaGreatRgA
import Derived.Test.YtggffkaadeagbaaGreatEvJ
import Derived.Test.YtggffkaadeagbaaGreatRgF
open Go.Proofs.Tryz renaming prog->aqD
set_option linter.all false
namespace Go.Proofs.YtggffkaadeagbaaGreat
open Go Go.Ev
theorem adY(x:Tm):∃cs,dB x=.agg cs∧cs.length=4∧cs.all af=true:=⟨_,cI x,rfl,rfl⟩
theorem VX{a b:List Tm}(h:a.length+b.length≤1000):jM 4 56 (iT a) (iT b)=some (iT (a++b)):=by
 have h2:=BS (s:=4) (enc:=dB) adY b;simp[jM,h2];omega
theorem Ha{l:List Rl}{i:Nat}(h:i<l.length):dx 6 (xN l) (iI (i:Nat))=some (.agg [iS l[i].name,mP l[i].keep,mP l[i].remove,qL l[i].guard,qL l[i].body,iI l[i].vars]):=fZ (by simp[h,oc]) rfl
theorem dC{l:List Int}{i:Nat}(h:i<l.length):dx 1 (iL l) (iI (i:Nat))=some (iI l[i]):=afR (by simp[h])
structure IW(r:Rl):Prop where
 h:r.keep.length+r.remove.length≤3
 g:r.guard.length≤6
 b:r.body.length≤6
 hs:∀a∈r.keep++r.remove,a.ts.length≤8
 gs:∀a∈r.guard++r.body,a.ts.length≤8
structure IX(r:Rl):Prop where
 n:Sm r.name
 hs:∀a∈r.keep++r.remove,rZ a
 gs:∀a∈r.guard++r.body,r6 a
def WF(t:Tm):Prop:=vO t∧dm t
structure An(r:Rl):Prop where
 hs:∀a∈r.keep++r.remove,∀t∈a.ts,WF t
 gs:∀a∈r.guard++r.body,(a.op≠0→gu a.op=a.ts.length)∧∀t∈a.ts,WF t
theorem n203:(aqD.funcs[203]?).map (·.params.size)=some 1:=by kernel_rfl
theorem t203(z:IV):aN aqD 203 z=true:=by kernel_rfl
theorem n153:(aqD.funcs[153]?).map (·.params.size)=some 1:=by kernel_rfl
theorem t153(z:IV):aN aqD 153 z=true:=by kernel_rfl
theorem n154:(aqD.funcs[154]?).map (·.params.size)=some 2:=by kernel_rfl
theorem t154(z:IV):aN aqD 154 z=true:=by kernel_rfl
theorem xO(a b:Int):c_ aqD .neq 31 (iI a) (iI b)=some (iB (a !=b)):=rfl
end Go.Proofs.YtggffkaadeagbaaGreat
namespace Go.Proofs.YtggffkaadeagbaaGreat
open Go Go.Ev
def gH(p:Int→Prop)(z:IV):Prop:=∃b:Int,z=iI b∧p b
@[simp] theorem apB(p:Int→Prop)(b:Int):gH p (iI b)↔p b:=⟨fun⟨b',h1,h2⟩=>by cases h1;exact h2,fun h=>⟨b,rfl,h⟩⟩
theorem CC.Ki{n:Nat}{new:Bool}{f:FuncId}{cB:ab}{args:List IV}{cfg:bj}(p:Int→Prop)(he:aI aqD cfg n new f=cB)(hl:(aqD.funcs[f]?).map (·.params.size)=some args.length)(ht:∀z,aN aqD f z=true)(hp:∀x∈args,Pure x)(hn:noTwo cB=true)
 (hs:cB.sat aqD CC (gH p) [] args):∃b,p b∧CC f new args (iI b):=by
 obtain⟨z,⟨b,rfl,hb⟩,h2⟩:=CC.tot he hl (fun z _=>ht z) hp (by rintro _ ⟨b,rfl,_⟩;exact .raw _) hn hs;exact⟨b,hb,h2⟩
def ags(p:Int→Prop)(z:IV):Prop:=∃a b:Int,z=.av [iI a,iI b]∧p b
@[simp] theorem apC(p:Int→Prop)(a b:Int):ags p (.av [iI a,iI b])↔p b:=⟨fun⟨a',b',h1,h2⟩=>by cases h1;exact h2,fun h=>⟨a,b,rfl,h⟩⟩
theorem CC.agt{n:Nat}{new:Bool}{f:FuncId}{cB:ab}{args:List IV}{cfg:bj}(p:Int→Prop)(he:aI aqD cfg n new f=cB)(hl:(aqD.funcs[f]?).map (·.params.size)=some args.length)(ht:∀a b,aN aqD f (.av [iI a,iI b])=true)(hp:∀x∈args,Pure x)(hn:noTwo cB=true)
 (hs:cB.sat aqD CC (ags p) [] args):∃a b,p b∧CC f new args (.av [iI a,iI b]):=by
 obtain⟨z,⟨a,b,rfl,hb⟩,h2⟩:=CC.tot he hl (by rintro _ ⟨a,b,rfl,_⟩;exact ht a b) hp (by rintro _ ⟨a,b,rfl,_⟩;exact .av _ (by simp)) hn hs;exact⟨a,b,hb,h2⟩
theorem n90:(aqD.funcs[90]?).map (·.params.size)=some 2:=by kernel_rfl
theorem t90(z:IV):aN aqD 90 z=true:=by kernel_rfl
theorem IX.for{r:Rl}(hn:IX r)(h1:∀a∈r.keep++r.remove,∀t∈a.ts,dm t)(h2:∀a∈r.guard++r.body,(a.op≠0→gu a.op=a.ts.length)∧∀t∈a.ts,dm t):An r:=
 ⟨fun a ha t ht=>⟨((hn.hs a ha).2.2 t ht).wf,h1 a ha t ht⟩,fun a ha=>⟨(h2 a ha).1,fun t ht=>⟨((hn.gs a ha).2.2 t ht).wf,(h2 a ha).2 t ht⟩⟩⟩
end Go.Proofs.YtggffkaadeagbaaGreat
namespace Go.Proofs.YtggffkaadeagbaaGreat
open Go Go.Ev
def YI:List Nat:=[123,127,126,186,189,44,79,30,102,9,10,23,31,15,257,149,89,148,198,147,199,50,191,71,214,93,163,49,152,64,164,158,95,108,206,250,213,130,131,107,129,155,34,90,51,202,153,201,200,151,203,150,204,154,91,41,67,101,99,109,157,210,12,26,28,25,14,19,100,40,39,70,69,35,53,52,68,42,58,75,24,27,22,29,61,190,66,133,128,249,121,78,183]
def YJ:List Nat:=[48,60,63,65,92,94,118,124,132,174,197,205,216,252,263,334]
def YK:List Nat:=[185,188,254]
def YL:List Nat:=[155]
def Qa:ab:=
 (fA cj 2 cj 1 bt 2 (eZ 3 (lN 1 dy 2 (rp fz .neq g_ fz A7 ta))) E9)
def YM:ab:=
 (M7 (rp gD .neq cj gD A7 Qa))
def agu:bj:=⟨YI,YJ,YK,[⟨0,53,4,[(0,(5,0))],[],[],[]⟩],YL⟩
theorem akF:aI aqD agu 400 true 53=YM:=by kernel_rfl
def Qb:ab:=
 (fA cj 3 cj 2 bt 3 (tq 2 4 9 4 dy (lN 2 bt 3 (vA (lM 2 5) (i_ 5) dQ E9 yJ)) yJ) A7)
def YN:ab:=
 (qT (eZ 2 Qb))
def agv:bj:=⟨YI,YJ,YK,[⟨0,51,2,[(0,(7,0))],[],[],[]⟩],YL⟩
theorem akG:aI aqD agv 400 true 51=YN:=by kernel_rfl
end Go.Proofs.YtggffkaadeagbaaGreat
namespace Go.Proofs.YtggffkaadeagbaaGreat
open Go Go.Ev
structure Ao(p:Pg):Prop where
 d:p.decls.length≤12
 r:p.rules.length≤8
 dn:∀d∈p.decls,Sm d.s
 rs:∀r∈p.rules,IW r
 rn:∀r∈p.rules,IX r
theorem akH{L:List De}{l:Nat}(h1:l≤L.length):mu 2 (eI L) (iI 0) (iI (l:Nat))=some (eI (L.take l)):=by
 simp[mu,gC,h1,List.map_take]
theorem n34:(aqD.funcs[34]?).map (·.params.size)=some 1:=by kernel_rfl
theorem t34(a b:Int):aN aqD 34 (.av [iI a,iI b])=true:=by kernel_rfl
end Go.Proofs.YtggffkaadeagbaaGreat
namespace Go.Proofs.YtggffkaadeagbaaGreat
open Go Go.Ev
theorem nO{a b:List Int}(h:a.length+b.length≤1000000000):jM 1 8 (iL a) (iL b)=some (iL (a++b)):=by
 have h2:iN 1 (b.map iI)=true:=by
  unfold iN;rw[List.all_eq_true];intro e he;obtain⟨x,_,rfl⟩:=List.mem_map.1 he;rfl
 simp[jM,h2];omega
theorem n95:(aqD.funcs[95]?).map (·.params.size)=some 1:=by kernel_rfl
theorem t95(z:IV):aN aqD 95 z=true:=by kernel_rfl
theorem n35:(aqD.funcs[35]?).map (·.params.size)=some 1:=by kernel_rfl
theorem t35(z:IV):aN aqD 35 z=true:=by kernel_rfl
section rule
variable{Q:IV→Prop}{k0 k1 k2 k3 k4 k5:List IV→Prop}
end rule
theorem n12:(aqD.funcs[12]?).map (·.params.size)=some 1:=by kernel_rfl
theorem t12(z:IV):aN aqD 12 z=true:=by kernel_rfl
end Go.Proofs.YtggffkaadeagbaaGreat
