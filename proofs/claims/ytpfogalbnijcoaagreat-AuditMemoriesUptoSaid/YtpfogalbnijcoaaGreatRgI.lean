/- A part of the proof, no condition: the checks of the reference come to an end, rules and programs. -/
import Derived.Test.YtpfogalbnijcoaaGreatRgA
import Derived.Test.YtpfogalbnijcoaaGreatEvJ
import Derived.Test.YtpfogalbnijcoaaGreatRgF
open Go.Proofs.Tryz renaming prog->ar1
open Option renaming some->aa
open Bool renaming true->ab
set_option linter.all false
namespace Go.Proofs.YtpfogalbnijcoaaGreat
open Go Go.Ev
theorem aeS(x:Tm):∃cs,dH x=.agg cs/\cs.length=4/\cs.all aj=ab:=⟨_,cL x,rfl,rfl⟩
theorem WS{a b:List Tm}(h:a.length+b.length<=1000):j2 4 56 (iT a) (iT b)=aa (iT (a++b)):=by
 have h2:=CL (s:=4) (enc:=dH) aeS b;simp[j2,h2];omega
theorem yM{l:List Rl}{i:Nat}(h:i<l.length):dD 6 (nj l) (iI (i:Nat))=aa (.agg [iS l[i].name,nf l[i].keep,nf l[i].remove,rf l[i].guard,rf l[i].body,iI l[i].vars]):=gj (by simp[h,gO]) rfl
theorem dI{l:List Int}{i:Nat}(h:i<l.length):dD 1 (iL l) (iI (i:Nat))=aa (iI l[i]):=agN (by simp[h])
structure Ju(r:Rl):Prop where
 h:r.keep.length+r.remove.length<=3
 g:r.guard.length<=6
 b:r.body.length<=6
 hs:∀a∈r.keep++r.remove,a.ts.length<=8
 gs:∀a∈r.guard++r.body,a.ts.length<=8
structure Jv(r:Rl):Prop where
 n:Sm r.name
 hs:∀a∈r.keep++r.remove,sL a
 gs:∀a∈r.guard++r.body,sM a
def WF(t:Tm):Prop:=wH t/\dv t
structure Bm(r:Rl):Prop where
 hs:∀a∈r.keep++r.remove,∀t∈a.ts,WF t
 gs:∀a∈r.guard++r.body,(a.op≠0->gF a.op=a.ts.length)/\∀t∈a.ts,WF t
theorem n203:(ar1.funcs[245]?).map (·.params.size)=aa 1:=by kernel_rfl
theorem t203(z:IV):aQ ar1 245 z=ab:=by kernel_rfl
theorem n153:(ar1.funcs[203]?).map (·.params.size)=aa 1:=by kernel_rfl
theorem t153(z:IV):aQ ar1 203 z=ab:=by kernel_rfl
theorem n154:(ar1.funcs[204]?).map (·.params.size)=aa 2:=by kernel_rfl
theorem t154(z:IV):aQ ar1 204 z=ab:=by kernel_rfl
theorem yN(a b:Int):dc ar1 .neq 70 (iI a) (iI b)=aa (iB (a !=b)):=rfl
end Go.Proofs.YtpfogalbnijcoaaGreat
namespace Go.Proofs.YtpfogalbnijcoaaGreat
open Go Go.Ev
def gP(p:Int->Prop)(z:IV):Prop:=∃b:Int,z=iI b/\p b
@[simp] theorem aqZ(p:Int->Prop)(b:Int):gP p (iI b)↔p b:=⟨λ⟨b',h1,h2⟩=>by cases h1;exact h2,λh=>⟨b,rfl,h⟩⟩
theorem CC.KV{n:Nat}{new:Bool}{f:FuncId}{cF:ak}{args:List IV}{cfg:bg}(p:Int->Prop)(he:aK ar1 cfg n new f=cF)(hl:(ar1.funcs[f]?).map (·.params.size)=aa args.length)(ht:∀z,aQ ar1 f z=ab)(hp:∀x∈args,Pure x)(hn:noTwo cF=ab)
 (hs:cF.sat ar1 CC (gP p) [] args):∃b,p b/\CC f new args (iI b):=by
 obtain⟨z,⟨b,rfl,hb⟩,h2⟩:=CC.tot he hl (λz _=>ht z) hp (by rintro _ ⟨b,rfl,_⟩;exact .raw _) hn hs;exact⟨b,hb,h2⟩
def ahl(p:Int->Prop)(z:IV):Prop:=∃a b:Int,z=.az [iI a,iI b]/\p b
@[simp] theorem aq0(p:Int->Prop)(a b:Int):ahl p (.az [iI a,iI b])↔p b:=⟨λ⟨a',b',h1,h2⟩=>by cases h1;exact h2,λh=>⟨a,b,rfl,h⟩⟩
theorem CC.ahm{n:Nat}{new:Bool}{f:FuncId}{cF:ak}{args:List IV}{cfg:bg}(p:Int->Prop)(he:aK ar1 cfg n new f=cF)(hl:(ar1.funcs[f]?).map (·.params.size)=aa args.length)(ht:∀a b,aQ ar1 f (.az [iI a,iI b])=ab)(hp:∀x∈args,Pure x)(hn:noTwo cF=ab)
 (hs:cF.sat ar1 CC (ahl p) [] args):∃a b,p b/\CC f new args (.az [iI a,iI b]):=by
 obtain⟨z,⟨a,b,rfl,hb⟩,h2⟩:=CC.tot he hl (by rintro _ ⟨a,b,rfl,_⟩;exact ht a b) hp (by rintro _ ⟨a,b,rfl,_⟩;exact .az _ (by simp)) hn hs;exact⟨a,b,hb,h2⟩
theorem n90:(ar1.funcs[119]?).map (·.params.size)=aa 2:=by kernel_rfl
theorem t90(z:IV):aQ ar1 119 z=ab:=by kernel_rfl
theorem Jv.for{r:Rl}(hn:Jv r)(h1:∀a∈r.keep++r.remove,∀t∈a.ts,dv t)(h2:∀a∈r.guard++r.body,(a.op≠0->gF a.op=a.ts.length)/\∀t∈a.ts,dv t):Bm r:=
 ⟨λa ha t ht=>⟨((hn.hs a ha).2.2 t ht).wf,h1 a ha t ht⟩,λa ha=>⟨(h2 a ha).1,λt ht=>⟨((hn.gs a ha).2.2 t ht).wf,(h2 a ha).2 t ht⟩⟩⟩
end Go.Proofs.YtpfogalbnijcoaaGreat
namespace Go.Proofs.YtpfogalbnijcoaaGreat
open Go Go.Ev
def Zy:List Nat:=[209,280,208,250,295,22,23,8,49,4,9,272,199,118,198,240,197,241,62,249,122,206,61,202,101,123,125,177,248,124,205,59,119,63,244,203,243,242,201,245,200,246,204,120,36,68,64,126,207,33,17,66,35,34,60,65,37,256,257,227,281,279,187,29,234]
def Zz:List Nat:=[121,67,11,193,247,277,226,318,225]
def ZB:List Nat:=[238]
def ZC:List Nat:=[205]
def QL:ak:=
 (jM cb 2 cb 1 bC 2 (jU 3 (gn 1 dh 2 (vu 4 .neq jN iN BV 0 3 2 1))) FK)
def ZD:ak:=
 (IL (lM fj .neq cb fj BV QL))
def ahn:bg:=⟨Zy,Zz,ZB,[⟨0,65,4,[(0,(5,0))],[],[],[]⟩],ZC⟩
theorem alu:aK ar1 ahn 400 ab 65=ZD:=by kernel_rfl
def QM:ak:=
 (jM cb 3 cb 2 bC 3 (qd 2 4 9 4 dh (gn 2 bC 3 (u5 2 5 (lO (jI 5) dq) FK 0 3 3 1)) 0 3 3 1) BV)
def ZE:ak:=
 (ry (jU 2 QM))
def aho:bg:=⟨Zy,Zz,ZB,[⟨0,63,2,[(0,(7,0))],[],[],[]⟩],ZC⟩
theorem alv:aK ar1 aho 400 ab 63=ZE:=by kernel_rfl
end Go.Proofs.YtpfogalbnijcoaaGreat
namespace Go.Proofs.YtpfogalbnijcoaaGreat
open Go Go.Ev
structure wI(p:Pg):Prop where
 d:p.decls.length<=12
 r:p.rules.length<=8
 dn:∀d∈p.decls,Sm d.s
 rs:∀r∈p.rules,Ju r
 rn:∀r∈p.rules,Jv r
theorem alw{L:List De}{l:Nat}(h1:l<=L.length):kP 2 (eo L) (iI 0) (iI (l:Nat))=aa (eo (L.take l)):=by
 simp[kP,gh,h1,List.map_take]
theorem n34:(ar1.funcs[59]?).map (·.params.size)=aa 1:=by kernel_rfl
theorem t34(a b:Int):aQ ar1 59 (.az [iI a,iI b])=ab:=by kernel_rfl
end Go.Proofs.YtpfogalbnijcoaaGreat
namespace Go.Proofs.YtpfogalbnijcoaaGreat
open Go Go.Ev
theorem oh{a b:List Int}(h:a.length+b.length<=1000000000):j2 1 8 (iL a) (iL b)=aa (iL (a++b)):=by
 have h2:i_ 1 (b.map iI)=ab:=by
  unfold i_;rw[List.all_eq_true];intro e he;obtain⟨x,_,rfl⟩:=List.mem_map.1 he;rfl
 simp[j2,h2];omega
theorem n95:(ar1.funcs[123]?).map (·.params.size)=aa 1:=by kernel_rfl
theorem t95(z:IV):aQ ar1 123 z=ab:=by kernel_rfl
theorem n35:(ar1.funcs[60]?).map (·.params.size)=aa 1:=by kernel_rfl
theorem t35(z:IV):aQ ar1 60 z=ab:=by kernel_rfl
section rule
variable{Q:IV->Prop}{k0 k1 k2 k3 k4 k5:List IV->Prop}
end rule
theorem n12:(ar1.funcs[33]?).map (·.params.size)=aa 1:=by kernel_rfl
theorem t12(z:IV):aQ ar1 33 z=ab:=by kernel_rfl
end Go.Proofs.YtpfogalbnijcoaaGreat
