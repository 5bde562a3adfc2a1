/- A part of the proof, no condition: the checks of the reference come to an end, rules and programs. -/
import Derived.Test.YtggffkaadeagbaaGreatRgA
import Derived.Test.YtggffkaadeagbaaGreatEvJ
import Derived.Test.YtggffkaadeagbaaGreatRgF
open Go.Proofs.Tryz renaming prog->asK
open Option renaming some->aa
open Bool renaming true->ab
set_option linter.all false
namespace Go.Proofs.YtggffkaadeagbaaGreat
open Go Go.Ev
theorem afB(x:Tm):∃cs,c7 x=.agg cs/\cs.length=4/\cs.all aj=ab:=⟨_,bU x,rfl,rfl⟩
theorem Xz{a b:List Tm}(h:a.length+b.length<=1000):kq 4 56 (iT a) (iT b)=aa (iT (a++b)):=by
 have h2:=C6 (s:=4) (enc:=c7) afB b;simp[kq,h2];omega
theorem Ig{l:List Rl}{i:Nat}(h:i<l.length):dy 6 (yV l) (iI (i:Nat))=aa (.agg [iS l[i].name,h_ l[i].keep,h_ l[i].remove,rP l[i].guard,rP l[i].body,iI l[i].vars]):=fw (by simp[h,ph]) rfl
theorem dN{l:List Int}{i:Nat}(h:i<l.length):dy 1 (iL l) (iI (i:Nat))=aa (iI l[i]):=ahC (by simp[h])
structure JY(r:Rl):Prop where
 h:r.keep.length+r.remove.length<=3
 g:r.guard.length<=6
 b:r.body.length<=6
 hs:∀a∈r.keep++r.remove,a.ts.length<=8
 gs:∀a∈r.guard++r.body,a.ts.length<=8
structure JZ(r:Rl):Prop where
 n:Sm r.name
 hs:∀a∈r.keep++r.remove,nz a
 gs:∀a∈r.guard++r.body,ta a
def WF(t:Tm):Prop:=uJ t/\dE t
structure Bt(r:Rl):Prop where
 hs:∀a∈r.keep++r.remove,∀t∈a.ts,WF t
 gs:∀a∈r.guard++r.body,(a.op≠0->gM a.op=a.ts.length)/\∀t∈a.ts,WF t
theorem n203:(asK.funcs[203]?).map (·.params.size)=aa 1:=by kernel_rfl
theorem t203(z:IV):aO asK 203 z=ab:=by kernel_rfl
theorem n153:(asK.funcs[153]?).map (·.params.size)=aa 1:=by kernel_rfl
theorem t153(z:IV):aO asK 153 z=ab:=by kernel_rfl
theorem n154:(asK.funcs[154]?).map (·.params.size)=aa 2:=by kernel_rfl
theorem t154(z:IV):aO asK 154 z=ab:=by kernel_rfl
theorem ov(a b:Int):dt asK .neq 31 (iI a) (iI b)=aa (iB (a !=b)):=rfl
end Go.Proofs.YtggffkaadeagbaaGreat
namespace Go.Proofs.YtggffkaadeagbaaGreat
open Go Go.Ev
def gW(p:Int->Prop)(z:IV):Prop:=∃b:Int,z=iI b/\p b
@[simp] theorem arJ(p:Int->Prop)(b:Int):gW p (iI b)↔p b:=⟨λ⟨b',h1,h2⟩=>by cases h1;exact h2,λh=>⟨b,rfl,h⟩⟩
theorem CC.LA{n:Nat}{new:Bool}{f:FuncId}{cK:ak}{args:List IV}{cfg:a_}(p:Int->Prop)(he:aH asK cfg n new f=cK)(hl:(asK.funcs[f]?).map (·.params.size)=aa args.length)(ht:∀z,aO asK f z=ab)(hp:∀x∈args,Pure x)(hn:noTwo cK=ab)
 (hs:cK.sat asK CC (gW p) [] args):∃b,p b/\CC f new args (iI b):=by
 obtain⟨z,⟨b,rfl,hb⟩,h2⟩:=CC.tot he hl (λz _=>ht z) hp (by rintro _ ⟨b,rfl,_⟩;exact .raw _) hn hs;exact⟨b,hb,h2⟩
def aib(p:Int->Prop)(z:IV):Prop:=∃a b:Int,z=.az [iI a,iI b]/\p b
@[simp] theorem arK(p:Int->Prop)(a b:Int):aib p (.az [iI a,iI b])↔p b:=⟨λ⟨a',b',h1,h2⟩=>by cases h1;exact h2,λh=>⟨a,b,rfl,h⟩⟩
theorem CC.aic{n:Nat}{new:Bool}{f:FuncId}{cK:ak}{args:List IV}{cfg:a_}(p:Int->Prop)(he:aH asK cfg n new f=cK)(hl:(asK.funcs[f]?).map (·.params.size)=aa args.length)(ht:∀a b,aO asK f (.az [iI a,iI b])=ab)(hp:∀x∈args,Pure x)(hn:noTwo cK=ab)
 (hs:cK.sat asK CC (aib p) [] args):∃a b,p b/\CC f new args (.az [iI a,iI b]):=by
 obtain⟨z,⟨a,b,rfl,hb⟩,h2⟩:=CC.tot he hl (by rintro _ ⟨a,b,rfl,_⟩;exact ht a b) hp (by rintro _ ⟨a,b,rfl,_⟩;exact .az _ (by simp)) hn hs;exact⟨a,b,hb,h2⟩
theorem n90:(asK.funcs[90]?).map (·.params.size)=aa 2:=by kernel_rfl
theorem t90(z:IV):aO asK 90 z=ab:=by kernel_rfl
theorem JZ.for{r:Rl}(hn:JZ r)(h1:∀a∈r.keep++r.remove,∀t∈a.ts,dE t)(h2:∀a∈r.guard++r.body,(a.op≠0->gM a.op=a.ts.length)/\∀t∈a.ts,dE t):Bt r:=
 ⟨λa ha t ht=>⟨((hn.hs a ha).2.2 t ht).wf,h1 a ha t ht⟩,λa ha=>⟨(h2 a ha).1,λt ht=>⟨((hn.gs a ha).2.2 t ht).wf,(h2 a ha).2 t ht⟩⟩⟩
end Go.Proofs.YtggffkaadeagbaaGreat
namespace Go.Proofs.YtggffkaadeagbaaGreat
open Go Go.Ev
def aas:List Nat:=[123,127,126,186,189,44,79,30,102,9,10,23,31,15,257,149,89,148,198,147,199,50,191,71,214,93,163,49,152,64,164,158,95,108,206,250,213,130,131,107,129,155,34,90,51,202,153,201,200,151,203,150,204,154,91,41,67,101,99,109,157,210,12,26,28,25,14,19,100,40,39,70,69,35,53,52,68,42,58,75,24,27,22,29,61,190,66,133,128,249,121,78,183]
def aat:List Nat:=[48,60,63,65,92,94,118,124,132,174,197,205,216,252,263,334]
def aau:List Nat:=[185,188,254]
def aav:List Nat:=[155]
def Rh:ak:=
 (fv bK 2 bK 1 bw 2 (eC 3 (jn 1 cZ 2 (oa eS .neq ej eS Ch qD))) Gc)
def aaw:ak:=
 (Ge (oa dR .neq bK dR Ch Rh))
def aid:a_:=⟨aas,aat,aau,[⟨0,53,4,[(0,(5,0))],[],[],[]⟩],aav⟩
theorem amv:aH asK aid 400 ab 53=aaw:=by kernel_rfl
def Ri:ak:=
 (fv bK 3 bK 2 bw 3 (uz 2 4 9 4 cZ (jn 2 bw 3 (wJ (lS 2 5) (iF 5) cB Gc zO)) zO) Ch)
def aax:ak:=
 (qz (eC 2 Ri))
def aie:a_:=⟨aas,aat,aau,[⟨0,51,2,[(0,(7,0))],[],[],[]⟩],aav⟩
theorem amw:aH asK aie 400 ab 51=aax:=by kernel_rfl
end Go.Proofs.YtggffkaadeagbaaGreat
namespace Go.Proofs.YtggffkaadeagbaaGreat
open Go Go.Ev
structure yW(p:Pg):Prop where
 d:p.decls.length<=12
 r:p.rules.length<=8
 dn:∀d∈p.decls,Sm d.s
 rs:∀r∈p.rules,JY r
 rn:∀r∈p.rules,JZ r
theorem amx{L:List De}{l:Nat}(h1:l<=L.length):nj 2 (eK L) (iI 0) (iI (l:Nat))=aa (eK (L.take l)):=by
 simp[nj,gS,h1,List.map_take]
theorem n34:(asK.funcs[34]?).map (·.params.size)=aa 1:=by kernel_rfl
theorem t34(a b:Int):aO asK 34 (.az [iI a,iI b])=ab:=by kernel_rfl
end Go.Proofs.YtggffkaadeagbaaGreat
namespace Go.Proofs.YtggffkaadeagbaaGreat
open Go Go.Ev
theorem oN{a b:List Int}(h:a.length+b.length<=1000000000):kq 1 8 (iL a) (iL b)=aa (iL (a++b)):=by
 have h2:jm 1 (b.map iI)=ab:=by
  unfold jm;rw[List.all_eq_true];intro e he;obtain⟨x,_,rfl⟩:=List.mem_map.1 he;rfl
 simp[kq,h2];omega
theorem n95:(asK.funcs[95]?).map (·.params.size)=aa 1:=by kernel_rfl
theorem t95(z:IV):aO asK 95 z=ab:=by kernel_rfl
theorem n35:(asK.funcs[35]?).map (·.params.size)=aa 1:=by kernel_rfl
theorem t35(z:IV):aO asK 35 z=ab:=by kernel_rfl
section rule
variable{Q:IV->Prop}{k0 k1 k2 k3 k4 k5:List IV->Prop}
end rule
theorem n12:(asK.funcs[12]?).map (·.params.size)=aa 1:=by kernel_rfl
theorem t12(z:IV):aO asK 12 z=ab:=by kernel_rfl
end Go.Proofs.YtggffkaadeagbaaGreat
