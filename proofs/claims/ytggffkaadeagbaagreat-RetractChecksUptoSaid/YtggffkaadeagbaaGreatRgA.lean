/- A part of the proof, no condition: the checks of the reference come to an end, names, terms, constraints, goals, variables. -/
import Derived.Test.YtggffkaadeagbaaGreatRgF
import Derived.Test.YtggffkaadeagbaaGreatEvP
import Derived.Test.YtggffkaadeagbaaGreatRuH
open Go.Proofs.Tryz renaming prog->aqD
open ByteArray renaming size->auy
open List renaming mem_append->aqX,nil_append->arI,map_nil->as_
set_option linter.all false
namespace Go.Proofs.YtggffkaadeagbaaGreat
open Go Go.Ev
def isB(z:IV):Prop:=∃b:Bool,z=iB b
def isI(z:IV):Prop:=∃n:Int,z=iI n
@[simp] theorem apI(b:Bool):isB (iB b):=⟨b,rfl⟩
@[simp] theorem apJ(n:Int):isI (iI n):=⟨n,rfl⟩
variable{n:Nat}{new:Bool}{f:FuncId}{cB:ab}{args:List IV}{cfg:bj}
theorem CC.tot{Q:IV→Prop}(he:aI aqD cfg n new f=cB)(hl:(aqD.funcs[f]?).map (·.params.size)=some args.length)(ht:∀z,Q z→aN aqD f z=true)(hp:∀x∈args,Pure x)(hz:∀z,Q z→Pure z)(hn:noTwo cB=true)
 (hs:cB.sat aqD CC Q [] args):∃z,Q z∧CC f new args z:=by
 obtain⟨z,h1,h2⟩:=xL hn hs;exact⟨z,h1,CC.of he hl (ht z h1) hp (hz z h1) h2⟩
def nu(p:Bool→Prop)(z:IV):Prop:=∃b:Bool,z=iB b∧p b
@[simp] theorem adX(p:Bool→Prop)(b:Bool):nu p (iB b)↔p b:=⟨fun⟨b',h1,h2⟩=>by cases h1;exact h2,fun h=>⟨b,rfl,h⟩⟩
theorem CC.q7(p:Bool→Prop)(he:aI aqD cfg n new f=cB)(hl:(aqD.funcs[f]?).map (·.params.size)=some args.length)(ht:∀z,aN aqD f z=true)(hp:∀x∈args,Pure x)(hn:noTwo cB=true)
 (hs:cB.sat aqD CC (nu p) [] args):∃b,p b∧CC f new args (iB b):=by
 obtain⟨z,⟨b,rfl,hb⟩,h2⟩:=CC.tot he hl (fun z _=>ht z) hp (by rintro _ ⟨b,rfl,_⟩;exact .raw _) hn hs;exact⟨b,hb,h2⟩
abbrev oF(c:Int):IV:=.raw (.int .u8 c)
@[simp] theorem ap9(t:TypeId)(a b:Int):c_ aqD .lss t (oF a) (oF b)=some (iB (decide (a<b))):=rfl
@[simp] theorem ap_(t:TypeId)(a b:Int):c_ aqD .gtr t (oF a) (oF b)=some (iB (decide (a>b))):=rfl
@[simp] theorem aqa(t:TypeId)(a b:Int):c_ aqD .leq t (oF a) (oF b)=some (iB (decide (a≤b))):=rfl
@[simp] theorem aqb(t:TypeId)(a b:Int):c_ aqD .geq t (oF a) (oF b)=some (iB (decide (a≥b))):=rfl
@[simp] theorem aqc(t:TypeId)(a b:Int):c_ aqD .neq t (oF a) (oF b)=some (iB (a !=b)):=rfl
@[simp] theorem aqd(t:TypeId)(a b:List UInt8):c_ aqD .eql t (iS a) (iS b)=some (iB (a==b)):=by
  show some (IV.bool (a.toArray.toList==b.toArray.toList))=_;simp
@[simp] theorem agm(l:List UInt8):wK (iS l)=some (iI l.length):=by
  simp[wK,auy]
theorem n148:(aqD.funcs[148]?).map (·.params.size)=some 1:=by kernel_rfl
theorem t148(z:IV):aN aqD 148 z=true:=by kernel_rfl
theorem n198:(aqD.funcs[198]?).map (·.params.size)=some 1:=by kernel_rfl
theorem t198(z:IV):aN aqD 198 z=true:=by kernel_rfl
theorem n149:(aqD.funcs[149]?).map (·.params.size)=some 1:=by kernel_rfl
theorem t149(z:IV):aN aqD 149 z=true:=by kernel_rfl
theorem n257:(aqD.funcs[257]?).map (·.params.size)=some 1:=by kernel_rfl
theorem t257(z:IV):aN aqD 257 z=true:=by kernel_rfl
@[simp] theorem apA{e i:SE}{ν:List IV}{l:List UInt8}{k:Nat}{c:UInt8}(he:e.den aqD ν=some (iS l))(hi:i.den aqD ν=some (iI (k:Nat)))(hc:l[k]?=some c):(SE.FY e i).den aqD ν=some (oF (c.toNat:Int)):=by
  simp[SE.den,he,hi,hc]
theorem n147:(aqD.funcs[147]?).map (·.params.size)=some 1:=by kernel_rfl
theorem t147(z:IV):aN aqD 147 z=true:=by kernel_rfl
theorem n89:(aqD.funcs[89]?).map (·.params.size)=some 1:=by kernel_rfl
theorem t89(z:IV):aN aqD 89 z=true:=by kernel_rfl
end Go.Proofs.YtggffkaadeagbaaGreat
namespace Go.Proofs.YtggffkaadeagbaaGreat
open Go Go.Ev
mutual
def nN:Tm→Prop
 |.mk _ _ s ts=>Sm s∧Sm ts∧P8 ts
def P8:List Tm→Prop
 |[]=>True
 |t::l=>nN t∧P8 l
end
theorem P9:∀l:List Tm,P8 l↔∀t∈l,nN t
 |[]=>by simp[P8]
 |t::l=>by simp[P8,P9 l]
theorem mC(t:Tm):nN t↔Sm t.s∧Sm t.ts∧∀u∈t.ts,nN u:=by cases t;simp[nN,P9,Tm.ts,Tm.s]
theorem nN.wf:∀t:Tm,nN t→vO t
 |.mk k n s ts,h=>(Ak _).2 ⟨((mC _).1 h).2.1,fun u hu=>nN.wf u (((mC _).1 h).2.2 u hu)⟩
 decreasing_by simp[Tm.ts]at hu;have:=List.sizeOf_lt_of_mem hu;simp;omega
mutual
def dm:Tm→Prop
 |.mk k n _ ts=>(k=1→0≤n∧n≤1048576)∧(k=2→D5 ts)
def D5:List Tm→Prop
 |[]=>True
 |t::l=>dm t∧D5 l
end
theorem IU:∀l:List Tm,D5 l↔∀t∈l,dm t
 |[]=>by simp[D5]
 |t::l=>by simp[D5,IU l]
theorem yY(t:Tm):dm t↔(t.k=1→0≤t.n∧t.n≤1048576)∧(t.k=2→∀u∈t.ts,dm u):=by cases t;simp[dm,IU,Tm.ts,Tm.k,Tm.n]
theorem YF{t u:Tm}(h:dm t)(hu:u∈bR t):dm u:=by
 unfold bR at hu;split at hu
 ·exact((yY t).1 h).2 (by assumption) u hu
 ·simp at hu
theorem ay{α:Type}{p:α→Prop}{l:List α}{i:Nat}(h:i<l.length)(h1:∀u∈l.take i,p u)(h2:p l[i]):∀u∈l.take (i+1),p u:=by
 intro u hu;rw[List.take_succ_eq_append_getElem h]at hu;rcases aqX.1 hu with hu|hu
 ·exact h1 u hu
 ·simp at hu;subst hu;exact h2
theorem aF{α:Type}{p:α→Prop}{l:List α}{i:Nat}(h:¬i<l.length)(h1:∀u∈l.take i,p u):∀u∈l,p u:=by
 rwa[List.take_of_length_le (by omega)]at h1
theorem n213:(aqD.funcs[213]?).map (·.params.size)=some 1:=by kernel_rfl
theorem t213(z:IV):aN aqD 213 z=true:=by kernel_rfl
theorem n214:(aqD.funcs[214]?).map (·.params.size)=some 1:=by kernel_rfl
theorem t214(z:IV):aN aqD 214 z=true:=by kernel_rfl
end Go.Proofs.YtggffkaadeagbaaGreat
namespace Go.Proofs.YtggffkaadeagbaaGreat
open Go Go.Ev
structure Gl where
 op:Int
 s:List UInt8
 ts:List Tm
structure Rl where
 name:List UInt8
 keep:List At
 remove:List At
 guard:List Gl
 body:List Gl
 vars:Int
structure De where
 s:List UInt8
 n:Int
structure Pg where
 decls:List De
 rules:List Rl
def G9(g:Gl):IV:=.agg [iI g.op,iS g.s,iT g.ts]
abbrev qL(l:List Gl):IV:=.tree 3 (l.map G9)
def oc(r:Rl):IV:=.agg [iS r.name,mP r.keep,mP r.remove,qL r.guard,qL r.body,iI r.vars]
abbrev xN(l:List Rl):IV:=.tree 6 (l.map oc)
def P_(d:De):IV:=.agg [iS d.s,iI d.n]
abbrev eI(l:List De):IV:=.tree 2 (l.map P_)
def f_(p:Pg):IV:=.agg [eI p.decls,xN p.rules]
theorem D6(a:Gl):Pure (G9 a):=.agg _ (by simp)
@[simp] theorem abb(l:List Gl):Pure (qL l):=ph 3 G9 (fun a=>⟨_,rfl,by simp⟩) l
theorem ji(a:Rl):Pure (oc a):=.agg _ (by simp)
@[simp] theorem aoy(l:List Rl):Pure (xN l):=ph 6 oc (fun a=>⟨_,rfl,by simp⟩) l
@[simp] theorem G_(l:List De):Pure (eI l):=ph 2 P_ (fun a=>⟨_,rfl,by simp⟩) l
theorem ga(a:Pg):Pure (f_ a):=.agg _ (by simp)
def rZ(a:At):Prop:=Sm a.s∧Sm a.ts∧∀t∈a.ts,nN t
def r6(a:Gl):Prop:=Sm a.s∧Sm a.ts∧∀t∈a.ts,nN t
theorem n163:(aqD.funcs[163]?).map (·.params.size)=some 1:=by kernel_rfl
theorem t163(z:IV):aN aqD 163 z=true:=by kernel_rfl
theorem n107:(aqD.funcs[107]?).map (·.params.size)=some 1:=by kernel_rfl
theorem t107(z:IV):aN aqD 107 z=true:=by kernel_rfl
theorem n49:(aqD.funcs[49]?).map (·.params.size)=some 1:=by kernel_rfl
theorem t49(z:IV):aN aqD 49 z=true:=by kernel_rfl
def gu(op:Int):Int:=if op=1∨op=2 then 0 else if op=11∨op=12 then 1 else if 2<op∧op<11 then 2 else-1
theorem n199:(aqD.funcs[199]?).map (·.params.size)=some 1:=by kernel_rfl
theorem t199(z:IV):aN aqD 199 z=true:=by kernel_rfl
theorem aoz(op:Int):CC 199 false [iI op] (iI (gu op)):=by
 refine CC.of akj n199 (t199 _) (by simp) (by simp) ?_;simp[Yq,SE.den,gu]
 grind
theorem n152:(aqD.funcs[152]?).map (·.params.size)=some 1:=by kernel_rfl
theorem t152(z:IV):aN aqD 152 z=true:=by kernel_rfl
end Go.Proofs.YtggffkaadeagbaaGreat
namespace Go.Proofs.YtggffkaadeagbaaGreat
open Go Go.Ev
theorem tF{l:List De}{i:Nat}(h:i<l.length):dx 2 (eI l) (iI (i:Nat))=some (.agg [iS l[i].s,iI l[i].n]):=fZ (by simp[h,P_]) rfl
theorem lT{l:List Gl}{i:Nat}(h:i<l.length):dx 3 (qL l) (iI (i:Nat))=some (.agg [iI l[i].op,iS l[i].s,iT l[i].ts]):=fZ (by simp[h,G9]) rfl
theorem n51:(aqD.funcs[51]?).map (·.params.size)=some 3:=by kernel_rfl
theorem t51(z:IV):aN aqD 51 z=true:=by kernel_rfl
theorem n200:(aqD.funcs[200]?).map (·.params.size)=some 3:=by kernel_rfl
theorem t200(z:IV):aN aqD 200 z=true:=by kernel_rfl
theorem n201:(aqD.funcs[201]?).map (·.params.size)=some 2:=by kernel_rfl
theorem t201(z:IV):aN aqD 201 z=true:=by kernel_rfl
theorem n202:(aqD.funcs[202]?).map (·.params.size)=some 1:=by kernel_rfl
theorem t202(z:IV):aN aqD 202 z=true:=by kernel_rfl
theorem n204:(aqD.funcs[204]?).map (·.params.size)=some 2:=by kernel_rfl
theorem t204(z:IV):aN aqD 204 z=true:=by kernel_rfl
end Go.Proofs.YtggffkaadeagbaaGreat
namespace Go.Proofs.YtggffkaadeagbaaGreat
open Go Go.Ev
def Vr(l:List Int):Prop:=l.Nodup∧∀x∈l,0≤x∧x≤1048576
theorem YG:∀(N:Nat) (l:List Int),l.Nodup→(∀x∈l,0≤x∧x<N)→l.length≤N
 |0,[],_,_=>by simp
 |0,x::l,_,h=>by have:=h x (by simp);omega
 |N+1,l,hn,h=>by
  have ih:=YG N (l.erase (N:Int)) (hn.erase _) fun x hx=>by
   have h1:=h x (List.mem_of_mem_erase hx);have h2:x≠(N:Int):=fun he=>by rw[hn.mem_erase_iff]at hx;exact hx.1 he
   omega
  rw[List.length_erase]at ih;split at ih<;>omega
theorem Vr.len{l:List Int}(h:Vr l):l.length≤1048577:=YG 1048577 l h.1 fun x hx=>by have:=h.2 x hx;omega
theorem Vr.nil:Vr []:=⟨by simp,by simp⟩
theorem Vr.snoc{l:List Int}{n:Int}(h:Vr l)(h1:n∉l)(h2:0≤n∧n≤1048576):Vr (l++[n]):=by
 refine⟨?_,fun x hx=>?_⟩
 ·rw[List.nodup_append];exact⟨h.1,by simp,fun a ha b hb=>by simp at hb;subst hb;exact fun he=>h1 (he▸ha)⟩
 ·rcases aqX.1 hx with hx|hx
  ·exact h.2 x hx
  ·simp at hx;subst hx;exact h2
theorem akE:aqD.funcs.size=356:=by kernel_rfl
def BV(p:List Int→Prop)(z:IV):Prop:=∃l:List Int,z=iL l∧p l
theorem ago{a b:List Int}(h:iL a=iL b):a=b:=by
 injection h with _ h2
 exact(List.map_inj_right (fun x y hh=>by injection hh with hh;injection hh)).1 h2
@[simp] theorem Am(p:List Int→Prop)(l:List Int):BV p (iL l)↔p l:=⟨fun⟨b',h1,h2⟩=>by rw[ago h1];exact h2,fun h=>⟨l,rfl,h⟩⟩
theorem CC.agp{n:Nat}{new:Bool}{f:FuncId}{cB:ab}{cfg:bj}{l:List Int}{xs:List IV}(p:List Int→Prop)(he:wO aqD cfg n 1 f=cB)(hl:(aqD.funcs[f]?).map (·.params.size)=some (xs.length+1))(hn:noTwo cB=true)
 (hs:cB.sat aqD CC (BV p) [] (iL l::xs)):∃l',p l'∧CC (356+f) new (iL l::xs) (iL l'):=by
 obtain⟨z,⟨l',rfl,hp⟩,h2⟩:=xL hn hs;refine⟨l',hp,?_⟩;rw[←akE];exact CC.ofRow he hl h2
theorem n155:(aqD.funcs[155]?).map (·.params.size)=some 2:=by kernel_rfl
theorem YH(l:List Int):(l.map iI).all (fun e=>(cellsOf e).all aw)=true:=by
 rw[List.all_eq_true];intro e he;obtain⟨x,_,rfl⟩:=List.mem_map.1 he;rfl
end Go.Proofs.YtggffkaadeagbaaGreat
namespace Go.Proofs.YtggffkaadeagbaaGreat
open Go Go.Ev
theorem CC.agq{n:Nat}{new:Bool}{f:FuncId}{cB:ab}{cfg:bj}{args:List IV}(p:List Int→Prop)(he:aI aqD cfg n new f=cB)(hl:(aqD.funcs[f]?).map (·.params.size)=some args.length)(ht:∀z,aN aqD f z=true)(hp:∀x∈args,Pure x)(hn:noTwo cB=true)
 (hs:cB.sat aqD CC (BV p) [] args):∃l',p l'∧CC f new args (iL l'):=by
 obtain⟨z,⟨l',rfl,hb⟩,h2⟩:=CC.tot he hl (fun z _=>ht z) hp (by rintro _ ⟨b,rfl,_⟩;exact Aj b) hn hs;exact⟨l',hb,h2⟩
theorem n108:(aqD.funcs[108]?).map (·.params.size)=some 1:=by kernel_rfl
theorem t108(z:IV):aN aqD 108 z=true:=by kernel_rfl
theorem n93:(aqD.funcs[93]?).map (·.params.size)=some 1:=by kernel_rfl
theorem t93(z:IV):aN aqD 93 z=true:=by kernel_rfl
theorem n50:(aqD.funcs[50]?).map (·.params.size)=some 1:=by kernel_rfl
theorem t50(z:IV):aN aqD 50 z=true:=by kernel_rfl
theorem agr:aI aqD Ys 400 true 108=IT:=by kernel_rfl
end Go.Proofs.YtggffkaadeagbaaGreat
namespace Go.Proofs.YtggffkaadeagbaaGreat
open Go Go.Ev
theorem acy{a b:List Gl}(h:a.length+b.length≤1000):jM 3 48 (qL a) (qL b)=some (qL (a++b)):=by
 have h2:=BS (s:=3) (enc:=G9) (fun x=>⟨_,rfl,rfl,rfl⟩) b;simp[jM,h2];omega
theorem n150:(aqD.funcs[150]?).map (·.params.size)=some 1:=by kernel_rfl
theorem t150(z:IV):aN aqD 150 z=true:=by kernel_rfl
theorem n91:(aqD.funcs[91]?).map (·.params.size)=some 1:=by kernel_rfl
theorem t91(z:IV):aN aqD 91 z=true:=by kernel_rfl
theorem n151:(aqD.funcs[151]?).map (·.params.size)=some 1:=by kernel_rfl
theorem t151(z:IV):aN aqD 151 z=true:=by kernel_rfl
theorem iQ(r:Rl):oc r=.agg [iS r.name,mP r.keep,mP r.remove,qL r.guard,qL r.body,iI r.vars]:=rfl
theorem VW(r:Rl)(h:r.keep.length+r.remove.length≤1000):CC 150 false [oc r] (mP (r.keep++r.remove)):=by
 refine CC.of aka n150 (t150 _) (by simpa using ji r) (by simp) ?_;have h1:=Fp (a:=[]) (b:=r.keep) (by simp;omega);have h2:=Fp h;simp only[arI,as_]at h1;rw[iQ];simp[Yi,SE.den,af];exact⟨_,h1,h2⟩
theorem c91(r:Rl)(h:r.keep.length+r.remove.length≤1000):CC 91 false [oc r] (mP (r.keep++r.remove)):=by
 refine CC.of aop n91 (t91 _) (by simpa using ji r) (by simp) ?_;have h1:=Fp (a:=[]) (b:=r.keep) (by simp;omega);have h2:=Fp h;simp only[arI,as_]at h1;rw[iQ];simp[acp,SE.den,af];exact⟨_,h1,h2⟩
theorem abc(r:Rl)(h:r.guard.length+r.body.length≤1000):CC 151 false [oc r] (qL (r.guard++r.body)):=by
 refine CC.of akb n151 (t151 _) (by simpa using ji r) (by simp) ?_;have h1:=acy (a:=[]) (b:=r.guard) (by simp;omega);have h2:=acy h;simp only[arI,as_]at h1;rw[iQ];simp[Yj,SE.den,af];exact⟨_,h1,h2⟩
end Go.Proofs.YtggffkaadeagbaaGreat
