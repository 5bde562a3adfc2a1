/- A part of the proof, no condition: the checks of the reference come to an end, names, terms, constraints, goals, variables. -/
import Derived.Test.YtggffkaadeagbaaGreatRgF
import Derived.Test.YtggffkaadeagbaaGreatEvP
import Derived.Test.YtggffkaadeagbaaGreatRuH
open Go.Proofs.Tryz renaming prog->asK
open ByteArray renaming size->awD
open List renaming mem_append->as8,nil_append->atO,map_nil->aun
open Option renaming some->aa
open Bool renaming true->ab,false->af
set_option linter.all false
namespace Go.Proofs.YtggffkaadeagbaaGreat
open Go Go.Ev
def isB(z:IV):Prop:=∃b:Bool,z=iB b
def isI(z:IV):Prop:=∃n:Int,z=iI n
@[simp] theorem arQ(b:Bool):isB (iB b):=⟨b,rfl⟩
@[simp] theorem arR(n:Int):isI (iI n):=⟨n,rfl⟩
variable{n:Nat}{new:Bool}{f:FuncId}{cK:ak}{args:List IV}{cfg:a_}
theorem CC.tot{Q:IV->Prop}(he:aH asK cfg n new f=cK)(hl:(asK.funcs[f]?).map (·.params.size)=aa args.length)(ht:∀z,Q z->aO asK f z=ab)(hp:∀x∈args,Pure x)(hz:∀z,Q z->Pure z)(hn:noTwo cK=ab)
 (hs:cK.sat asK CC Q [] args):∃z,Q z/\CC f new args z:=by
 obtain⟨z,h1,h2⟩:=yR hn hs;exact⟨z,h1,CC.of he hl (ht z h1) hp (hz z h1) h2⟩
def ou(p:Bool->Prop)(z:IV):Prop:=∃b:Bool,z=iB b/\p b
@[simp] theorem afA(p:Bool->Prop)(b:Bool):ou p (iB b)↔p b:=⟨λ⟨b',h1,h2⟩=>by cases h1;exact h2,λh=>⟨b,rfl,h⟩⟩
theorem CC.qP(p:Bool->Prop)(he:aH asK cfg n new f=cK)(hl:(asK.funcs[f]?).map (·.params.size)=aa args.length)(ht:∀z,aO asK f z=ab)(hp:∀x∈args,Pure x)(hn:noTwo cK=ab)
 (hs:cK.sat asK CC (ou p) [] args):∃b,p b/\CC f new args (iB b):=by
 obtain⟨z,⟨b,rfl,hb⟩,h2⟩:=CC.tot he hl (λz _=>ht z) hp (by rintro _ ⟨b,rfl,_⟩;exact .raw _) hn hs;exact⟨b,hb,h2⟩
abbrev pJ(c:Int):IV:=.raw (.int .u8 c)
@[simp] theorem asd(t:TypeId)(a b:Int):dt asK .lss t (pJ a) (pJ b)=aa (iB (decide (a<b))):=rfl
@[simp] theorem ase(t:TypeId)(a b:Int):dt asK .gtr t (pJ a) (pJ b)=aa (iB (decide (a>b))):=rfl
@[simp] theorem asf(t:TypeId)(a b:Int):dt asK .leq t (pJ a) (pJ b)=aa (iB (decide (a<=b))):=rfl
@[simp] theorem ash(t:TypeId)(a b:Int):dt asK .geq t (pJ a) (pJ b)=aa (iB (decide (a≥b))):=rfl
@[simp] theorem asi(t:TypeId)(a b:Int):dt asK .neq t (pJ a) (pJ b)=aa (iB (a !=b)):=rfl
@[simp] theorem asj(t:TypeId)(a b:List UInt8):dt asK .eql t (iS a) (iS b)=aa (iB (a==b)):=by
  show aa (IV.bool (a.toArray.toList==b.toArray.toList))=_;simp
@[simp] theorem ah7(l:List UInt8):xP (iS l)=aa (iI l.length):=by
  simp[xP,awD]
theorem n148:(asK.funcs[148]?).map (·.params.size)=aa 1:=by kernel_rfl
theorem t148(z:IV):aO asK 148 z=ab:=by kernel_rfl
theorem n198:(asK.funcs[198]?).map (·.params.size)=aa 1:=by kernel_rfl
theorem t198(z:IV):aO asK 198 z=ab:=by kernel_rfl
theorem n149:(asK.funcs[149]?).map (·.params.size)=aa 1:=by kernel_rfl
theorem t149(z:IV):aO asK 149 z=ab:=by kernel_rfl
theorem n257:(asK.funcs[257]?).map (·.params.size)=aa 1:=by kernel_rfl
theorem t257(z:IV):aO asK 257 z=ab:=by kernel_rfl
@[simp] theorem arI{e i:SE}{ν:List IV}{l:List UInt8}{k:Nat}{c:UInt8}(he:e.den asK ν=aa (iS l))(hi:i.den asK ν=aa (iI (k:Nat)))(hc:l[k]?=aa c):(SE.G3 e i).den asK ν=aa (pJ (c.toNat:Int)):=by
  simp[SE.den,he,hi,hc]
theorem n147:(asK.funcs[147]?).map (·.params.size)=aa 1:=by kernel_rfl
theorem t147(z:IV):aO asK 147 z=ab:=by kernel_rfl
theorem n89:(asK.funcs[89]?).map (·.params.size)=aa 1:=by kernel_rfl
theorem t89(z:IV):aO asK 89 z=ab:=by kernel_rfl
end Go.Proofs.YtggffkaadeagbaaGreat
namespace Go.Proofs.YtggffkaadeagbaaGreat
open Go Go.Ev
mutual
def oM:Tm->Prop
 |.mk _ _ s ts=>Sm s/\Sm ts/\Re ts
def Re:List Tm->Prop
 |[]=>True
 |t::l=>oM t/\Re l
end
theorem Rf:∀l:List Tm,Re l↔∀t∈l,oM t
 |[]=>by simp[Re]
 |t::l=>by simp[Re,Rf l]
theorem ny(t:Tm):oM t↔Sm t.s/\Sm t.ts/\∀u∈t.ts,oM u:=by cases t;simp[oM,Rf,Tm.ts,Tm.s]
theorem oM.wf:∀t:Tm,oM t->uJ t
 |.mk k n s ts,h=>(vj _).2 ⟨((ny _).1 h).2.1,λu hu=>oM.wf u (((ny _).1 h).2.2 u hu)⟩
 decreasing_by simp[Tm.ts]at hu;have:=List.sizeOf_lt_of_mem hu;simp;omega
mutual
def dE:Tm->Prop
 |.mk k n _ ts=>(k=1->0<=n/\n<=1048576)/\(k=2->Ff ts)
def Ff:List Tm->Prop
 |[]=>True
 |t::l=>dE t/\Ff l
end
theorem JX:∀l:List Tm,Ff l↔∀t∈l,dE t
 |[]=>by simp[Ff]
 |t::l=>by simp[Ff,JX l]
theorem Ab(t:Tm):dE t↔(t.k=1->0<=t.n/\t.n<=1048576)/\(t.k=2->∀u∈t.ts,dE u):=by cases t;simp[dE,JX,Tm.ts,Tm.k,Tm.n]
theorem aap{t u:Tm}(h:dE t)(hu:u∈bY t):dE u:=by
 unfold bY at hu;split at hu
 ·exact((Ab t).1 h).2 (by assumption) u hu
 ·simp at hu
theorem aC{α:Type}{p:α->Prop}{l:List α}{i:Nat}(h:i<l.length)(h1:∀u∈l.take i,p u)(h2:p l[i]):∀u∈l.take (i+1),p u:=by
 intro u hu;rw[List.take_succ_eq_append_getElem h]at hu;rcases as8.1 hu with hu|hu
 ·exact h1 u hu
 ·simp at hu;subst hu;exact h2
theorem aK{α:Type}{p:α->Prop}{l:List α}{i:Nat}(h:¬i<l.length)(h1:∀u∈l.take i,p u):∀u∈l,p u:=by
 rwa[List.take_of_length_le (by omega)]at h1
theorem n213:(asK.funcs[213]?).map (·.params.size)=aa 1:=by kernel_rfl
theorem t213(z:IV):aO asK 213 z=ab:=by kernel_rfl
theorem n214:(asK.funcs[214]?).map (·.params.size)=aa 1:=by kernel_rfl
theorem t214(z:IV):aO asK 214 z=ab:=by kernel_rfl
end Go.Proofs.YtggffkaadeagbaaGreat
namespace Go.Proofs.YtggffkaadeagbaaGreat
open Go Go.Ev
structure Gl where
 op:Int
 s:List UInt8
 ts:List Tm
structure Rl where
 name:List UInt8
 keep:List At
 remove:List At
 guard:List Gl
 body:List Gl
 vars:Int
structure De where
 s:List UInt8
 n:Int
structure Pg where
 decls:List De
 rules:List Rl
def Ic(g:Gl):IV:=.agg [iI g.op,iS g.s,iT g.ts]
abbrev rP(l:List Gl):IV:=.tree 3 (l.map Ic)
def ph(r:Rl):IV:=.agg [iS r.name,h_ r.keep,h_ r.remove,rP r.guard,rP r.body,iI r.vars]
abbrev yV(l:List Rl):IV:=.tree 6 (l.map ph)
def Rg(d:De):IV:=.agg [iS d.s,iI d.n]
abbrev eK(l:List De):IV:=.tree 2 (l.map Rg)
def dm(p:Pg):IV:=.agg [eK p.decls,yV p.rules]
theorem Fg(a:Gl):Pure (Ic a):=.agg _ (by simp)
@[simp] theorem acR(l:List Gl):Pure (rP l):=qe 3 Ic (λa=>⟨_,rfl,by simp⟩) l
theorem jK(a:Rl):Pure (ph a):=.agg _ (by simp)
@[simp] theorem aqB(l:List Rl):Pure (yV l):=qe 6 ph (λa=>⟨_,rfl,by simp⟩) l
@[simp] theorem Ie(l:List De):Pure (eK l):=qe 2 Rg (λa=>⟨_,rfl,by simp⟩) l
theorem fx(a:Pg):Pure (dm a):=.agg _ (by simp)
def nz(a:At):Prop:=Sm a.s/\Sm a.ts/\∀t∈a.ts,oM t
def ta(a:Gl):Prop:=Sm a.s/\Sm a.ts/\∀t∈a.ts,oM t
theorem n163:(asK.funcs[163]?).map (·.params.size)=aa 1:=by kernel_rfl
theorem t163(z:IV):aO asK 163 z=ab:=by kernel_rfl
theorem n107:(asK.funcs[107]?).map (·.params.size)=aa 1:=by kernel_rfl
theorem t107(z:IV):aO asK 107 z=ab:=by kernel_rfl
theorem n49:(asK.funcs[49]?).map (·.params.size)=aa 1:=by kernel_rfl
theorem t49(z:IV):aO asK 49 z=ab:=by kernel_rfl
def gM(op:Int):Int:=if op=1\/op=2 then 0 else if op=11\/op=12 then 1 else if 2<op/\op<11 then 2 else-1
theorem n199:(asK.funcs[199]?).map (·.params.size)=aa 1:=by kernel_rfl
theorem t199(z:IV):aO asK 199 z=ab:=by kernel_rfl
theorem aqC(op:Int):CC 199 af [iI op] (iI (gM op)):=by
 refine CC.of al_ n199 (t199 _) (by simp) (by simp) ?_;simp[aaa,SE.den,gM]
 grind
theorem n152:(asK.funcs[152]?).map (·.params.size)=aa 1:=by kernel_rfl
theorem t152(z:IV):aO asK 152 z=ab:=by kernel_rfl
end Go.Proofs.YtggffkaadeagbaaGreat
namespace Go.Proofs.YtggffkaadeagbaaGreat
open Go Go.Ev
theorem uM{l:List De}{i:Nat}(h:i<l.length):dy 2 (eK l) (iI (i:Nat))=aa (.agg [iS l[i].s,iI l[i].n]):=fw (by simp[h,Rg]) rfl
theorem mI{l:List Gl}{i:Nat}(h:i<l.length):dy 3 (rP l) (iI (i:Nat))=aa (.agg [iI l[i].op,iS l[i].s,iT l[i].ts]):=fw (by simp[h,Ic]) rfl
theorem n51:(asK.funcs[51]?).map (·.params.size)=aa 3:=by kernel_rfl
theorem t51(z:IV):aO asK 51 z=ab:=by kernel_rfl
theorem n200:(asK.funcs[200]?).map (·.params.size)=aa 3:=by kernel_rfl
theorem t200(z:IV):aO asK 200 z=ab:=by kernel_rfl
theorem n201:(asK.funcs[201]?).map (·.params.size)=aa 2:=by kernel_rfl
theorem t201(z:IV):aO asK 201 z=ab:=by kernel_rfl
theorem n202:(asK.funcs[202]?).map (·.params.size)=aa 1:=by kernel_rfl
theorem t202(z:IV):aO asK 202 z=ab:=by kernel_rfl
theorem n204:(asK.funcs[204]?).map (·.params.size)=aa 2:=by kernel_rfl
theorem t204(z:IV):aO asK 204 z=ab:=by kernel_rfl
end Go.Proofs.YtggffkaadeagbaaGreat
namespace Go.Proofs.YtggffkaadeagbaaGreat
open Go Go.Ev
def Vr(l:List Int):Prop:=l.Nodup/\∀x∈l,0<=x/\x<=1048576
theorem aaq:∀(N:Nat) (l:List Int),l.Nodup->(∀x∈l,0<=x/\x<N)->l.length<=N
 |0,[],_,_=>by simp
 |0,x::l,_,h=>by have:=h x (by simp);omega
 |N+1,l,hn,h=>by
  have ih:=aaq N (l.erase (N:Int)) (hn.erase _) λx hx=>by
   have h1:=h x (List.mem_of_mem_erase hx);have h2:x≠(N:Int):=λhe=>by rw[hn.mem_erase_iff]at hx;exact hx.1 he
   omega
  rw[List.length_erase]at ih;split at ih<;>omega
theorem Vr.len{l:List Int}(h:Vr l):l.length<=1048577:=aaq 1048577 l h.1 λx hx=>by have:=h.2 x hx;omega
theorem Vr.nil:Vr []:=⟨by simp,by simp⟩
theorem Vr.snoc{l:List Int}{n:Int}(h:Vr l)(h1:n∉l)(h2:0<=n/\n<=1048576):Vr (l++[n]):=by
 refine⟨?_,λx hx=>?_⟩
 ·rw[List.nodup_append];exact⟨h.1,by simp,λa ha b hb=>by simp at hb;subst hb;exactλhe=>h1 (he▸ha)⟩
 ·rcases as8.1 hx with hx|hx
  ·exact h.2 x hx
  ·simp at hx;subst hx;exact h2
theorem amu:asK.funcs.size=356:=by kernel_rfl
def C9(p:List Int->Prop)(z:IV):Prop:=∃l:List Int,z=iL l/\p l
theorem ah8{a b:List Int}(h:iL a=iL b):a=b:=by
 injection h with _ h2
 exact(List.map_inj_right (λx y hh=>by injection hh with hh;injection hh)).1 h2
@[simp] theorem Bs(p:List Int->Prop)(l:List Int):C9 p (iL l)↔p l:=⟨λ⟨b',h1,h2⟩=>by rw[ah8 h1];exact h2,λh=>⟨l,rfl,h⟩⟩
theorem CC.ah9{n:Nat}{new:Bool}{f:FuncId}{cK:ak}{cfg:a_}{l:List Int}{xs:List IV}(p:List Int->Prop)(he:xU asK cfg n 1 f=cK)(hl:(asK.funcs[f]?).map (·.params.size)=aa (xs.length+1))(hn:noTwo cK=ab)
 (hs:cK.sat asK CC (C9 p) [] (iL l::xs)):∃l',p l'/\CC (356+f) new (iL l::xs) (iL l'):=by
 obtain⟨z,⟨l',rfl,hp⟩,h2⟩:=yR hn hs;refine⟨l',hp,?_⟩;rw[<-amu];exact CC.ofRow he hl h2
theorem n155:(asK.funcs[155]?).map (·.params.size)=aa 2:=by kernel_rfl
theorem aar(l:List Int):(l.map iI).all (λe=>(cellsOf e).all aA)=ab:=by
 rw[List.all_eq_true];intro e he;obtain⟨x,_,rfl⟩:=List.mem_map.1 he;rfl
end Go.Proofs.YtggffkaadeagbaaGreat
namespace Go.Proofs.YtggffkaadeagbaaGreat
open Go Go.Ev
theorem CC.ah_{n:Nat}{new:Bool}{f:FuncId}{cK:ak}{cfg:a_}{args:List IV}(p:List Int->Prop)(he:aH asK cfg n new f=cK)(hl:(asK.funcs[f]?).map (·.params.size)=aa args.length)(ht:∀z,aO asK f z=ab)(hp:∀x∈args,Pure x)(hn:noTwo cK=ab)
 (hs:cK.sat asK CC (C9 p) [] args):∃l',p l'/\CC f new args (iL l'):=by
 obtain⟨z,⟨l',rfl,hb⟩,h2⟩:=CC.tot he hl (λz _=>ht z) hp (by rintro _ ⟨b,rfl,_⟩;exact Bp b) hn hs;exact⟨l',hb,h2⟩
theorem n108:(asK.funcs[108]?).map (·.params.size)=aa 1:=by kernel_rfl
theorem t108(z:IV):aO asK 108 z=ab:=by kernel_rfl
theorem n93:(asK.funcs[93]?).map (·.params.size)=aa 1:=by kernel_rfl
theorem t93(z:IV):aO asK 93 z=ab:=by kernel_rfl
theorem n50:(asK.funcs[50]?).map (·.params.size)=aa 1:=by kernel_rfl
theorem t50(z:IV):aO asK 50 z=ab:=by kernel_rfl
theorem aia:aH asK aac 400 ab 108=JW:=by kernel_rfl
end Go.Proofs.YtggffkaadeagbaaGreat
namespace Go.Proofs.YtggffkaadeagbaaGreat
open Go Go.Ev
theorem aec{a b:List Gl}(h:a.length+b.length<=1000):kq 3 48 (rP a) (rP b)=aa (rP (a++b)):=by
 have h2:=C6 (s:=3) (enc:=Ic) (λx=>⟨_,rfl,rfl,rfl⟩) b;simp[kq,h2];omega
theorem n150:(asK.funcs[150]?).map (·.params.size)=aa 1:=by kernel_rfl
theorem t150(z:IV):aO asK 150 z=ab:=by kernel_rfl
theorem n91:(asK.funcs[91]?).map (·.params.size)=aa 1:=by kernel_rfl
theorem t91(z:IV):aO asK 91 z=ab:=by kernel_rfl
theorem n151:(asK.funcs[151]?).map (·.params.size)=aa 1:=by kernel_rfl
theorem t151(z:IV):aO asK 151 z=ab:=by kernel_rfl
theorem js(r:Rl):ph r=.agg [iS r.name,h_ r.keep,h_ r.remove,rP r.guard,rP r.body,iI r.vars]:=rfl
theorem Xy(r:Rl)(h:r.keep.length+r.remove.length<=1000):CC 150 af [ph r] (h_ (r.keep++r.remove)):=by
 refine CC.of al1 n150 (t150 _) (by simpa using jK r) (by simp) ?_;have h1:=Gv (a:=[]) (b:=r.keep) (by simp;omega);have h2:=Gv h;simp only[atO,aun]at h1;rw[js];simp[Z3,SE.den,aj];exact⟨_,h1,h2⟩
theorem c91(r:Rl)(h:r.keep.length+r.remove.length<=1000):CC 91 af [ph r] (h_ (r.keep++r.remove)):=by
 refine CC.of aqs n91 (t91 _) (by simpa using jK r) (by simp) ?_;have h1:=Gv (a:=[]) (b:=r.keep) (by simp;omega);have h2:=Gv h;simp only[atO,aun]at h1;rw[js];simp[ad6,SE.den,aj];exact⟨_,h1,h2⟩
theorem acS(r:Rl)(h:r.guard.length+r.body.length<=1000):CC 151 af [ph r] (rP (r.guard++r.body)):=by
 refine CC.of al2 n151 (t151 _) (by simpa using jK r) (by simp) ?_;have h1:=aec (a:=[]) (b:=r.guard) (by simp;omega);have h2:=aec h;simp only[atO,aun]at h1;rw[js];simp[Z4,SE.den,aj];exact⟨_,h1,h2⟩
end Go.Proofs.YtggffkaadeagbaaGreat
