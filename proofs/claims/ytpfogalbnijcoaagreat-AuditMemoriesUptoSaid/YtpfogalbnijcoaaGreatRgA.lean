/- A part of the proof, no condition: the checks of the reference come to an end, names, terms, constraints, goals, variables. -/
import Derived.Test.YtpfogalbnijcoaaGreatRgF
import Derived.Test.YtpfogalbnijcoaaGreatEvP
import Derived.Test.YtpfogalbnijcoaaGreatRuH
open Go.Proofs.Tryz renaming prog->ar1
open ByteArray renaming size->avT
open List renaming mem_append->asn,nil_append->as8,map_nil->auA
open Option renaming some->aa
open Bool renaming true->ab,false->af
set_option linter.all false
namespace Go.Proofs.YtpfogalbnijcoaaGreat
open Go Go.Ev
def isB(z:IV):Prop:=∃b:Bool,z=iB b
def isI(z:IV):Prop:=∃n:Int,z=iI n
@[simp] theorem aq6(b:Bool):isB (iB b):=⟨b,rfl⟩
@[simp] theorem aq7(n:Int):isI (iI n):=⟨n,rfl⟩
variable{n:Nat}{new:Bool}{f:FuncId}{cF:ak}{args:List IV}{cfg:bg}
theorem CC.tot{Q:IV->Prop}(he:aK ar1 cfg n new f=cF)(hl:(ar1.funcs[f]?).map (·.params.size)=aa args.length)(ht:∀z,Q z->aQ ar1 f z=ab)(hp:∀x∈args,Pure x)(hz:∀z,Q z->Pure z)(hn:noTwo cF=ab)
 (hs:cF.sat ar1 CC Q [] args):∃z,Q z/\CC f new args z:=by
 obtain⟨z,h1,h2⟩:=yJ hn hs;exact⟨z,h1,CC.of he hl (ht z h1) hp (hz z h1) h2⟩
def nQ(p:Bool->Prop)(z:IV):Prop:=∃b:Bool,z=iB b/\p b
@[simp] theorem aeR(p:Bool->Prop)(b:Bool):nQ p (iB b)↔p b:=⟨λ⟨b',h1,h2⟩=>by cases h1;exact h2,λh=>⟨b,rfl,h⟩⟩
theorem CC.qq(p:Bool->Prop)(he:aK ar1 cfg n new f=cF)(hl:(ar1.funcs[f]?).map (·.params.size)=aa args.length)(ht:∀z,aQ ar1 f z=ab)(hp:∀x∈args,Pure x)(hn:noTwo cF=ab)
 (hs:cF.sat ar1 CC (nQ p) [] args):∃b,p b/\CC f new args (iB b):=by
 obtain⟨z,⟨b,rfl,hb⟩,h2⟩:=CC.tot he hl (λz _=>ht z) hp (by rintro _ ⟨b,rfl,_⟩;exact .raw _) hn hs;exact⟨b,hb,h2⟩
abbrev oZ(c:Int):IV:=.raw (.int .u8 c)
@[simp] theorem arw(t:TypeId)(a b:Int):dc ar1 .lss t (oZ a) (oZ b)=aa (iB (decide (a<b))):=rfl
@[simp] theorem arx(t:TypeId)(a b:Int):dc ar1 .gtr t (oZ a) (oZ b)=aa (iB (decide (a>b))):=rfl
@[simp] theorem ary(t:TypeId)(a b:Int):dc ar1 .leq t (oZ a) (oZ b)=aa (iB (decide (a<=b))):=rfl
@[simp] theorem arz(t:TypeId)(a b:Int):dc ar1 .geq t (oZ a) (oZ b)=aa (iB (decide (a≥b))):=rfl
@[simp] theorem arA(t:TypeId)(a b:Int):dc ar1 .neq t (oZ a) (oZ b)=aa (iB (a !=b)):=rfl
@[simp] theorem arB(t:TypeId)(a b:List UInt8):dc ar1 .eql t (iS a) (iS b)=aa (iB (a==b)):=by
  show aa (IV.bool (a.toArray.toList==b.toArray.toList))=_;simp
@[simp] theorem ahg(l:List UInt8):xC (iS l)=aa (iI l.length):=by
  simp[xC,avT]
theorem n148:(ar1.funcs[198]?).map (·.params.size)=aa 1:=by kernel_rfl
theorem t148(z:IV):aQ ar1 198 z=ab:=by kernel_rfl
theorem n198:(ar1.funcs[240]?).map (·.params.size)=aa 1:=by kernel_rfl
theorem t198(z:IV):aQ ar1 240 z=ab:=by kernel_rfl
theorem n149:(ar1.funcs[199]?).map (·.params.size)=aa 1:=by kernel_rfl
theorem t149(z:IV):aQ ar1 199 z=ab:=by kernel_rfl
theorem n257:(ar1.funcs[272]?).map (·.params.size)=aa 1:=by kernel_rfl
theorem t257(z:IV):aQ ar1 272 z=ab:=by kernel_rfl
@[simp] theorem aqY{e i:SE}{ν:List IV}{l:List UInt8}{k:Nat}{c:UInt8}(he:e.den ar1 ν=aa (iS l))(hi:i.den ar1 ν=aa (iI (k:Nat)))(hc:l[k]?=aa c):(SE.GF e i).den ar1 ν=aa (oZ (c.toNat:Int)):=by
  simp[SE.den,he,hi,hc]
theorem n147:(ar1.funcs[197]?).map (·.params.size)=aa 1:=by kernel_rfl
theorem t147(z:IV):aQ ar1 197 z=ab:=by kernel_rfl
theorem n89:(ar1.funcs[118]?).map (·.params.size)=aa 1:=by kernel_rfl
theorem t89(z:IV):aQ ar1 118 z=ab:=by kernel_rfl
end Go.Proofs.YtpfogalbnijcoaaGreat
namespace Go.Proofs.YtpfogalbnijcoaaGreat
open Go Go.Ev
mutual
def og:Tm->Prop
 |.mk _ _ s ts=>Sm s/\Sm ts/\QI ts
def QI:List Tm->Prop
 |[]=>True
 |t::l=>og t/\QI l
end
theorem QJ:∀l:List Tm,QI l↔∀t∈l,og t
 |[]=>by simp[QI]
 |t::l=>by simp[QI,QJ l]
theorem mR(t:Tm):og t↔Sm t.s/\Sm t.ts/\∀u∈t.ts,og u:=by cases t;simp[og,QJ,Tm.ts,Tm.s]
theorem og.wf:∀t:Tm,og t->wH t
 |.mk k n s ts,h=>(Bj _).2 ⟨((mR _).1 h).2.1,λu hu=>og.wf u (((mR _).1 h).2.2 u hu)⟩
 decreasing_by simp[Tm.ts]at hu;have:=List.sizeOf_lt_of_mem hu;simp;omega
mutual
def dv:Tm->Prop
 |.mk k n _ ts=>(k=1->0<=n/\n<=1048576)/\(k=2->EJ ts)
def EJ:List Tm->Prop
 |[]=>True
 |t::l=>dv t/\EJ l
end
theorem Jt:∀l:List Tm,EJ l↔∀t∈l,dv t
 |[]=>by simp[EJ]
 |t::l=>by simp[EJ,Jt l]
theorem zZ(t:Tm):dv t↔(t.k=1->0<=t.n/\t.n<=1048576)/\(t.k=2->∀u∈t.ts,dv u):=by cases t;simp[dv,Jt,Tm.ts,Tm.k,Tm.n]
theorem Zv{t u:Tm}(h:dv t)(hu:u∈bW t):dv u:=by
 unfold bW at hu;split at hu
 ·exact((zZ t).1 h).2 (by assumption) u hu
 ·simp at hu
theorem aB{α:Type}{p:α->Prop}{l:List α}{i:Nat}(h:i<l.length)(h1:∀u∈l.take i,p u)(h2:p l[i]):∀u∈l.take (i+1),p u:=by
 intro u hu;rw[List.take_succ_eq_append_getElem h]at hu;rcases asn.1 hu with hu|hu
 ·exact h1 u hu
 ·simp at hu;subst hu;exact h2
theorem aI{α:Type}{p:α->Prop}{l:List α}{i:Nat}(h:¬i<l.length)(h1:∀u∈l.take i,p u):∀u∈l,p u:=by
 rwa[List.take_of_length_le (by omega)]at h1
theorem n213:(ar1.funcs[248]?).map (·.params.size)=aa 1:=by kernel_rfl
theorem t213(z:IV):aQ ar1 248 z=ab:=by kernel_rfl
theorem n214:(ar1.funcs[249]?).map (·.params.size)=aa 1:=by kernel_rfl
theorem t214(z:IV):aQ ar1 249 z=ab:=by kernel_rfl
end Go.Proofs.YtpfogalbnijcoaaGreat
namespace Go.Proofs.YtpfogalbnijcoaaGreat
open Go Go.Ev
structure Gl where
 op:Int
 s:List UInt8
 ts:List Tm
structure Rl where
 name:List UInt8
 keep:List At
 remove:List At
 guard:List Gl
 body:List Gl
 vars:Int
structure De where
 s:List UInt8
 n:Int
structure Pg where
 decls:List De
 rules:List Rl
def HK(g:Gl):IV:=.agg [iI g.op,iS g.s,iT g.ts]
abbrev rf(l:List Gl):IV:=.tree 3 (l.map HK)
def gO(r:Rl):IV:=.agg [iS r.name,nf r.keep,nf r.remove,rf r.guard,rf r.body,iI r.vars]
abbrev nj(l:List Rl):IV:=.tree 6 (l.map gO)
def QK(d:De):IV:=.agg [iS d.s,iI d.n]
abbrev eo(l:List De):IV:=.tree 2 (l.map QK)
def eI(p:Pg):IV:=.agg [eo p.decls,nj p.rules]
theorem EK(a:Gl):Pure (HK a):=.agg _ (by simp)
@[simp] theorem ab3(l:List Gl):Pure (rf l):=pM 3 HK (λa=>⟨_,rfl,by simp⟩) l
theorem fx(a:Rl):Pure (gO a):=.agg _ (by simp)
@[simp] theorem apz(l:List Rl):Pure (nj l):=pM 6 gO (λa=>⟨_,rfl,by simp⟩) l
@[simp] theorem HL(l:List De):Pure (eo l):=pM 2 QK (λa=>⟨_,rfl,by simp⟩) l
theorem eJ(a:Pg):Pure (eI a):=.agg _ (by simp)
def sL(a:At):Prop:=Sm a.s/\Sm a.ts/\∀t∈a.ts,og t
def sM(a:Gl):Prop:=Sm a.s/\Sm a.ts/\∀t∈a.ts,og t
theorem n163:(ar1.funcs[206]?).map (·.params.size)=aa 1:=by kernel_rfl
theorem t163(z:IV):aQ ar1 206 z=ab:=by kernel_rfl
theorem n107:(ar1.funcs[124]?).map (·.params.size)=aa 1:=by kernel_rfl
theorem t107(z:IV):aQ ar1 124 z=ab:=by kernel_rfl
theorem n49:(ar1.funcs[61]?).map (·.params.size)=aa 1:=by kernel_rfl
theorem t49(z:IV):aQ ar1 61 z=ab:=by kernel_rfl
def gF(op:Int):Int:=if op=1\/op=2 then 0 else if op=11\/op=12 then 1 else if 2<op/\op<11 then 2 else-1
theorem n199:(ar1.funcs[241]?).map (·.params.size)=aa 1:=by kernel_rfl
theorem t199(z:IV):aQ ar1 241 z=ab:=by kernel_rfl
theorem apA(op:Int):CC 241 af [iI op] (iI (gF op)):=by
 refine CC.of ak7 n199 (t199 _) (by simp) (by simp) ?_;simp[Zg,SE.den,gF]
 grind
theorem n152:(ar1.funcs[202]?).map (·.params.size)=aa 1:=by kernel_rfl
theorem t152(z:IV):aQ ar1 202 z=ab:=by kernel_rfl
end Go.Proofs.YtpfogalbnijcoaaGreat
namespace Go.Proofs.YtpfogalbnijcoaaGreat
open Go Go.Ev
theorem ua{l:List De}{i:Nat}(h:i<l.length):dD 2 (eo l) (iI (i:Nat))=aa (.agg [iS l[i].s,iI l[i].n]):=gj (by simp[h,QK]) rfl
theorem kU{l:List Gl}{i:Nat}(h:i<l.length):dD 3 (rf l) (iI (i:Nat))=aa (.agg [iI l[i].op,iS l[i].s,iT l[i].ts]):=gj (by simp[h,HK]) rfl
theorem n51:(ar1.funcs[63]?).map (·.params.size)=aa 3:=by kernel_rfl
theorem t51(z:IV):aQ ar1 63 z=ab:=by kernel_rfl
theorem n200:(ar1.funcs[242]?).map (·.params.size)=aa 3:=by kernel_rfl
theorem t200(z:IV):aQ ar1 242 z=ab:=by kernel_rfl
theorem n201:(ar1.funcs[243]?).map (·.params.size)=aa 2:=by kernel_rfl
theorem t201(z:IV):aQ ar1 243 z=ab:=by kernel_rfl
theorem n202:(ar1.funcs[244]?).map (·.params.size)=aa 1:=by kernel_rfl
theorem t202(z:IV):aQ ar1 244 z=ab:=by kernel_rfl
theorem n204:(ar1.funcs[246]?).map (·.params.size)=aa 2:=by kernel_rfl
theorem t204(z:IV):aQ ar1 246 z=ab:=by kernel_rfl
end Go.Proofs.YtpfogalbnijcoaaGreat
namespace Go.Proofs.YtpfogalbnijcoaaGreat
open Go Go.Ev
def Vr(l:List Int):Prop:=l.Nodup/\∀x∈l,0<=x/\x<=1048576
theorem Zw:∀(N:Nat) (l:List Int),l.Nodup->(∀x∈l,0<=x/\x<N)->l.length<=N
 |0,[],_,_=>by simp
 |0,x::l,_,h=>by have:=h x (by simp);omega
 |N+1,l,hn,h=>by
  have ih:=Zw N (l.erase (N:Int)) (hn.erase _) λx hx=>by
   have h1:=h x (List.mem_of_mem_erase hx);have h2:x≠(N:Int):=λhe=>by rw[hn.mem_erase_iff]at hx;exact hx.1 he
   omega
  rw[List.length_erase]at ih;split at ih<;>omega
theorem Vr.len{l:List Int}(h:Vr l):l.length<=1048577:=Zw 1048577 l h.1 λx hx=>by have:=h.2 x hx;omega
theorem Vr.nil:Vr []:=⟨by simp,by simp⟩
theorem Vr.snoc{l:List Int}{n:Int}(h:Vr l)(h1:n∉l)(h2:0<=n/\n<=1048576):Vr (l++[n]):=by
 refine⟨?_,λx hx=>?_⟩
 ·rw[List.nodup_append];exact⟨h.1,by simp,λa ha b hb=>by simp at hb;subst hb;exactλhe=>h1 (he▸ha)⟩
 ·rcases asn.1 hx with hx|hx
  ·exact h.2 x hx
  ·simp at hx;subst hx;exact h2
theorem als:ar1.funcs.size=377:=by kernel_rfl
def CN(p:List Int->Prop)(z:IV):Prop:=∃l:List Int,z=iL l/\p l
theorem ahh{a b:List Int}(h:iL a=iL b):a=b:=by
 injection h with _ h2
 exact(List.map_inj_right (λx y hh=>by injection hh with hh;injection hh)).1 h2
@[simp] theorem Bl(p:List Int->Prop)(l:List Int):CN p (iL l)↔p l:=⟨λ⟨b',h1,h2⟩=>by rw[ahh h1];exact h2,λh=>⟨l,rfl,h⟩⟩
theorem CC.ahi{n:Nat}{new:Bool}{f:FuncId}{cF:ak}{cfg:bg}{l:List Int}{xs:List IV}(p:List Int->Prop)(he:xG ar1 cfg n 1 f=cF)(hl:(ar1.funcs[f]?).map (·.params.size)=aa (xs.length+1))(hn:noTwo cF=ab)
 (hs:cF.sat ar1 CC (CN p) [] (iL l::xs)):∃l',p l'/\CC (377+f) new (iL l::xs) (iL l'):=by
 obtain⟨z,⟨l',rfl,hp⟩,h2⟩:=yJ hn hs;refine⟨l',hp,?_⟩;rw[<-als];exact CC.ofRow he hl h2
theorem n155:(ar1.funcs[205]?).map (·.params.size)=aa 2:=by kernel_rfl
theorem Zx(l:List Int):(l.map iI).all (λe=>(cellsOf e).all aA)=ab:=by
 rw[List.all_eq_true];intro e he;obtain⟨x,_,rfl⟩:=List.mem_map.1 he;rfl
end Go.Proofs.YtpfogalbnijcoaaGreat
namespace Go.Proofs.YtpfogalbnijcoaaGreat
open Go Go.Ev
theorem CC.ahj{n:Nat}{new:Bool}{f:FuncId}{cF:ak}{cfg:bg}{args:List IV}(p:List Int->Prop)(he:aK ar1 cfg n new f=cF)(hl:(ar1.funcs[f]?).map (·.params.size)=aa args.length)(ht:∀z,aQ ar1 f z=ab)(hp:∀x∈args,Pure x)(hn:noTwo cF=ab)
 (hs:cF.sat ar1 CC (CN p) [] args):∃l',p l'/\CC f new args (iL l'):=by
 obtain⟨z,⟨l',rfl,hb⟩,h2⟩:=CC.tot he hl (λz _=>ht z) hp (by rintro _ ⟨b,rfl,_⟩;exact Bi b) hn hs;exact⟨l',hb,h2⟩
theorem n108:(ar1.funcs[125]?).map (·.params.size)=aa 1:=by kernel_rfl
theorem t108(z:IV):aQ ar1 125 z=ab:=by kernel_rfl
theorem n93:(ar1.funcs[122]?).map (·.params.size)=aa 1:=by kernel_rfl
theorem t93(z:IV):aQ ar1 122 z=ab:=by kernel_rfl
theorem n50:(ar1.funcs[62]?).map (·.params.size)=aa 1:=by kernel_rfl
theorem t50(z:IV):aQ ar1 62 z=ab:=by kernel_rfl
theorem ahk:aK ar1 Zi 400 ab 125=Js:=by kernel_rfl
end Go.Proofs.YtpfogalbnijcoaaGreat
namespace Go.Proofs.YtpfogalbnijcoaaGreat
open Go Go.Ev
theorem adr{a b:List Gl}(h:a.length+b.length<=1000):j2 3 48 (rf a) (rf b)=aa (rf (a++b)):=by
 have h2:=CL (s:=3) (enc:=HK) (λx=>⟨_,rfl,rfl,rfl⟩) b;simp[j2,h2];omega
theorem n150:(ar1.funcs[200]?).map (·.params.size)=aa 1:=by kernel_rfl
theorem t150(z:IV):aQ ar1 200 z=ab:=by kernel_rfl
theorem n91:(ar1.funcs[120]?).map (·.params.size)=aa 1:=by kernel_rfl
theorem t91(z:IV):aQ ar1 120 z=ab:=by kernel_rfl
theorem n151:(ar1.funcs[201]?).map (·.params.size)=aa 1:=by kernel_rfl
theorem t151(z:IV):aQ ar1 201 z=ab:=by kernel_rfl
theorem jc(r:Rl):gO r=.agg [iS r.name,nf r.keep,nf r.remove,rf r.guard,rf r.body,iI r.vars]:=rfl
theorem WR(r:Rl)(h:r.keep.length+r.remove.length<=1000):CC 200 af [gO r] (nf (r.keep++r.remove)):=by
 refine CC.of akY n150 (t150 _) (by simpa using fx r) (by simp) ?_;have h1:=F5 (a:=[]) (b:=r.keep) (by simp;omega);have h2:=F5 h;simp only[as8,auA]at h1;rw[jc];simp[Y9,SE.den,aj];exact⟨_,h1,h2⟩
theorem c91(r:Rl)(h:r.keep.length+r.remove.length<=1000):CC 120 af [gO r] (nf (r.keep++r.remove)):=by
 refine CC.of apq n91 (t91 _) (by simpa using fx r) (by simp) ?_;have h1:=F5 (a:=[]) (b:=r.keep) (by simp;omega);have h2:=F5 h;simp only[as8,auA]at h1;rw[jc];simp[adk,SE.den,aj];exact⟨_,h1,h2⟩
theorem ab4(r:Rl)(h:r.guard.length+r.body.length<=1000):CC 201 af [gO r] (rf (r.guard++r.body)):=by
 refine CC.of akZ n151 (t151 _) (by simpa using fx r) (by simp) ?_;have h1:=adr (a:=[]) (b:=r.guard) (by simp;omega);have h2:=adr h;simp only[as8,auA]at h1;rw[jc];simp[Y_,SE.den,aj];exact⟨_,h1,h2⟩
end Go.Proofs.YtpfogalbnijcoaaGreat
