/- A part of the proof, no condition: Right of the reference, and the bounds of the law. -/
import Derived.Test.YtggffkaadeagbaaGreatRgK
import Derived.Test.YtggffkaadeagbaaGreatEvJ
open Go.Proofs.Tryz renaming prog->ar3
open List renaming getElem_mem->asb,mem_append_left->atU,mem_append_right->atA,mem_append->asE
open Bool renaming and_eq_true->ar6
set_option linter.all false
namespace Go.Proofs.YtggffkaadeagbaaGreat
open Go Go.Ev
theorem n14:(ar3.funcs[14]?).map (·.params.size)=some 2:=by kernel_rfl
theorem t14(z:IV):aD ar3 14 z=true:=by kernel_rfl
theorem VM{l:List Fa}{id:Int}(h:findF l id=none):∀f∈l,f.id≠id:=by
 intro f hf he;have:=List.find?_eq_none.1 h f hf;simp[he]at this
end Go.Proofs.YtggffkaadeagbaaGreat
namespace Go.Proofs.YtggffkaadeagbaaGreat
open Go Go.Ev
def Zb:List Nat:=[123,127,126,186,189,44,79,30,102,9,10,23,31,15,257,149,89,148,198,147,199,50,191,71,214,93,163,49,152,64,164,158,95,108,206,250,213,130,131,107,129,155,34,90,51,202,153,201,200,151,203,150,204,154,91,41,67,101,99,109,157,210,12,26,28,25,14,19,100,40,39,70,69,35,53,52,68,42,58,75,24,27,22,29,61,190,66,133,128,249,121,78,183]
def Zc:List Nat:=[48,60,63,65,118,124,132,174,197,216,252,263,334]
def Zd:List Nat:=[185,188,254]
def Ze:List Nat:=[155]
def Ta:af:=
 (ny bI 2 bI 3 aY 2 (kY 3 3 102 (q4 3) (tv 4 4 0 2)))
def acO:af:=
 (kB (fx bI .gtr bI bK aQ Ta))
def alX:aL:=⟨Zb,Zc,Zd,[⟨0,79,4,[(0,(5,0))],[],[],[]⟩],Ze⟩
theorem ap1:aA ar3 alX 400 false 79=acO:=by kernel_rfl
def P_:af:=
 (ny dS 1 dS 6 me 1 (jy 6 2 (fe q0 q0 3 (fe wM wM 3 (cB q0 wM (fe (kC q0 wM) (kC q0 wM) 3 (fe oL oL 6 (fe (HY 2 4) (HY 2 4) 6 (ta 44 uZ 3 3 (ta 44 (q4 2) 4 4 (fV 79 (oN 2) (.i 6) (qW 5 5 (fV 79 (qN 2 4) (.i 6) (tv 6 6 0 1))))))))))))))
def Qa:af:=
 (jy 2 0 (fe pU pU 12 (fe dS dS 8 P_)))
def ahF:aL:=⟨Zb,Zc,Zd,[⟨0,30,4,[(0,(3,0))],[],[],[]⟩],Ze⟩
theorem alY:aA ar3 ahF 400 false 30=Qa:=by kernel_rfl
end Go.Proofs.YtggffkaadeagbaaGreat
namespace Go.Proofs.YtggffkaadeagbaaGreat
open Go Go.Ev
theorem n79:(ar3.funcs[79]?).map (·.params.size)=some 2:=by kernel_rfl
theorem t79(z:IV):aD ar3 79 z=true:=by kernel_rfl
theorem acP{l:List Tm}(h:vh l=true):l.length≤8:=by
 unfold vh at h;split at h
 ·cases h
 ·omega
theorem e79(l:List Gl)(n:Int)(hl:Sm l)(hw:∀g∈l,tG g):∃b,(b=true→l.length≤n∧∀g∈l,g.ts.length≤8)∧CC 79 false [qT l,iI n] (iB b):=by
 refine CC.lH _ ap1 n79 t79 (by simp) (by rfl) ?_;simp[acO,SE.den,ab];by_cases z:n<l.length
 ·left;exact z
 right;refine⟨by omega,?_⟩;unfold Ta;refine ao l.length (fun i (_:Unit)=>[iI i]) (fun i _=>∀g∈l.take i,g.ts.length≤8) () ?_ (by simp) fun i _ hi hI=>?_
 ·simp[SE.den]
 by_cases aa:i<l.length
 ·have jv:=aw aa hl;have hg:=hw _ (asb aa);have abp:=aa9 l[i].ts fun t ht=>(hg.2.2 t ht).wf;simp[SE.den,aa,jv,lW aa,ab];refine⟨_,abp,?_⟩;cases ht:vh l[i].ts<;>simp;exact .mk () rfl (by omega) (eR aa hI (acP ht))
 ·simp[SE.den,aa];exact⟨by omega,gV aa hI⟩
theorem e44(l:List At)(hl:Sm l)(hw:∀g∈l,pC g):∃b,(b=true→∀g∈l,g.ts.length≤8)∧CC 44 false [cS l] (iB b):=by
 refine CC.lH _ aow n44 t44 (by simp) (by rfl) ?_;simp[aci,SE.den,ab];refine ao l.length (fun i (_:Unit)=>[iI i]) (fun i _=>∀g∈l.take i,g.ts.length≤8) () ?_ (by simp) fun i _ hi hI=>?_
 ·simp[SE.den]
 by_cases aa:i<l.length
 ·have jv:=aw aa hl;have hg:=hw _ (asb aa);have abp:=aa9 l[i].ts fun t ht=>(hg.2.2 t ht).wf;simp[SE.den,aa,jv,kZ aa,ab];refine⟨_,abp,?_⟩;cases ht:vh l[i].ts<;>simp;exact .mk () rfl (by omega) (eR aa hI (acP ht))
 ·simp[SE.den,aa];exact gV aa hI
structure NmP(p:Pg):Prop where
 sd:Sm p.decls
 sr:Sm p.rules
 d:∀d∈p.decls,Sm d.s
 r:∀r∈p.rules,PZ r∧Sm r.keep∧Sm r.remove∧Sm r.guard∧Sm r.body
theorem e30(p:Pg)(h:NmP p):∃b,(b=true→F4 p)∧CC 30 false [dj p] (iB b):=by
 refine CC.lH _ alY n30 t30 (by simpa using fA p) (by rfl) ?_;obtain⟨ds,rs⟩:=p;obtain⟨sd,sr,hd,hr⟩:=h;simp only at*
 show Qa.sat _ _ _ _ [.agg [ek ds,yn rs]];simp[Qa,SE.den,ab];by_cases z:12<ds.length
 ·left;omega
 right;refine⟨by omega,?_⟩;by_cases z:8<rs.length
 ·left;omega
 right;refine⟨by omega,?_⟩;unfold P_;refine ao rs.length (fun i (_:Unit)=>[iI i]) (fun i _=>∀r∈rs.take i,Lz r) () ?_ (by simp) fun i _ hi hI=>?_
 ·simp[SE.den]
 by_cases aa:i<rs.length
 ·have jv:=aw aa sr;obtain⟨mN,s1,s2,s3,s4⟩:=hr _ (asb aa);obtain⟨b1,f1,h1⟩:=e44 rs[i].keep s1 fun a ha=>mN.hs a (atU _ ha);obtain⟨b2,f2,h2⟩:=e44 rs[i].remove s2 fun a ha=>mN.hs a (atA _ ha);obtain⟨b3,f3,h3⟩:=e79 rs[i].guard 6 s3 fun a ha=>mN.gs a (atU _ ha);obtain⟨b4,f4,h4⟩:=e79 rs[i].body 6 s4 fun a ha=>mN.gs a (atA _ ha);simp[SE.den,aa,jv,G8 aa,ab];by_cases y1:3<rs[i].keep.length
  ·left;omega
  right;refine⟨by omega,?_⟩;by_cases y2:3<rs[i].remove.length
  ·left;omega
  right;refine⟨by omega,?_⟩;have P9:IntKind.i64.wrap ((rs[i].keep.length:Int)+(rs[i].remove.length:Int))=rs[i].keep.length+rs[i].remove.length:=eb (by omega) (by omega);simp[P9];by_cases y3:(3:Int)<rs[i].keep.length+rs[i].remove.length
  ·left;exact y3
  right;refine⟨by omega,?_⟩;by_cases y4:6<rs[i].guard.length
  ·left;omega
  right;refine⟨by omega,?_⟩;by_cases y5:6<rs[i].body.length
  ·left;omega
  right;refine⟨by omega,?_⟩;refine⟨_,h1,?_⟩;cases b1<;>simp;refine⟨_,h2,?_⟩;cases b2<;>simp;refine⟨_,h3,?_⟩;cases b3<;>simp;refine⟨_,h4,?_⟩;cases b4<;>simp;refine .mk () rfl (by omega) (eR aa hI ⟨by omega,by omega,by omega,fun a ha=>?_,fun a ha=>?_⟩)
  ·rcases asE.1 ha with ha|ha
   ·exact f1 rfl a ha
   ·exact f2 rfl a ha
  ·rcases asE.1 ha with ha|ha
   ·exact(f3 rfl).2 a ha
   ·exact(f4 rfl).2 a ha
 ·simp[SE.den,aa];exact⟨by simp;omega,by simp;omega,hd,gV aa hI,fun r tO=>(hr r tO).1⟩
theorem VN{m:Me}(hm:CS m)(h:qR m=true):vI m:=by
 obtain⟨b1,b2,b3,b4⟩:=O8 hm h;simp only[qR,qQ,ar6,decide_eq_true_eq,List.all_eq_true,O7,Fj]at h;refine⟨hm,b1,b2,b3,fun x hx=>?_,fun f hf=>?_⟩
 ·have:=h.2.2.2 x hx;exact⟨this.1,this.2.1,this.2.2.1,this.2.2.2⟩
 ·rcases asE.1 hf with hf|hf
  ·exact(h.1.2 f hf).1
  ·exact(h.2.1.2 f hf).1
theorem e10(p:Pg)(hp:NmP p)(m:Me)(hm:CS m):∃b,(b=true→F4 p∧vI m)∧CC 10 false [dj p,cV m] (iB b):=by
 obtain⟨b30,f30,h30⟩:=e30 p hp;refine⟨b30&&qR m,fun hb=>?_,?_⟩
 ·rw[ar6]at hb;exact⟨f30 hb.1,VN hm hb.2⟩
 refine CC.of aoy n10 (t10 _) (by intro y hy;simp at hy;rcases hy with rfl|rfl;exact fA p;exact gq m) (by simp) ?_;obtain⟨ds,rs⟩:=p;simp only[dj]at*
 simp[ack,SE.den,cV,ab];refine⟨_,h30,?_⟩;cases b30<;>simp;refine⟨_,c31 m.facts hm.f,?_⟩;simp[SE.den];cases h1:qQ m.facts
 ·left;simp[qR,h1]
 right;simp;refine⟨_,c31 m.past hm.p,?_⟩;simp[SE.den];cases h2:qQ m.past
 ·left;simp[qR,h2]
 right;simp;by_cases h12:12<m.log.length
 ·left;refine⟨by omega,?_⟩;simp[qR];intro _ _ h;omega
 right;refine⟨by omega,?_⟩;refine dh m.log.length (fun i (_:Unit)=>[iI i]) (fun i _=>qR m=(m.log.drop i).all O7) () ?_ ?_ fun i _ hi hI=>?_
 ·simp[SE.den]
 ·simp[qR,h1,h2];omega
 by_cases aa:i<m.log.length
 ·rw[List.drop_eq_getElem_cons aa,List.all_cons]at hI;have jv:=aw aa (by omega);simp[SE.den,aa,jv,ags aa,jR,ab];rw[hI,O7];by_cases a1:8<m.log[i].dw.length
  ·left;exact⟨by omega,by simp;intro h;omega⟩
  right;refine⟨by omega,?_⟩;by_cases a2:8<m.log[i].gone.length
  ·left;exact⟨by omega,by simp;intro _ h;omega⟩
  right;refine⟨by omega,?_⟩;by_cases a3:20<m.log[i].made.length
  ·left;exact⟨by omega,by simp;intro _ _ h;omega⟩
  right;refine⟨by omega,?_⟩;by_cases a4:20<m.log[i].fK.length
  ·left;exact⟨by omega,by simp;intro _ _ _ h;omega⟩
  right;exact⟨by omega,by omega,by rw[decide_eq_true (by omega),decide_eq_true (by omega),decide_eq_true (by omega),decide_eq_true (by omega)];simp⟩
 ·simp[SE.den,aa];rw[hI,List.drop_of_length_le (by omega)];simp
end Go.Proofs.YtggffkaadeagbaaGreat
