/- A part of the proof, no condition: Right of the reference, and the bounds of the law. -/
import Derived.Test.YtggffkaadeagbaaGreatRgK
import Derived.Test.YtggffkaadeagbaaGreatEvJ
open Go.Proofs.Tryz renaming prog->asK
open List renaming getElem_mem->asO,mem_append_left->atz,mem_append_right->atx,mem_append->as8
open Bool renaming and_eq_true->asN
open Option renaming some->aa,none->ah
open Bool renaming true->ab,false->af
set_option linter.all false
namespace Go.Proofs.YtggffkaadeagbaaGreat
open Go Go.Ev
theorem n14:(asK.funcs[14]?).map (·.params.size)=aa 2:=by kernel_rfl
theorem t14(z:IV):aO asK 14 z=ab:=by kernel_rfl
theorem J1{l:List Fa}{id:Int}(h:findF l id=ah):∀f∈l,f.id≠id:=by
 intro f hf he;have:=List.find?_eq_none.1 h f hf;simp[he]at this
end Go.Proofs.YtggffkaadeagbaaGreat
namespace Go.Proofs.YtggffkaadeagbaaGreat
open Go Go.Ev
def aaz:List Nat:=[123,127,126,186,189,44,79,30,102,9,10,23,31,15,257,149,89,148,198,147,199,50,191,71,214,93,163,49,152,64,164,158,95,108,206,250,213,130,131,107,129,155,34,90,51,202,153,201,200,151,203,150,204,154,91,41,67,101,99,109,157,210,12,26,28,25,14,19,100,40,39,70,69,35,53,52,68,42,58,75,24,27,22,29,61,190,66,133,128,249,121,78,183]
def aaA:List Nat:=[48,60,63,65,118,124,132,174,197,216,252,263,334]
def aaB:List Nat:=[185,188,254]
def aaC:List Nat:=[155]
def Uw:ak:=
 (mW bK 2 bK 3 bw 2 (gB 3 3 102 (vS 3) (r_ 4 4 0 2)))
def aee:ak:=
 (qz (pz bK .gtr bK cZ Uw))
def amy:a_:=⟨aaz,aaA,aaB,[⟨0,79,4,[(0,(5,0))],[],[],[]⟩],aaC⟩
theorem aqD:aH asK amy 400 af 79=aee:=by kernel_rfl
def Rm:ak:=
 (mW eY 1 eY 6 og 1 (lq 6 2 (fC r6 r6 3 (fC xm xm 3 (cY r6 xm (fC (mU r6 xm) (mU r6 xm) 3 (fC pB pB 6 (fC (Ja 2 4) (Ja 2 4) 6 (uo 44 vI 3 3 (uo 44 (vS 2) 4 4 (kD 79 (jH 2 3) (.i 6) (vw 5 5 (kD 79 (jH 2 4) (.i 6) (r_ 6 6 0 1))))))))))))))
def Rn:ak:=
 (lq 2 0 (fC uy uy 12 (fC eY eY 8 Rm)))
def aim:a_:=⟨aaz,aaA,aaB,[⟨0,30,4,[(0,(3,0))],[],[],[]⟩],aaC⟩
theorem amz:aH asK aim 400 af 30=Rn:=by kernel_rfl
end Go.Proofs.YtggffkaadeagbaaGreat
namespace Go.Proofs.YtggffkaadeagbaaGreat
open Go Go.Ev
theorem n79:(asK.funcs[79]?).map (·.params.size)=aa 2:=by kernel_rfl
theorem t79(z:IV):aO asK 79 z=ab:=by kernel_rfl
theorem aef{l:List Tm}(h:vY l=ab):l.length<=8:=by
 unfold vY at h;split at h
 ·cases h
 ·omega
theorem e79(l:List Gl)(n:Int)(hl:Sm l)(hw:∀g∈l,ta g):∃b,(b=ab->l.length<=n/\∀g∈l,g.ts.length<=8)/\CC 79 af [rP l,iI n] (iB b):=by
 refine CC.qP _ aqD n79 t79 (by simp) (by rfl) ?_;simp[aee,SE.den,aj];by_cases z:n<l.length
 ·left;exact z
 right;refine⟨by omega,?_⟩;unfold Uw;refine aw l.length (λi (_:Unit)=>[iI i]) (λi _=>∀g∈l.take i,g.ts.length<=8) () ?_ (by simp) λi _ hi hI=>?_
 ·simp[SE.den]
 by_cases ai:i<l.length
 ·have lM:=aD ai hl;have hg:=hw _ (asO ai);have acT:=acK l[i].ts λt ht=>(hg.2.2 t ht).wf;simp[SE.den,ai,lM,mI ai,aj];refine⟨_,acT,?_⟩;cases ht:vY l[i].ts<;>simp;exact .mk () rfl (by omega) (aC ai hI (aef ht))
 ·simp[SE.den,ai];exact⟨by omega,aK ai hI⟩
theorem e44(l:List At)(hl:Sm l)(hw:∀g∈l,nz g):∃b,(b=ab->∀g∈l,g.ts.length<=8)/\CC 44 af [h_ l] (iB b):=by
 refine CC.qP _ apo n44 t44 (by simp) (by rfl) ?_;simp[adS,SE.den,aj];refine aw l.length (λi (_:Unit)=>[iI i]) (λi _=>∀g∈l.take i,g.ts.length<=8) () ?_ (by simp) λi _ hi hI=>?_
 ·simp[SE.den]
 by_cases ai:i<l.length
 ·have lM:=aD ai hl;have hg:=hw _ (asO ai);have acT:=acK l[i].ts λt ht=>(hg.2.2 t ht).wf;simp[SE.den,ai,lM,ly ai,aj];refine⟨_,acT,?_⟩;cases ht:vY l[i].ts<;>simp;exact .mk () rfl (by omega) (aC ai hI (aef ht))
 ·simp[SE.den,ai];exact aK ai hI
structure NmP(p:Pg):Prop where
 sd:Sm p.decls
 sr:Sm p.rules
 d:∀d∈p.decls,Sm d.s
 r:∀r∈p.rules,JZ r/\Sm r.keep/\Sm r.remove/\Sm r.guard/\Sm r.body
theorem e30(p:Pg)(h:NmP p):∃b,(b=ab->yW p)/\CC 30 af [dm p] (iB b):=by
 refine CC.qP _ amz n30 t30 (by simpa using fx p) (by rfl) ?_;obtain⟨ds,rs⟩:=p;obtain⟨sd,sr,hd,hr⟩:=h;simp only at*
 show Rn.sat _ _ _ _ [.agg [eK ds,yV rs]];simp[Rn,SE.den,aj];by_cases z:12<ds.length
 ·left;omega
 right;refine⟨by omega,?_⟩;by_cases z:8<rs.length
 ·left;omega
 right;refine⟨by omega,?_⟩;unfold Rm;refine aw rs.length (λi (_:Unit)=>[iI i]) (λi _=>∀r∈rs.take i,JY r) () ?_ (by simp) λi _ hi hI=>?_
 ·simp[SE.den]
 by_cases ai:i<rs.length
 ·have lM:=aD ai sr;obtain⟨nb,s1,s2,s3,s4⟩:=hr _ (asO ai);obtain⟨b1,f1,h1⟩:=e44 rs[i].keep s1 λa ha=>nb.hs a (atz _ ha);obtain⟨b2,f2,h2⟩:=e44 rs[i].remove s2 λa ha=>nb.hs a (atx _ ha);obtain⟨b3,f3,h3⟩:=e79 rs[i].guard 6 s3 λa ha=>nb.gs a (atz _ ha);obtain⟨b4,f4,h4⟩:=e79 rs[i].body 6 s4 λa ha=>nb.gs a (atx _ ha);simp[SE.den,ai,lM,Ig ai,aj];by_cases y1:3<rs[i].keep.length
  ·left;omega
  right;refine⟨by omega,?_⟩;by_cases y2:3<rs[i].remove.length
  ·left;omega
  right;refine⟨by omega,?_⟩;have hwl:IntKind.i64.wrap ((rs[i].keep.length:Int)+(rs[i].remove.length:Int))=rs[i].keep.length+rs[i].remove.length:=cQ (by omega) (by omega);simp[hwl];by_cases y3:(3:Int)<rs[i].keep.length+rs[i].remove.length
  ·left;exact y3
  right;refine⟨by omega,?_⟩;by_cases y4:6<rs[i].guard.length
  ·left;omega
  right;refine⟨by omega,?_⟩;by_cases y5:6<rs[i].body.length
  ·left;omega
  right;refine⟨by omega,?_⟩;refine⟨_,h1,?_⟩;cases b1<;>simp;refine⟨_,h2,?_⟩;cases b2<;>simp;refine⟨_,h3,?_⟩;cases b3<;>simp;refine⟨_,h4,?_⟩;cases b4<;>simp;refine .mk () rfl (by omega) (aC ai hI ⟨by omega,by omega,by omega,λa ha=>?_,λa ha=>?_⟩)
  ·rcases as8.1 ha with ha|ha
   ·exact f1 rfl a ha
   ·exact f2 rfl a ha
  ·rcases as8.1 ha with ha|ha
   ·exact(f3 rfl).2 a ha
   ·exact(f4 rfl).2 a ha
 ·simp[SE.den,ai];exact⟨by simp;omega,by simp;omega,hd,aK ai hI,λr po=>(hr r po).1⟩
theorem XA{m:Me}(hm:DI m)(h:rN m=ab):q8 m:=by
 obtain⟨b1,b2,b3,b4⟩:=QN hm h;simp only[rN,rM,asN,decide_eq_true_eq,List.all_eq_true,QM,Gu]at h;refine⟨hm,b1,b2,b3,λx hx=>?_,λf hf=>?_⟩
 ·have:=h.2.2.2 x hx;exact⟨this.1,this.2.1,this.2.2.1,this.2.2.2⟩
 ·rcases as8.1 hf with hf|hf
  ·exact(h.1.2 f hf).1
  ·exact(h.2.1.2 f hf).1
theorem e10(p:Pg)(hp:NmP p)(m:Me)(hm:DI m):∃b,(b=ab->yW p/\q8 m)/\CC 10 af [dm p,dr m] (iB b):=by
 obtain⟨b30,f30,h30⟩:=e30 p hp;refine⟨b30&&rN m,λhb=>?_,?_⟩
 ·rw[asN]at hb;exact⟨f30 hb.1,XA hm hb.2⟩
 refine CC.of apr n10 (t10 _) (by intro y hy;simp at hy;rcases hy with rfl|rfl;exact fx p;exact iQ m) (by simp) ?_;obtain⟨ds,rs⟩:=p;simp only[dm]at*
 simp[adU,SE.den,dr,aj];refine⟨_,h30,?_⟩;cases b30<;>simp;refine⟨_,c31 m.facts hm.f,?_⟩;simp[SE.den];cases h1:rM m.facts
 ·left;simp[rN,h1]
 right;simp;refine⟨_,c31 m.past hm.p,?_⟩;simp[SE.den];cases h2:rM m.past
 ·left;simp[rN,h2]
 right;simp;by_cases DB:12<m.log.length
 ·left;refine⟨by omega,?_⟩;simp[rN];intro _ _ h;omega
 right;refine⟨by omega,?_⟩;refine dD m.log.length (λi (_:Unit)=>[iI i]) (λi _=>rN m=(m.log.drop i).all QM) () ?_ ?_ λi _ hi hI=>?_
 ·simp[SE.den]
 ·simp[rN,h1,h2];omega
 by_cases ai:i<m.log.length
 ·rw[List.drop_eq_getElem_cons ai,List.all_cons]at hI;have lM:=aD ai (by omega);simp[SE.den,ai,lM,Xm ai,kI,aj];rw[hI,QM];by_cases a1:8<m.log[i].bA.length
  ·left;exact⟨by omega,by simp;intro h;omega⟩
  right;refine⟨by omega,?_⟩;by_cases a2:8<m.log[i].gone.length
  ·left;exact⟨by omega,by simp;intro _ h;omega⟩
  right;refine⟨by omega,?_⟩;by_cases a3:20<m.log[i].made.length
  ·left;exact⟨by omega,by simp;intro _ _ h;omega⟩
  right;refine⟨by omega,?_⟩;by_cases a4:20<m.log[i].fA.length
  ·left;exact⟨by omega,by simp;intro _ _ _ h;omega⟩
  right;exact⟨by omega,by omega,by rw[decide_eq_true (by omega),decide_eq_true (by omega),decide_eq_true (by omega),decide_eq_true (by omega)];simp⟩
 ·simp[SE.den,ai];rw[hI,List.drop_of_length_le (by omega)];simp
end Go.Proofs.YtggffkaadeagbaaGreat
