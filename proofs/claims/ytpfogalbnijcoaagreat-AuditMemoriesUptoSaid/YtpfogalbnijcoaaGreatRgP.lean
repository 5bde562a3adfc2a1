/- A part of the proof, no condition: Right of the reference, and the bounds of the law. -/
import Derived.Test.YtpfogalbnijcoaaGreatRgK
import Derived.Test.YtpfogalbnijcoaaGreatEvJ
open Go.Proofs.Tryz renaming prog->ar1
open List renaming getElem_mem->ar5,mem_append_left->asN,mem_append_right->asM,mem_append->asn
open Bool renaming and_eq_true->ar4
open Option renaming some->aa,none->ah
open Bool renaming true->ab,false->af
set_option linter.all false
namespace Go.Proofs.YtpfogalbnijcoaaGreat
open Go Go.Ev
theorem n14:(ar1.funcs[17]?).map (·.params.size)=aa 2:=by kernel_rfl
theorem t14(z:IV):aQ ar1 17 z=ab:=by kernel_rfl
theorem Jy{l:List Fa}{id:Int}(h:findF l id=ah):∀f∈l,f.id≠id:=by
 intro f hf he;have:=List.find?_eq_none.1 h f hf;simp[he]at this
end Go.Proofs.YtpfogalbnijcoaaGreat
namespace Go.Proofs.YtpfogalbnijcoaaGreat
open Go Go.Ev
def ZH:List Nat:=[209,280,208,250,295,22,23,8,49,4,9,272,199,118,198,240,197,241,62,249,122,206,61,202,101,123,125,177,248,124,205,59,119,63,244,203,243,242,201,245,200,246,204,120,36,68,64,126,207,33,17,66,35,34,60,65,37,256,257,227,281,279,187,29,234]
def ZI:List Nat:=[11,193,277,226,318,225]
def ZJ:List Nat:=[238]
def ZK:List Nat:=[205]
def T8:ak:=
 (ga cb 2 cb (qf 3 2 3 3 (qb 49 (rq 3) 4 4 aU 0 2)) iF)
def adt:ak:=
 (ry (lM cb .gtr cb dh aU T8))
def alx:bg:=⟨ZH,ZI,ZJ,[⟨0,23,4,[(0,(5,0))],[],[],[]⟩],ZK⟩
theorem apB:aK ar1 alx 400 af 23=adt:=by kernel_rfl
def QP:ak:=
 (ga gi 1 gi (yr 6 0 1 1 6 2 (fD rB rB 3 (fD wX wX 3 (fK rB wX (fD (mz rB wX) (mz rB wX) 3 (fD oO oO 6 (fD (GH 2 4) (GH 2 4) 6 (ja 22 vg (kh 3 3 (ja 22 (rq 2) (kh 4 4 (qP 23 (rG 2) (.i 6) (kh 5 5 (qP 23 (rM 2) (.i 6) (lP 6 6 aU 0 1))))))))))))))) iF)
def QR:ak:=
 (jP 2 (fD xc xc 12 (fD gi gi 8 QP)))
def ahv:bg:=⟨ZH,ZI,ZJ,[⟨0,8,4,[(0,(3,0))],[],[],[]⟩],ZK⟩
theorem aly:aK ar1 ahv 400 af 8=QR:=by kernel_rfl
end Go.Proofs.YtpfogalbnijcoaaGreat
namespace Go.Proofs.YtpfogalbnijcoaaGreat
open Go Go.Ev
theorem n79:(ar1.funcs[23]?).map (·.params.size)=aa 2:=by kernel_rfl
theorem t79(z:IV):aQ ar1 23 z=ab:=by kernel_rfl
theorem adu{l:List Tm}(h:vB l=ab):l.length<=8:=by
 unfold vB at h;split at h
 ·cases h
 ·omega
theorem e79(l:List Gl)(n:Int)(hl:Sm l)(hw:∀g∈l,sM g):∃b,(b=ab->l.length<=n/\∀g∈l,g.ts.length<=8)/\CC 23 af [rf l,iI n] (iB b):=by
 refine CC.qq _ apB n79 t79 (by simp) (by rfl) ?_;simp[adt,SE.den,aj];by_cases z:n<l.length
 ·left;exact z
 right;refine⟨by omega,?_⟩;unfold T8;refine aw l.length (λi (_:Unit)=>[iI i]) (λi _=>∀g∈l.take i,g.ts.length<=8) () ?_ (by simp) λi _ hi hI=>?_
 ·simp[SE.den]
 by_cases ai:i<l.length
 ·have ll:=aD ai hl;have hg:=hw _ (ar5 ai);have ab5:=abW l[i].ts λt ht=>(hg.2.2 t ht).wf;simp[SE.den,ai,ll,kU ai,aj];refine⟨_,ab5,?_⟩;cases ht:vB l[i].ts<;>simp;exact .mk () rfl (by omega) (aB ai hI (adu ht))
 ·simp[SE.den,ai];exact⟨by omega,aI ai hI⟩
theorem e44(l:List At)(hl:Sm l)(hw:∀g∈l,sL g):∃b,(b=ab->∀g∈l,g.ts.length<=8)/\CC 22 af [nf l] (iB b):=by
 refine CC.qq _ aop n44 t44 (by simp) (by rfl) ?_;simp[ac6,SE.den,aj];refine aw l.length (λi (_:Unit)=>[iI i]) (λi _=>∀g∈l.take i,g.ts.length<=8) () ?_ (by simp) λi _ hi hI=>?_
 ·simp[SE.den]
 by_cases ai:i<l.length
 ·have ll:=aD ai hl;have hg:=hw _ (ar5 ai);have ab5:=abW l[i].ts λt ht=>(hg.2.2 t ht).wf;simp[SE.den,ai,ll,r9 ai,aj];refine⟨_,ab5,?_⟩;cases ht:vB l[i].ts<;>simp;exact .mk () rfl (by omega) (aB ai hI (adu ht))
 ·simp[SE.den,ai];exact aI ai hI
structure NmP(p:Pg):Prop where
 sd:Sm p.decls
 sr:Sm p.rules
 d:∀d∈p.decls,Sm d.s
 r:∀r∈p.rules,Jv r/\Sm r.keep/\Sm r.remove/\Sm r.guard/\Sm r.body
theorem e30(p:Pg)(h:NmP p):∃b,(b=ab->wI p)/\CC 8 af [eI p] (iB b):=by
 refine CC.qq _ aly n30 t30 (by simpa using eJ p) (by rfl) ?_;obtain⟨ds,rs⟩:=p;obtain⟨sd,sr,hd,hr⟩:=h;simp only at*
 show QR.sat _ _ _ _ [.agg [eo ds,nj rs]];simp[QR,SE.den,aj];by_cases z:12<ds.length
 ·left;omega
 right;refine⟨by omega,?_⟩;by_cases z:8<rs.length
 ·left;omega
 right;refine⟨by omega,?_⟩;unfold QP;refine aw rs.length (λi (_:Unit)=>[iI i]) (λi _=>∀r∈rs.take i,Ju r) () ?_ (by simp) λi _ hi hI=>?_
 ·simp[SE.den]
 by_cases ai:i<rs.length
 ·have ll:=aD ai sr;obtain⟨mG,s1,s2,s3,s4⟩:=hr _ (ar5 ai);obtain⟨b1,f1,h1⟩:=e44 rs[i].keep s1 λa ha=>mG.hs a (asN _ ha);obtain⟨b2,f2,h2⟩:=e44 rs[i].remove s2 λa ha=>mG.hs a (asM _ ha);obtain⟨b3,f3,h3⟩:=e79 rs[i].guard 6 s3 λa ha=>mG.gs a (asN _ ha);obtain⟨b4,f4,h4⟩:=e79 rs[i].body 6 s4 λa ha=>mG.gs a (asM _ ha);simp[SE.den,ai,ll,yM ai,aj];by_cases y1:3<rs[i].keep.length
  ·left;omega
  right;refine⟨by omega,?_⟩;by_cases y2:3<rs[i].remove.length
  ·left;omega
  right;refine⟨by omega,?_⟩;have ZL:IntKind.i64.wrap ((rs[i].keep.length:Int)+(rs[i].remove.length:Int))=rs[i].keep.length+rs[i].remove.length:=dQ (by omega) (by omega);simp[ZL];by_cases y3:(3:Int)<rs[i].keep.length+rs[i].remove.length
  ·left;exact y3
  right;refine⟨by omega,?_⟩;by_cases y4:6<rs[i].guard.length
  ·left;omega
  right;refine⟨by omega,?_⟩;by_cases y5:6<rs[i].body.length
  ·left;omega
  right;refine⟨by omega,?_⟩;refine⟨_,h1,?_⟩;cases b1<;>simp;refine⟨_,h2,?_⟩;cases b2<;>simp;refine⟨_,h3,?_⟩;cases b3<;>simp;refine⟨_,h4,?_⟩;cases b4<;>simp;refine .mk () rfl (by omega) (aB ai hI ⟨by omega,by omega,by omega,λa ha=>?_,λa ha=>?_⟩)
  ·rcases asn.1 ha with ha|ha
   ·exact f1 rfl a ha
   ·exact f2 rfl a ha
  ·rcases asn.1 ha with ha|ha
   ·exact(f3 rfl).2 a ha
   ·exact(f4 rfl).2 a ha
 ·simp[SE.den,ai];exact⟨by simp;omega,by simp;omega,hd,aI ai hI,λr oG=>(hr r oG).1⟩
theorem WT{m:Me}(hm:Jq m)(h:ra m=ab):yP m:=by
 obtain⟨b1,b2,b3,b4⟩:=Qj hm h;simp only[ra,q_,ar4,decide_eq_true_eq,List.all_eq_true,Qi,F4]at h;refine⟨hm,b1,b2,b3,λx hx=>?_,λf hf=>?_⟩
 ·have:=h.2.2.2 x hx;exact⟨this.1,this.2.1,this.2.2.1,this.2.2.2⟩
 ·rcases asn.1 hf with hf|hf
  ·exact(h.1.2 f hf).1
  ·exact(h.2.1.2 f hf).1
theorem e10(p:Pg)(hp:NmP p)(m:Me)(hm:Jq m):∃b,(b=ab->wI p/\yP m)/\CC 4 af [eI p,fF m] (iB b):=by
 obtain⟨b30,f30,h30⟩:=e30 p hp;refine⟨b30&&ra m,λhb=>?_,?_⟩
 ·rw[ar4]at hb;exact⟨f30 hb.1,WT hm hb.2⟩
 refine CC.of aor n10 (t10 _) (by intro y hy;simp at hy;rcases hy with rfl|rfl;exact eJ p;exact lS m) (by simp) ?_;obtain⟨ds,rs⟩:=p;simp only[eI]at*
 simp[ac8,SE.den,fF,aj];refine⟨_,h30,?_⟩;cases b30<;>simp;refine⟨_,c31 m.facts hm.f,?_⟩;simp[SE.den];cases h1:q_ m.facts
 ·left;simp[ra,h1]
 right;simp;refine⟨_,c31 m.past hm.p,?_⟩;simp[SE.den];cases h2:q_ m.past
 ·left;simp[ra,h2]
 right;simp;by_cases O_:12<m.log.length
 ·left;refine⟨by omega,?_⟩;simp[ra];intro _ _ h;omega
 right;refine⟨by omega,?_⟩;refine dE m.log.length (λi (_:Unit)=>[iI i]) (λi _=>ra m=(m.log.drop i).all Qi) () ?_ ?_ λi _ hi hI=>?_
 ·simp[SE.den]
 ·simp[ra,h1,h2];omega
 by_cases ai:i<m.log.length
 ·rw[List.drop_eq_getElem_cons ai,List.all_cons]at hI;have ll:=aD ai (by omega);simp[SE.den,ai,ll,agQ ai,kS,aj];rw[hI,Qi];by_cases a1:8<m.log[i].aW.length
  ·left;exact⟨by omega,by simp;intro h;omega⟩
  right;refine⟨by omega,?_⟩;by_cases a2:8<m.log[i].gone.length
  ·left;exact⟨by omega,by simp;intro _ h;omega⟩
  right;refine⟨by omega,?_⟩;by_cases a3:20<m.log[i].made.length
  ·left;exact⟨by omega,by simp;intro _ _ h;omega⟩
  right;refine⟨by omega,?_⟩;by_cases a4:20<m.log[i].ff.length
  ·left;exact⟨by omega,by simp;intro _ _ _ h;omega⟩
  right;exact⟨by omega,by omega,by rw[decide_eq_true (by omega),decide_eq_true (by omega),decide_eq_true (by omega),decide_eq_true (by omega)];simp⟩
 ·simp[SE.den,ai];rw[hI,List.drop_of_length_le (by omega)];simp
end Go.Proofs.YtpfogalbnijcoaaGreat
