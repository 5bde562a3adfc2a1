/- A part of the proof, no condition: Right of the reference, and the bounds of the law. -/
import Derived.Test.YtggffkaadeagbaaGreatRgK
import Derived.Test.YtggffkaadeagbaaGreatEvJ
open Go.Proofs.Tryz renaming prog->aqD
open List renaming getElem_mem->aqI,mem_append_left->arp,mem_append_right->arn,mem_append->aqX
open Bool renaming and_eq_true->aqG
set_option linter.all false
namespace Go.Proofs.YtggffkaadeagbaaGreat
open Go Go.Ev
theorem n14:(aqD.funcs[14]?).map (·.params.size)=some 2:=by kernel_rfl
theorem t14(z:IV):aN aqD 14 z=true:=by kernel_rfl
theorem IZ{l:List Fa}{id:Int}(h:findF l id=none):∀f∈l,f.id≠id:=by
 intro f hf he;have:=List.find?_eq_none.1 h f hf;simp[he]at this
end Go.Proofs.YtggffkaadeagbaaGreat
namespace Go.Proofs.YtggffkaadeagbaaGreat
open Go Go.Ev
def YP:List Nat:=[123,127,126,186,189,44,79,30,102,9,10,23,31,15,257,149,89,148,198,147,199,50,191,71,214,93,163,49,152,64,164,158,95,108,206,250,213,130,131,107,129,155,34,90,51,202,153,201,200,151,203,150,204,154,91,41,67,101,99,109,157,210,12,26,28,25,14,19,100,40,39,70,69,35,53,52,68,42,58,75,24,27,22,29,61,190,66,133,128,249,121,78,183]
def YQ:List Nat:=[48,60,63,65,118,124,132,174,197,216,252,263,334]
def YR:List Nat:=[185,188,254]
def YS:List Nat:=[155]
def To:ab:=
 (oB cj 2 cj 3 bt 2 (gi 3 3 102 (uN 3) (uL 4 4 0 2)))
def acA:ab:=
 (qT (ov cj .gtr cj dy To))
def akI:bj:=⟨YP,YQ,YR,[⟨0,79,4,[(0,(5,0))],[],[],[]⟩],YS⟩
theorem aoA:aI aqD akI 400 false 79=acA:=by kernel_rfl
def Qe:ab:=
 (oB fc 1 fc 6 ng 1 (lO 6 2 (fe qY qY 3 (fe wa wa 3 (dI qY wa (fe (qS qY wa) (qS qY wa) 3 (fe ow ow 6 (fe (H4 2 4) (H4 2 4) 6 (te 44 uE 3 3 (te 44 (uN 2) 4 4 (sX 79 (ju 2 3) (.i 6) (AY 5 5 (sX 79 (ju 2 4) (.i 6) (uL 6 6 0 1))))))))))))))
def Qf:ab:=
 (lO 2 0 (fe tl tl 12 (fe fc fc 8 Qe)))
def agC:bj:=⟨YP,YQ,YR,[⟨0,30,4,[(0,(3,0))],[],[],[]⟩],YS⟩
theorem akJ:aI aqD agC 400 false 30=Qf:=by kernel_rfl
end Go.Proofs.YtggffkaadeagbaaGreat
namespace Go.Proofs.YtggffkaadeagbaaGreat
open Go Go.Ev
theorem n79:(aqD.funcs[79]?).map (·.params.size)=some 2:=by kernel_rfl
theorem t79(z:IV):aN aqD 79 z=true:=by kernel_rfl
theorem acB{l:List Tm}(h:uS l=true):l.length≤8:=by
 unfold uS at h;split at h
 ·cases h
 ·omega
theorem e79(l:List Gl)(n:Int)(hl:Sm l)(hw:∀g∈l,r6 g):∃b,(b=true→l.length≤n∧∀g∈l,g.ts.length≤8)∧CC 79 false [qL l,iI n] (iB b):=by
 refine CC.q7 _ aoA n79 t79 (by simp) (by rfl) ?_;simp[acA,SE.den,af];by_cases z:n<l.length
 ·left;exact z
 right;refine⟨by omega,?_⟩;unfold To;refine ao l.length (fun i (_:Unit)=>[iI i]) (fun i _=>∀g∈l.take i,g.ts.length≤8) () ?_ (by simp) fun i _ hi hI=>?_
 ·simp[SE.den]
 by_cases aa:i<l.length
 ·have kT:=az aa hl;have hg:=hw _ (aqI aa);have abd:=aa5 l[i].ts fun t ht=>(hg.2.2 t ht).wf;simp[SE.den,aa,kT,lT aa,af];refine⟨_,abd,?_⟩;cases ht:uS l[i].ts<;>simp;exact .mk () rfl (by omega) (ay aa hI (acB ht))
 ·simp[SE.den,aa];exact⟨by omega,aF aa hI⟩
theorem e44(l:List At)(hl:Sm l)(hw:∀g∈l,rZ g):∃b,(b=true→∀g∈l,g.ts.length≤8)∧CC 44 false [mP l] (iB b):=by
 refine CC.q7 _ anm n44 t44 (by simp) (by rfl) ?_;simp[aca,SE.den,af];refine ao l.length (fun i (_:Unit)=>[iI i]) (fun i _=>∀g∈l.take i,g.ts.length≤8) () ?_ (by simp) fun i _ hi hI=>?_
 ·simp[SE.den]
 by_cases aa:i<l.length
 ·have kT:=az aa hl;have hg:=hw _ (aqI aa);have abd:=aa5 l[i].ts fun t ht=>(hg.2.2 t ht).wf;simp[SE.den,aa,kT,rB aa,af];refine⟨_,abd,?_⟩;cases ht:uS l[i].ts<;>simp;exact .mk () rfl (by omega) (ay aa hI (acB ht))
 ·simp[SE.den,aa];exact aF aa hI
structure NmP(p:Pg):Prop where
 sd:Sm p.decls
 sr:Sm p.rules
 d:∀d∈p.decls,Sm d.s
 r:∀r∈p.rules,IX r∧Sm r.keep∧Sm r.remove∧Sm r.guard∧Sm r.body
theorem e30(p:Pg)(h:NmP p):∃b,(b=true→Ao p)∧CC 30 false [f_ p] (iB b):=by
 refine CC.q7 _ akJ n30 t30 (by simpa using ga p) (by rfl) ?_;obtain⟨ds,rs⟩:=p;obtain⟨sd,sr,hd,hr⟩:=h;simp only at*
 show Qf.sat _ _ _ _ [.agg [eI ds,xN rs]];simp[Qf,SE.den,af];by_cases z:12<ds.length
 ·left;omega
 right;refine⟨by omega,?_⟩;by_cases z:8<rs.length
 ·left;omega
 right;refine⟨by omega,?_⟩;unfold Qe;refine ao rs.length (fun i (_:Unit)=>[iI i]) (fun i _=>∀r∈rs.take i,IW r) () ?_ (by simp) fun i _ hi hI=>?_
 ·simp[SE.den]
 by_cases aa:i<rs.length
 ·have kT:=az aa sr;obtain⟨mc,s1,s2,s3,s4⟩:=hr _ (aqI aa);obtain⟨b1,f1,h1⟩:=e44 rs[i].keep s1 fun a ha=>mc.hs a (arp _ ha);obtain⟨b2,f2,h2⟩:=e44 rs[i].remove s2 fun a ha=>mc.hs a (arn _ ha);obtain⟨b3,f3,h3⟩:=e79 rs[i].guard 6 s3 fun a ha=>mc.gs a (arp _ ha);obtain⟨b4,f4,h4⟩:=e79 rs[i].body 6 s4 fun a ha=>mc.gs a (arn _ ha);simp[SE.den,aa,kT,Ha aa,af];by_cases y1:3<rs[i].keep.length
  ·left;omega
  right;refine⟨by omega,?_⟩;by_cases y2:3<rs[i].remove.length
  ·left;omega
  right;refine⟨by omega,?_⟩;have YT:IntKind.i64.wrap ((rs[i].keep.length:Int)+(rs[i].remove.length:Int))=rs[i].keep.length+rs[i].remove.length:=dL (by omega) (by omega);simp[YT];by_cases y3:(3:Int)<rs[i].keep.length+rs[i].remove.length
  ·left;exact y3
  right;refine⟨by omega,?_⟩;by_cases y4:6<rs[i].guard.length
  ·left;omega
  right;refine⟨by omega,?_⟩;by_cases y5:6<rs[i].body.length
  ·left;omega
  right;refine⟨by omega,?_⟩;refine⟨_,h1,?_⟩;cases b1<;>simp;refine⟨_,h2,?_⟩;cases b2<;>simp;refine⟨_,h3,?_⟩;cases b3<;>simp;refine⟨_,h4,?_⟩;cases b4<;>simp;refine .mk () rfl (by omega) (ay aa hI ⟨by omega,by omega,by omega,fun a ha=>?_,fun a ha=>?_⟩)
  ·rcases aqX.1 ha with ha|ha
   ·exact f1 rfl a ha
   ·exact f2 rfl a ha
  ·rcases aqX.1 ha with ha|ha
   ·exact(f3 rfl).2 a ha
   ·exact(f4 rfl).2 a ha
 ·simp[SE.den,aa];exact⟨by simp;omega,by simp;omega,hd,aF aa hI,fun r oh=>(hr r oh).1⟩
theorem VY{m:Me}(hm:IQ m)(h:qJ m=true):Cy m:=by
 obtain⟨b1,b2,b3,b4⟩:=PG hm h;simp only[qJ,qI,aqG,decide_eq_true_eq,List.all_eq_true,PF,Fo]at h;refine⟨hm,b1,b2,b3,fun x hx=>?_,fun f hf=>?_⟩
 ·have:=h.2.2.2 x hx;exact⟨this.1,this.2.1,this.2.2.1,this.2.2.2⟩
 ·rcases aqX.1 hf with hf|hf
  ·exact(h.1.2 f hf).1
  ·exact(h.2.1.2 f hf).1
theorem e10(p:Pg)(hp:NmP p)(m:Me)(hm:IQ m):∃b,(b=true→Ao p∧Cy m)∧CC 10 false [f_ p,gG m] (iB b):=by
 obtain⟨b30,f30,h30⟩:=e30 p hp;refine⟨b30&&qJ m,fun hb=>?_,?_⟩
 ·rw[aqG]at hb;exact⟨f30 hb.1,VY hm hb.2⟩
 refine CC.of ano n10 (t10 _) (by intro y hy;simp at hy;rcases hy with rfl|rfl;exact ga p;exact pj m) (by simp) ?_;obtain⟨ds,rs⟩:=p;simp only[f_]at*
 simp[acd,SE.den,gG,af];refine⟨_,h30,?_⟩;cases b30<;>simp;refine⟨_,c31 m.facts hm.f,?_⟩;simp[SE.den];cases h1:qI m.facts
 ·left;simp[qJ,h1]
 right;simp;refine⟨_,c31 m.past hm.p,?_⟩;simp[SE.den];cases h2:qI m.past
 ·left;simp[qJ,h2]
 right;simp;by_cases H3:12<m.log.length
 ·left;refine⟨by omega,?_⟩;simp[qJ];intro _ _ h;omega
 right;refine⟨by omega,?_⟩;refine eg m.log.length (fun i (_:Unit)=>[iI i]) (fun i _=>qJ m=(m.log.drop i).all PF) () ?_ ?_ fun i _ hi hI=>?_
 ·simp[SE.den]
 ·simp[qJ,h1,h2];omega
 by_cases aa:i<m.log.length
 ·rw[List.drop_eq_getElem_cons aa,List.all_cons]at hI;have kT:=az aa (by omega);simp[SE.den,aa,kT,afV aa,kF,af];rw[hI,PF];by_cases a1:8<m.log[i].bw.length
  ·left;exact⟨by omega,by simp;intro h;omega⟩
  right;refine⟨by omega,?_⟩;by_cases a2:8<m.log[i].gone.length
  ·left;exact⟨by omega,by simp;intro _ h;omega⟩
  right;refine⟨by omega,?_⟩;by_cases a3:20<m.log[i].made.length
  ·left;exact⟨by omega,by simp;intro _ _ h;omega⟩
  right;refine⟨by omega,?_⟩;by_cases a4:20<m.log[i].fV.length
  ·left;exact⟨by omega,by simp;intro _ _ _ h;omega⟩
  right;exact⟨by omega,by omega,by rw[decide_eq_true (by omega),decide_eq_true (by omega),decide_eq_true (by omega),decide_eq_true (by omega)];simp⟩
 ·simp[SE.den,aa];rw[hI,List.drop_of_length_le (by omega)];simp
end Go.Proofs.YtggffkaadeagbaaGreat
