/- A part of the proof, no condition: two retractions in one or the other order; facts; entries of a log. -/
import Derived.Test.YtggffkaadeagbaaGreatRuR
import Derived.Test.YtggffkaadeagbaaGreatRgI
import Derived.Test.YtggffkaadeagbaaGreatEvJ
open List renaming pairwise_cons->atk,mem_cons->asZ,pairwise_append->at6,mem_filter->asK,mem_append->asE,take_succ_eq_append_getElem->asm,take_of_length_le->asV,getElem_mem->asb,length_pos_iff->auh,mem_of_mem_take->atn,mem_of_mem_drop->aue,map_nil->atW,map_cons->asY,nil_append->as7
open Go.IntKind renaming i64->aso
open Go.Proofs.Tryz renaming prog->ar3
open Nat renaming le_of_lt->axB,le_refl->ar9
open Int renaming natCast_zero->awR
set_option linter.all false
namespace Go.Proofs.YtggffkaadeagbaaGreat
open Go Go.Ev
def iH(l:List Fa):Prop:=l.Pairwise fun a b=>a.id<b.id
theorem aei{l m:List Fa}(hl:iH l)(hm:iH m)(h:∀f,f∈l↔f∈m):l=m:=by
 induction l generalizing m with
 |nil=>
  cases m with
  |nil=>rfl
  |cons a m=>exact absurd ((h a).2 (by simp)) (by simp)
 |cons a l ih=>
  cases m with
  |nil=>exact absurd ((h a).1 (by simp)) (by simp)
  |cons b m=>
   rw[iH,atk]at hl hm
   have bR:a=b:=by
    rcases asZ.1 ((h a).1 (by simp))with h1|h1
    ·exact h1
    ·rcases asZ.1 ((h b).2 (by simp))with h2|h2
     ·exact h2.symm
     ·have:=hl.1 b h2;have:=hm.1 a h1;omega
   subst bR
   congr 1
   refine ih hl.2 hm.2 fun f=>?_;constructor
   ·intro hf;rcases asZ.1 ((h f).1 (by simp[hf]))with h1|h1
    ·subst h1;have:=hl.1 f hf;omega
    ·exact h1
   ·intro hf;rcases asZ.1 ((h f).2 (by simp[hf]))with h1|h1
    ·subst h1;have:=hm.1 f hf;omega
    ·exact h1
structure S5(m:Me):Prop where
 f:iH m.facts
 p:iH m.past
 d:∀a∈m.facts,∀b∈m.past,a.id≠b.id
theorem P3{l o:List Fa}{f:Fa}:f∈ee jd o l↔f∈o∨f∈l:=by
 induction l generalizing o with
 |nil=>simp[ee]
 |cons x l ih=>rw[ee,ih,rJ];simp;grind
theorem abo{l:List Fa}{x:Fa}(h:iH l)(hx:∀a∈l,a.id≠x.id):iH (ia jd x l):=by
 induction l with
 |nil=>simp[ia,iH]
 |cons a l ih=>
  rw[iH,atk]at h;unfold ia;split
  ·rename_i aa;have h1:x.id<a.id:=by simpa[jd]using aa
   rw[iH,atk,atk];refine⟨fun b hb=>?_,h.1,h.2⟩;rcases asZ.1 hb with rfl|hb
   ·exact h1
   ·have:=h.1 b hb;omega
  ·rename_i aa;have h1:¬x.id<a.id:=by simpa[jd]using aa
   have h2:=hx a (by simp);rw[iH,atk];refine⟨fun b hb=>?_,ih h.2 fun b hb=>hx b (by simp[hb])⟩;rcases rJ.1 hb with rfl|hb
   ·omega
   ·exact h.1 b hb
theorem S6{l o:List Fa}(ho:iH o)(hl:iH l∨l.Pairwise fun a b=>a.id≠b.id)(hd:∀a∈o,∀b∈l,a.id≠b.id):iH (ee jd o l):=by
 have hl:l.Pairwise fun a b=>a.id≠b.id:=by
  rcases hl with hl|hl
  ·exact hl.imp fun h=>by omega
  ·exact hl
 induction l generalizing o with
 |nil=>simpa[ee]using ho
 |cons x l ih=>
  rw[atk]at hl;rw[ee];refine ih (abo ho fun a ha=>hd a ha x (by simp)) (.inr hl.2) (fun a ha b hb=>?_) hl.2;rcases rJ.1 ha with rfl|ha
  ·exact hl.1 b hb
  ·exact hd a ha b (by simp[hb])
theorem S5.ret{m:Me}(h:S5 m)(n:Int)(hn:¬(n<1∨m.given<n)):S5 (lV m n).1∧(lV m n).1.given=m.given∧(lV m n).2=0:=by
 rw[lV,if_neg hn]
 have hs:iH (ee jd [] (m.facts++m.past.filter fun f=>decide (f.id∈gU m n))):=by
  refine S6 (by simp[iH]) (.inr ?_) (by simp);rw[at6];refine⟨h.f.imp fun h=>by omega,(h.p.filter _).imp fun h=>by omega,fun a ha b hb=>h.d a ha b (asK.1 hb).1⟩
 refine⟨⟨hs.filter _,(h.p.filter _).filter _,fun a ha b hb=>?_⟩,rfl,rfl⟩;have h1:=(asK.1 ha).1;have h2:=(asK.1 hb).1;rw[asK]at h2;rcases P3.1 h1 with h1|h1
 ·simp at h1
 ·rcases asE.1 h1 with h1|h1
  ·exact h.d a h1 b h2.1
  ·rw[asK]at h1;intro he;rw[he]at h1;have h3:=h1.2;have h4:=h2.2;simp at h3 h4;exact h4 h3
end Go.Proofs.YtggffkaadeagbaaGreat
namespace Go.Proofs.YtggffkaadeagbaaGreat
open Go Go.Ev
theorem Fm{i n:Nat}(h0:0<i)(h:i≤n)(hn:n≤9223372036854775807):aso.wrap ((i:Int) - 1)=((i- 1:Nat):Int):=by
 rw[eb (by omega) (by omega)];omega
theorem n99:(ar3.funcs[99]?).map (·.params.size)=some 1:=by kernel_rfl
theorem t99(z:IV):aD ar3 99 z=true:=by kernel_rfl
theorem P4{l:List Int}{i:Nat}(h:i<l.length)(hs:(l.take i).Pairwise (·<·))(hk:0<i→∀h':i- 1<l.length,l[i- 1]<l[i]):(l.take (i+1)).Pairwise (·<·):=by
 rw[asm h,at6];refine⟨hs,by simp,fun a ha b hb=>?_⟩;simp at hb;subst hb;by_cases h0:0<i
 ·have hi:i- 1<l.length:=by omega
  have cz:=hk h0 hi
  have e:l.take i=l.take (i- 1)++[l[i- 1]]:=by
   rw[←asm hi];congr 1;omega
  rw[e,at6]at hs;rw[e]at ha;rcases asE.1 ha with ha|ha
  ·have:=hs.2.2 a ha l[i- 1] (by simp);omega
  ·simp at ha;subst ha;exact cz
 ·have:i=0:=by omega
  subst this;simp at ha
theorem P5{l:List Int}(h:l.Pairwise (·<·))(h0:l.length- 1<l.length):∀x∈l,x≤l[l.length- 1]:=by
 intro x hx;obtain⟨i,hi,rfl⟩:=List.getElem_of_mem hx;by_cases he:i=l.length- 1
 ·subst he;exact Int.le_refl _
 ·have:=List.pairwise_iff_getElem.1 h i (l.length- 1) hi h0 (by omega);omega
theorem e99(l:List Int)(hl:Sm l):∃b,(b=true→l.Pairwise (·<·))∧CC 99 false [iL l] (iB b):=by
 refine CC.lH _ apD n99 t99 (by simp) (by rfl) ?_;simp[acH,SR,SE.den,ab];refine ao l.length (fun i (_:Unit)=>[iI i]) (fun i _=>(l.take i).Pairwise (·<·)) () ?_ (by simp) fun i _ hi hI=>?_
 ·simp[SE.den]
 by_cases aa:i<l.length
 ·have hw:=aw aa hl;simp[SE.den,aa,hw,dB aa,ab];by_cases z1:l[i]<1
  ·left;exact z1
  right;refine⟨by omega,?_⟩;by_cases z2:64<l[i]
  ·left;exact z2
  right;refine⟨by omega,?_⟩;by_cases z3:0<i
  ·left;refine⟨z3,?_⟩;have hm:=Fm z3 (axB aa) hl;have fR:i- 1<l.length:=by omega
   have hx:=dB fR;simp only[iL]at hx;simp[hm,hx];by_cases z4:l[i]≤l[i- 1]
   ·left;exact z4
   ·right;exact⟨by omega,.mk () rfl (by omega) (P4 aa hI fun _ _=>by omega)⟩
  ·right;exact⟨by omega,.mk () rfl (by omega) (P4 aa hI fun h=>absurd h z3)⟩
 ·simp[SE.den,aa];rwa[asV (by omega)]at hI
def acN:Fa:=⟨0,⟨[],[]⟩,[]⟩
def findF(l:List Fa)(id:Int):Option Fa:=l.find? fun f=>f.id==id
def qy:Option Fa→IV
 |some f=>.av [dA f,iB true]
 |none=>.av [dA acN,iB false]
theorem n41:(ar3.funcs[41]?).map (·.params.size)=some 2:=by kernel_rfl
theorem t41(a b:IV):aD ar3 41 (.av [a,b])=true:=by kernel_rfl
theorem LB(o:Option Fa):Pure (qy o):=by
 cases o<;>exact .av _ (by simp[D8])
theorem c41(l:List Fa)(id:Int)(hl:Sm l):CC 41 false [bF l,iI id] (qy (findF l id)):=by
 refine CC.of apF n41 (by cases findF l id<;>exact t41 _ _) (by simp) (LB _) ?_;simp[acI,SY,SE.den,ab];refine ao l.length (fun i (_:Unit)=>[iI i]) (fun i _=>findF l id=findF (l.drop i) id) () ?_ (by simp) fun i _ hi hI=>?_
 ·simp[SE.den]
 by_cases aa:i<l.length
 ·have hw:=aw aa hl
  have nS:findF l id=if l[i].id=id then some l[i]else findF (l.drop (i+1)) id:=by
   rw[hI,List.drop_eq_getElem_cons aa];unfold findF;rw[List.find?_cons];by_cases z:l[i].id=id
   ·simp[z]
   ·have:(l[i].id==id)=false:=by simpa using z
    rw[this,if_neg z]
  simp[SE.den,aa,hw,vW aa,ab];by_cases z:l[i].id=id
  ·left;refine⟨z,?_⟩;rw[nS,if_pos z];simp[qy,dA,z]
  ·right;refine⟨z,.mk () rfl (by omega) ?_⟩;rw[nS,if_neg z]
 ·rw[List.drop_of_length_le (by omega)]at hI;simp[SE.den,aa];rw[hI];rfl
theorem n100:(ar3.funcs[100]?).map (·.params.size)=some 2:=by kernel_rfl
theorem t100(a b:IV):aD ar3 100 (.av [a,b])=true:=by kernel_rfl
def uI(m:Me)(id:Int):Option Fa:=match findF m.facts id with
 |some f=>some f
 |none=>findF m.past id
theorem aht(m:Me)(id:Int)(h:CS m):CC 100 false [cV m,iI id] (qy (uI m id)):=by
 refine CC.of alI n100 (by cases uI m id<;>exact t100 _ _) (by simp[gq]) (LB _) ?_;have h1:=c41 m.facts id h.sf;have h2:=c41 m.past id h.sp;simp[YV,SE.den,cV,ab];refine⟨_,h1,?_⟩;unfold uI;cases findF m.facts id with
 |some f=>simp[qy,SE.den,dA,ab]
 |none=>
  simp[qy,SE.den,dA,ab];refine⟨_,h2,?_⟩;cases findF m.past id with
  |some f=>simp[qy,SE.den,dA,ab]
  |none=>simp[qy,SE.den,dA,ab,acN]
theorem LC{l:List Fa}{id:Int}{f:Fa}(h:findF l id=some f):f∈l:=List.mem_of_find?_eq_some h
theorem zZ{m:Me}{id:Int}{f:Fa}(h:uI m id=some f):f∈m.facts++m.past:=by
 unfold uI at h;split at h
 ·cases h;rename_i g;exact List.mem_append_left _ (LC g)
 ·exact List.mem_append_right _ (LC h)
theorem P6{l:List Fa}{i:Nat}(h:i<l.length)(hs:iH (l.take i))(hk:0<i→∀h':i- 1<l.length,l[i- 1].id<l[i].id):iH (l.take (i+1)):=by
 rw[asm h,iH,at6];refine⟨hs,by simp,fun a ha b hb=>?_⟩;simp at hb;subst hb;by_cases h0:0<i
 ·have hi:i- 1<l.length:=by omega
  have cz:=hk h0 hi
  have e:l.take i=l.take (i- 1)++[l[i- 1]]:=by
   rw[←asm hi];congr 1;omega
  rw[e,iH,at6]at hs;rw[e]at ha;rcases asE.1 ha with ha|ha
  ·have:=hs.2.2 a ha l[i- 1] (by simp);omega
  ·simp at ha;subst ha;exact cz
 ·have:i=0:=by omega
  subst this;simp at ha
def zC(f:Fa):Prop:=pC f.a∧Sm f.j
theorem n39:(ar3.funcs[39]?).map (·.params.size)=some 3:=by kernel_rfl
theorem t39(z:IV):aD ar3 39 z=true:=by kernel_rfl
theorem e39(p:Pg)(hd:Sm p.decls)(m:Me)(l:List Fa)(hl:Sm l)(hn:∀f∈l,zC f):∃b,(b=true→iH l∧∀f∈l,∀j∈f.j,j≤m.given)∧CC 39 false [dj p,cV m,bF l] (iB b):=by
 refine CC.lH _ apC n39 t39 (by intro x hx;simp at hx;rcases hx with rfl|rfl|rfl;exact fA p;exact gq m;exact O4 l) (by rfl) ?_;obtain⟨ds,rs⟩:=p;simp only at*
 show VG.sat _ _ _ _ [.agg [ek ds,yn rs],.agg [bF m.facts,bF m.past,nR m.log,iI m.next,iI m.given],bF l];simp[VG,SE.den,ab];unfold SQ;refine ao l.length (fun i (_:Unit)=>[iI i]) (fun i _=>iH (l.take i)∧∀f∈l.take i,∀j∈f.j,j≤m.given) () ?_ (by simp[iH]) fun i _ hi hI=>?_
 ·simp[SE.den]
 by_cases aa:i<l.length
 ·have hw:=aw aa hl;have tW:=hn _ (asb aa);obtain⟨b49,ahu,h49⟩:=e49 l[i].a tW.1;have S7:(l[i].a.ts.length≤6∧∀t∈l[i].a.ts,bx t)→∃l',Vr l'∧CC 50 false [.agg [iS l[i].a.s,iT l[i].a.ts]] (iL l'):=fun hf=>e50 l[i].a tW.1.2.1 fun t ht=>⟨(tW.1.2.2 t ht).wf,hf.2 t ht⟩;obtain⟨b51,h51⟩:=e51 ds l[i].a.s l[i].a.ts.length hd;obtain⟨b99,ahv,h99⟩:=e99 l[i].j tW.2;simp[SE.den,aa,hw,vW aa,ab];by_cases y1:l[i].id<1
  ·left;exact y1
  right;refine⟨by omega,?_⟩;by_cases y2:m.next≤l[i].id
  ·left;exact y2
  right;refine⟨by omega,?_⟩;by_cases y3:0<i
  ·left;refine⟨y3,?_⟩;have hm:=Fm y3 (axB aa) hl;have fR:i- 1<l.length:=by omega
   have hx:=vW fR;simp only[bF]at hx;simp[hm,hx,ab];by_cases y4:l[i].id≤l[i- 1].id
   ·left;exact y4
   right;refine⟨by omega,?_⟩;have jj:0<i→∀h':i- 1<l.length,l[i- 1].id<l[i].id:=fun _ _=>by omega
   refine⟨_,h49,?_⟩;cases b49<;>simp;obtain⟨v,kv,S7⟩:=S7 (ahu rfl);refine⟨_,S7,?_⟩;simp;by_cases z1:v=[]
   rotate_left
   ·left;exact auh.2 z1
   right;refine⟨z1,_,h51,?_⟩;cases b51<;>simp;by_cases z2:l[i].j=[]
   ·left;exact z2
   right;refine⟨z2,_,h99,?_⟩;cases b99<;>simp;have hp:0<l[i].j.length:=auh.2 z2;have j0:cq 1 (iL l[i].j) (iI 0)=some (iI l[i].j[0]):=dB (l:=l[i].j) (i:=0) hp;have j1:=dB (l:=l[i].j) (i:=l[i].j.length- 1) (by omega);have jw:=Fm hp (ar9 _) tW.2;simp only[iL,awR]at j0 j1;simp[j0,j1,jw];by_cases z3:l[i].j[0]<1
   ·left;exact z3
   right;refine⟨by omega,?_⟩;by_cases z4:m.given<l[i].j[l[i].j.length- 1]
   ·left;exact z4
   right;exact⟨by omega,.mk () rfl (by omega) ⟨P6 aa hI.1 jj,eR aa hI.2 fun j hj=>by have:=P5 (ahv rfl) (by omega) j hj;omega⟩⟩
  ·right;refine⟨by omega,?_⟩;have jj:0<i→∀h':i- 1<l.length,l[i- 1].id<l[i].id:=fun h=>absurd h y3;refine⟨_,h49,?_⟩;cases b49<;>simp;obtain⟨v,kv,S7⟩:=S7 (ahu rfl);refine⟨_,S7,?_⟩;simp;by_cases z1:v=[]
   rotate_left
   ·left;exact auh.2 z1
   right;refine⟨z1,_,h51,?_⟩;cases b51<;>simp;by_cases z2:l[i].j=[]
   ·left;exact z2
   right;refine⟨z2,_,h99,?_⟩;cases b99<;>simp;have hp:0<l[i].j.length:=auh.2 z2;have j0:cq 1 (iL l[i].j) (iI 0)=some (iI l[i].j[0]):=dB (l:=l[i].j) (i:=0) hp;have j1:=dB (l:=l[i].j) (i:=l[i].j.length- 1) (by omega);have jw:=Fm hp (ar9 _) tW.2;simp only[iL,awR]at j0 j1;simp[j0,j1,jw];by_cases z3:l[i].j[0]<1
   ·left;exact z3
   right;refine⟨by omega,?_⟩;by_cases z4:m.given<l[i].j[l[i].j.length- 1]
   ·left;exact z4
   right;exact⟨by omega,.mk () rfl (by omega) ⟨P6 aa hI.1 jj,eR aa hI.2 fun j hj=>by have:=P5 (ahv rfl) (by omega) j hj;omega⟩⟩
 ·simp[SE.den,aa];rwa[asV (by omega)]at hI
theorem n42:(ar3.funcs[42]?).map (·.params.size)=some 3:=by kernel_rfl
theorem t42(z:IV):aD ar3 42 z=true:=by kernel_rfl
theorem e42(l:List Ap)(id:Int)(made:Bool)(hl:Sm l)(hg:∀x∈l,Yo x):∃n,CC 42 false [nR l,iI id,iB made] (iI n):=by
 refine CC.int apG n42 t42 (by simp) (by rfl) ?_;simp[acJ,S1,SE.den,ab];refine ao l.length (fun i (a:Int)=>[iI i,iI a]) (fun _ _=>True) 0 ?_ trivial fun i a hi _=>?_
 ·simp[SE.den]
 by_cases aa:i<l.length
 ·have hw:=aw aa hl;obtain⟨w1,w2,w3,w4⟩:=hg _ (asb aa);simp[SE.den,aa,Vu aa,ab];cases made with
  |true=>
   simp;unfold SZ;refine ao l[i].made.length (fun i (a:Int)=>[iI i,iI a]) (fun _ _=>True) a ?_ trivial fun j b hj _=>?_
   ·simp[SE.den]
   by_cases dT:j<l[i].made.length
   ·have No:=aw dT w3;simp[SE.den,dT,No,dB dT];by_cases z:l[i].made[j]=id
    ·left;exact⟨z,.mk _ rfl (by omega) trivial⟩
    ·right;exact⟨z,.mk _ rfl (by omega) trivial⟩
   ·simp[SE.den,dT,hw];exact .mk _ rfl (by omega) trivial
  |false=>
   simp;unfold S0;refine ao l[i].gone.length (fun i (a:Int)=>[iI i,iI a]) (fun _ _=>True) a ?_ trivial fun j b hj _=>?_
   ·simp[SE.den]
   by_cases dT:j<l[i].gone.length
   ·have No:=aw dT w2;simp[SE.den,dT,No,dB dT];by_cases z:l[i].gone[j]=id
    ·left;exact⟨z,.mk _ rfl (by omega) trivial⟩
    ·right;exact⟨z,.mk _ rfl (by omega) trivial⟩
   ·simp[SE.den,dT,hw];exact .mk _ rfl (by omega) trivial
 ·simp[SE.den,aa]
end Go.Proofs.YtggffkaadeagbaaGreat
namespace Go.Proofs.YtggffkaadeagbaaGreat
open Go Go.Ev
def ahw:List Nat:=[123,127,126,186,189,44,79,30,102,9,10,23,31,15,257,149,89,148,198,147,199,50,191,71,214,93,163,49,152,64,164,158,95,108,206,250,213,130,131,107,129,155,34,90,51,202,153,201,200,151,203,150,204,154,91,41,67,101,99,109,12,26,28,25,14,19,100,40,39,70,69,35,53,52,68,42,58,75,24,27,22,29,61,190,66,133,128,249,121,78,183]
def ahx:List Nat:=[48,92,94,118,205,216]
def ahy:List Nat:=[185,188,254]
def ahz:List Nat:=[155]
def LD:af:=
 (sY pe jr 3 6 jr (fx (mq 5 6) .lss (gz 5 6) (gz 2 4) (gb 2 6) (FN jr (GF 3 6 jr) (fx (mq 5 6) .eql (gz 5 6) (gz 2 4) (er 1 4 5) (zm 5 pV (rE 1 8 gx BJ (q6 1 8 8 1 (gz 2 4) (wN 5 pV jr (jo 1 8 9 eX 1 4 11)))))) (zm 5 pV (rE 1 8 gx BJ (q6 1 8 8 1 (gz 2 4) (wN 5 pV jr (jo 1 8 9 eX 1 4 11))))))) (FN jr (GF 3 6 jr) (fx (mq 5 6) .eql (gz 5 6) (gz 2 4) (er 1 4 5) (zm 5 pV (rE 1 8 gx BJ (q6 1 8 8 1 (gz 2 4) (wN 5 pV jr (jo 1 8 9 eX 1 4 11)))))) (zm 5 pV (rE 1 8 gx BJ (q6 1 8 8 1 (gz 2 4) (wN 5 pV jr (jo 1 8 9 eX 1 4 11)))))))
def LF:af:=
 (sY pe re 3 10 re (fx (mq 8 10) .lss (gz 8 10) gR (gb 3 10) (FN re (GF 3 10 re) (fx (mq 8 10) .eql (gz 8 10) gR (pQ 2 6 7 8) (zm 8 eX (rE 1 8 gx s9 (uz gR (q6 1 8 12 1 gR (wN 8 eX re (vR 1 8 13 s_ (pQ 2 6 7 15)))))))) (zm 8 eX (rE 1 8 gx s9 (uz gR (q6 1 8 12 1 gR (wN 8 eX re (vR 1 8 13 s_ (pQ 2 6 7 15))))))))) (FN re (GF 3 10 re) (fx (mq 8 10) .eql (gz 8 10) gR (pQ 2 6 7 8) (zm 8 eX (rE 1 8 gx s9 (uz gR (q6 1 8 12 1 gR (wN 8 eX re (vR 1 8 13 s_ (pQ 2 6 7 15)))))))) (zm 8 eX (rE 1 8 gx s9 (uz gR (q6 1 8 12 1 gR (wN 8 eX re (vR 1 8 13 s_ (pQ 2 6 7 15)))))))))
def LG:af:=
 (zT (zk bz s6 5) (wE 3) 3 6 (wE 3) 1 (oN 3) 6 (eI 9 LF) (er 0 1 8))
def LH:af:=
 (sY (My gx) zj 3 4 zj (.aG (mq 2 4) LD) LG)
def LI:af:=
 (pX gx bI 3 1 bI 4 aY 1 (lD 3 LH) y_)
def S8:af:=
 (mc LI)
def aej:aL:=⟨ahw,ahx,ahy,[⟨0,101,3,[(0,(3,0)),(0,(4,0))],[(0,0)],[],[]⟩,⟨1,101018,7,[(1,(7,0))],[(1,0),(0,0)],[],[]⟩,⟨2,101018020,2,[(2,(5,0))],[],[(1,17)],[]⟩,⟨2,101018032,2,[(2,(5,0))],[],[],[]⟩,⟨1,101018,3,[(1,(5,0)),(1,(6,0))],[(1,0)],[],[]⟩,⟨1,101018,1000031,[],[],[(1,5),(1,26)],[]⟩,⟨1,101018,1000019,[],[],[(1,5),(1,14)],[]⟩],ahz⟩
theorem ahA:aA ar3 aej 400 true 101=S8:=by kernel_rfl
end Go.Proofs.YtggffkaadeagbaaGreat
namespace Go.Proofs.YtggffkaadeagbaaGreat
open Go Go.Ev
theorem P7{L:List Int}{k:Nat}(h:k≤L.length):jF 1 (iL L) (iI 0) (iI (k:Nat))=some (iL (L.take k)):=by
 simp[jF,fa,h,List.map_take]
theorem P8{L:List Int}{k:Nat}(h:k≤L.length):jF 1 (iL L) (iI (k:Nat)) (iI (L.length:Nat))=some (iL (L.drop k)):=by
 simp[jF,fa,h,List.map_drop];rw[asV (by simp)]
section
variable{Q:IV→Prop}{k0 k1 k2:List IV→Prop}
theorem ahB{x0 x1 x3:IV}{a o:List Int}{i:Nat}(hi:i<a.length)(ha:a.length≤1000000)(ho:o.length≤1000000)(h:∀o':List Int,o'.length≤o.length+1→(∀x∈o',x∈o∨x=a[i])→k1 [iI (i+1:Nat),iL o']):
 LD.sat ar3 CC Q [k0,k1] [x0,x1,iL a,x3,iI i,iL o]:=by
 have eO:=aw hi (by omega);refine ao o.length (fun k (_:Unit)=>[iI k]) (fun _ _=>True) () ?_ trivial fun k _ hk _=>?_
 ·simp[SE.den]
 have bu:=P7 (L:=o) (k:=k) hk;have c9:=P8 (L:=o) (k:=k) hk;have l0:(o.take k).length≤o.length:=by simp;omega
 have l1:(o.take k).length+(o.drop k).length=o.length:=by simp;omega
 have m0:∀x∈o.take k,x∈o:=fun x hx=>atn hx;have m1:∀x∈o.drop k,x∈o:=fun x hx=>aue hx;generalize o.take k=tk at bu l0 l1 m0;generalize o.drop k=dk at c9 l1 m1;have tN:=nV (a:=[]) (b:=tk) (by simp;omega);have bw:=nV (a:=tk) (b:=[a[i]]) (by simp;omega);have fi:(tk++[a[i]]).length=tk.length+1:=by simp
 have m2:∀x∈tk++[a[i]],x∈o∨x=a[i]:=fun x hx=>by
  rcases asE.1 hx with hx|hx
  ·exact .inl (m0 x hx)
  ·exact .inr (by simpa using hx)
 generalize tk++[a[i]]=u1 at bw fi m2;have gi:=nV (a:=u1) (b:=dk) (by omega);have RB:(u1++dk).length=u1.length+dk.length:=by simp
 have m3:∀x∈u1++dk,x∈o∨x=a[i]:=fun x hx=>by
  rcases asE.1 hx with hx|hx
  ·exact m2 x hx
  ·exact .inl (m1 x hx)
 generalize u1++dk=u2 at gi RB m3;have ue:k1 [iI (i+1:Nat),iL u2]:=h _ (by omega) m3;have IS:=h o (by omega) fun x hx=>.inl hx;have hai:=dB hi;simp only[iL,atW,asY,as7]at bu c9 tN bw gi ue hai IS;by_cases aa:k<o.length
 ·have hw:=aw aa (by omega);have bf:=dB aa;simp only[iL]at bf;simp[SE.den,aa,hw,eO,bf,hai,cellsOf,bu,c9,tN,bw,gi,au];by_cases z:o[k]<a[i]
  ·left;exact⟨z,.mk () rfl (by omega) trivial⟩
  right;refine⟨by omega,?_⟩;by_cases z2:o[k]=a[i]
  ·left;exact⟨z2,IS⟩
  ·right;exact⟨z2,ue⟩
 ·simp[SE.den,aa,eO,hai,cellsOf,bu,c9,tN,bw,gi,au];exact ue
theorem ahC{x0 x1 x2 x3 x4 x5 x7:IV}{o:List Int}{n:Int}{i m:Nat}(hi:i<m)(ha:m≤1000000)(ho:o.length≤1000000)(h:∀o':List Int,o'.length≤o.length+1→(∀x∈o',x∈o∨x=n)→k2 [iI (i+1:Nat),x7,iL o']):
 LF.sat ar3 CC Q [k0,k1,k2] [x0,x1,x2,x3,x4,x5,iI i,x7,iL o,iI n]:=by
 have eO:=aw hi (by omega);refine ao o.length (fun k (_:Unit)=>[iI k]) (fun _ _=>True) () ?_ trivial fun k _ hk _=>?_
 ·simp[SE.den]
 have bu:=P7 (L:=o) (k:=k) hk;have c9:=P8 (L:=o) (k:=k) hk;have l0:(o.take k).length≤o.length:=by simp;omega
 have l1:(o.take k).length+(o.drop k).length=o.length:=by simp;omega
 have m0:∀x∈o.take k,x∈o:=fun x hx=>atn hx;have m1:∀x∈o.drop k,x∈o:=fun x hx=>aue hx;generalize o.take k=tk at bu l0 l1 m0;generalize o.drop k=dk at c9 l1 m1;have tN:=nV (a:=[]) (b:=tk) (by simp;omega);have bw:=nV (a:=tk) (b:=[n]) (by simp;omega);have fi:(tk++[n]).length=tk.length+1:=by simp
 have m2:∀x∈tk++[n],x∈o∨x=n:=fun x hx=>by
  rcases asE.1 hx with hx|hx
  ·exact .inl (m0 x hx)
  ·exact .inr (by simpa using hx)
 generalize tk++[n]=u1 at bw fi m2;have gi:=nV (a:=u1) (b:=dk) (by omega);have RB:(u1++dk).length=u1.length+dk.length:=by simp
 have m3:∀x∈u1++dk,x∈o∨x=n:=fun x hx=>by
  rcases asE.1 hx with hx|hx
  ·exact m2 x hx
  ·exact .inl (m1 x hx)
 generalize u1++dk=u2 at gi RB m3;have ue:k2 [iI (i+1:Nat),x7,iL u2]:=h _ (by omega) m3;have IS:=h o (by omega) fun x hx=>.inl hx;simp only[iL,atW,asY,as7]at bu c9 tN bw gi ue IS;by_cases aa:k<o.length
 ·have hw:=aw aa (by omega);have bf:=dB aa;simp only[iL]at bf;simp[SE.den,aa,hw,eO,bf,cellsOf,bu,c9,tN,bw,gi,au];by_cases z:o[k]<n
  ·left;exact⟨z,.mk () rfl (by omega) trivial⟩
  right;refine⟨by omega,?_⟩;by_cases z2:o[k]=n
  ·left;exact⟨z2,IS⟩
  ·right;exact⟨z2,ue⟩
 ·simp[SE.den,aa,eO,cellsOf,bu,c9,tN,bw,gi,au];exact ue
end
theorem n101:(ar3.funcs[101]?).map (·.params.size)=some 1:=by kernel_rfl
theorem t101(z:IV):aD ar3 101 z=true:=by kernel_rfl
theorem alT(l:List Fa)(hl:l.length≤100)(hj:∀f∈l,f.j.length≤20):∃v:List Int,(v.length≤2000∧∀x∈v,∃f∈l,x∈f.j)∧CC 101 true [bF l] (iL v):=by
 refine CC.Ef (fun v=>v.length≤2000∧∀x∈v,∃f∈l,x∈f.j) ahA n101 t101 (by simp) (by rfl) ?_;simp[S8,SE.den,ab];unfold LI;refine ao l.length (fun i (a:List Int)=>[iI i,iL a]) (fun i a=>a.length≤20*i∧∀x∈a,∃f∈l,x∈f.j) [] ?_ (by simp) fun i a hi hI=>?_
 ·simp[SE.den]
 obtain⟨hI,hIm⟩:=hI;by_cases aa:i<l.length
 ·have hw:=aw aa (by omega);have qa:=hj _ (asb aa);simp[SE.den,aa,vW aa,ab];unfold LH;refine ao a.length (fun i (o:List Int)=>[iI i,iL o]) (fun i o=>o.length≤i∧∀x∈o,∃f∈l,x∈f.j) [] ?_ (by simp) fun i1 o Nz vH=>?_
  ·simp[SE.den]
  obtain⟨vH,ahD⟩:=vH;by_cases eS:i1<a.length
  ·simp[SE.den,eS,dB eS]
   exact ahB eS (by omega) (by omega) fun o' ho' hm=>.mk o' rfl (by omega) ⟨by omega,fun x hx=>by
    rcases hm x hx with h|rfl
    ·exact ahD x h
    ·exact hIm _ (asb eS)⟩
  simp[SE.den,eS];unfold LG;refine ao l[i].j.length (fun i (o:List Int)=>[iI i,iL a,iL o]) (fun i o'=>o'.length≤o.length+i∧∀x∈o',∃f∈l,x∈f.j) o ?_ (by simpa using ahD) fun i2 o2 WI nS=>?_
  ·simp[SE.den]
  obtain⟨nS,ahE⟩:=nS;by_cases dT:i2<l[i].j.length
  ·simp[SE.den,dT,dB dT]
   exact ahC dT (by omega) (by omega) fun o' ho' hm=>.mk o' rfl (by omega) ⟨by omega,fun x hx=>by
    rcases hm x hx with h|rfl
    ·exact ahE x h
    ·exact⟨_,asb aa,asb dT⟩⟩
  ·simp[SE.den,dT,hw];exact .mk o2 (by simp) (by omega) ⟨by omega,ahE⟩
 ·simp[SE.den,aa];exact⟨by omega,hIm⟩
end Go.Proofs.YtggffkaadeagbaaGreat
namespace Go.Proofs.YtggffkaadeagbaaGreat
open Go Go.Ev
theorem apZ(a b:List Int)(hl:Sm a):∃r,CC 53 true [iL a,iL b] (iB r):=by
 refine CC.bool alO n53 t53 (by simp) (by rfl) ?_;simp[Y9,SE.den,ab,au];by_cases z:(a.length:Int)=b.length
 rotate_left
 ·left;omega
 right;refine⟨by omega,?_⟩;unfold P1;refine ao a.length (fun i (_:Unit)=>[iI i]) (fun _ _=>True) () ?_ trivial fun i _ hi _=>?_
 ·simp[SE.den]
 by_cases aa:i<a.length
 ·have hw:=aw aa hl;have dT:i<b.length:=by omega
  simp[SE.den,aa,hw,dB aa,dB dT,au];by_cases z:a[i]=b[i]
  ·right;exact⟨z,.mk () rfl (by omega) trivial⟩
  ·left;exact z
 ·simp[SE.den,aa,au]
theorem Za{L:List Int}{k:Nat}(h:k≤L.length):jF 1 (iL L) (iI (k:Nat)) (iI (L.length:Nat))=some (iL (L.drop k)):=P8 h
structure IT(x:Ap):Prop where
 h:x.dw.length≤8
 g:x.gone.length≤8
 m:x.made.length≤20
 j:x.fK.length≤20
structure vI(m:Me):Prop where
 w:CS m
 f:m.facts.length≤9
 p:m.past.length≤9
 l:m.log.length≤12
 x:∀x∈m.log,IT x
 j:∀f∈m.facts++m.past,f.j.length≤20
def MK(m:Me)(f:Fa):Prop:=f∈m.facts++m.past
def Eg(m:Me)(x:Ap):Prop:=∀j∈x.fK,∃f,MK m f∧j∈f.j
theorem n40:(ar3.funcs[40]?).map (·.params.size)=some 3:=by kernel_rfl
theorem t40(z:IV):aD ar3 40 z=true:=by kernel_rfl
section
variable{k0 k1 k2:List IV→Prop}{G:Prop}
theorem alU(hG:G){x0 x3 x4 x5 x6 x7 x8 x9 eZ:IV}(m:Me)(hm:vI m)(x:Ap)(hx:IT x):
 SU.sat ar3 CC (Cm fun b=>b=true→G) [k0,k1] [x0,cV m,jR x,x3,x4,x5,x6,x7,x8,x9,eZ]:=by
 refine ao x.made.length (fun i (_:Unit)=>[iI i]) (fun _ _=>True) () ?_ trivial fun i _ hi _=>?_
 ·simp[SE.den]
 have S9:=hx.m;by_cases aa:i<x.made.length
 ·have hw:=aw aa (by omega);have rN:=aht m x.made[i] hm.w;simp only[cV]at rN;cases he:uI m x.made[i]with
  |none=>
   rw[he]at rN;simp only[qy,dA]at rN;simp[SE.den,cV,jR,aa,dB aa,ab];refine⟨_,rN,?_⟩;simp[ab]
  |some f=>
   rw[he]at rN;simp only[qy,dA]at rN;have hj:=hm.j f (zZ he);have S_:=c53 f.j x.fK (by unfold Sm;omega);simp[SE.den,cV,jR,aa,dB aa,ab];refine⟨_,rN,?_⟩;simp[ab];refine⟨_,S_,?_⟩;cases hb:(f.j==x.fK)<;>simp[hw];exact .mk () rfl (by omega) trivial
 ·simp[SE.den,jR,aa];exact hG
theorem alV(hG:G){x0 x3 x4 x5 x6 x7 x8 x9:IV}(m:Me)(hm:vI m)(x:Ap)(hx:IT x):
 SV.sat ar3 CC (Cm fun b=>b=true→G) [k0] [x0,cV m,jR x,x3,x4,x5,x6,x7,x8,x9]:=by
 refine ao x.gone.length (fun i (_:Unit)=>[iI i]) (fun _ _=>True) () ?_ trivial fun i _ hi _=>?_
 ·simp[SE.den]
 have S9:=hx.g;by_cases aa:i<x.gone.length
 ·have hw:=aw aa (by omega);have LJ:=c41 m.past x.gone[i] hm.w.sp;cases he:findF m.past x.gone[i]with
  |none=>
   rw[he]at LJ;simp only[qy,dA]at LJ;simp[SE.den,cV,jR,aa,dB aa,ab];refine⟨_,LJ,?_⟩;simp[ab]
  |some f=>
   rw[he]at LJ;simp only[qy,dA]at LJ;simp[SE.den,cV,jR,aa,dB aa,ab];refine⟨_,LJ,?_⟩;simp[ab,hw];exact .mk () rfl (by omega) trivial
 ·have:=alU hG (k0:=k0) (k1:=OZ x.gone.length (fun i (_:Unit)=>[iI i]) (fun _ _=>True) i) (x0:=x0) (x3:=x3) (x4:=x4) (x5:=x5) (x6:=x6) (x7:=x7) (x8:=x8) (x9:=x9) (eZ:=iI i) m hm x hx;simp[SE.den,jR,aa];exact this
theorem alW{x0 x3 x4 x5:IV}(m:Me)(hm:vI m)(x:Ap)(hx:IT x):
 Fl.sat ar3 CC (Cm fun b=>b=true→Eg m x) [] [x0,cV m,jR x,x3,x4,x5]:=by
 refine ao x.dw.length (fun i (a:List Fa)=>[iI i,bF a]) (fun i a=>a.length≤i∧(∀f∈a,f.j.length≤20)∧∀f∈a,MK m f) [] ?_ (by simp) fun i a hi hI=>?_
 ·simp[SE.den]
 obtain⟨vH,nS,hI3⟩:=hI;have S9:=hx.h;by_cases aa:i<x.dw.length
 ·have hw:=aw aa (by omega);have rN:=aht m x.dw[i] hm.w;simp only[cV]at rN;cases he:uI m x.dw[i]with
  |none=>
   rw[he]at rN;simp only[qy,dA]at rN;simp[SE.den,cV,jR,aa,dB aa,ab];refine⟨_,rN,?_⟩;simp[ab]
  |some f=>
   rw[he]at rN;simp only[qy,dA]at rN;have hj:=hm.j f (zZ he);have e_:=P7 (L:=x.dw) (k:=i) (by omega);have h94:=aph (x.dw.take i) x.dw[i] (by unfold Sm;simp;omega);have lM:=Ea (a:=a) f (by omega);generalize x.dw.take i=tk at e_ h94;generalize tk.contains x.dw[i]=bb at h94;have eu:(a++[f]).length≤i+1:=by simp;omega
   have hcj:∀g∈a++[f],g.j.length≤20:=fun g hg=>by
    rcases asE.1 hg with hg|hg
    ·exact nS g hg
    ·simp at hg;subst hg;exact hj
   have XV:∀g∈a++[f],MK m g:=fun g hg=>by
    rcases asE.1 hg with hg|hg
    ·exact hI3 g hg
    ·simp only[List.mem_singleton]at hg;subst hg;exact zZ he
   generalize a++[f]=a' at lM eu hcj XV;simp only[iL,bF]at e_ lM;simp[SE.den,cV,jR,aa,dB aa,ab];refine⟨_,rN,?_⟩;simp[ab,e_];refine⟨_,h94,?_⟩;cases bb<;>simp[hw,lM,cellsOf];exact .mk a' (by simp) (by omega) ⟨eu,hcj,XV⟩
 ·obtain⟨v,⟨hv,hvm⟩,ap0⟩:=alT a (by omega) nS;have hxj:=hx.j;have S_:=c53 x.fK v (by unfold Sm;omega);have h1:=fun hG=>alV (G:=Eg m x) hG (k0:=OZ x.dw.length (fun i (a:List Fa)=>[iI i,bF a]) (fun i a=>a.length≤i∧(∀f∈a,f.j.length≤20)∧∀f∈a,MK m f) i) (x0:=x0) (x3:=x3) (x4:=x4) (x5:=x5) (x6:=iI i) (x7:=bF a) (x8:=iL v) (x9:=iB (x.fK==v)) m hm x hx;simp[SE.den,jR,aa];refine⟨_,ap0,?_⟩;simp;refine⟨_,S_,?_⟩;cases hb:(x.fK==v)<;>simp;rw[hb]at h1;refine h1 fun j hj=>?_;rw[beq_iff_eq.1 hb]at hj;obtain⟨f,hf,hjf⟩:=hvm j hj;exact⟨f,hI3 f hf,hjf⟩
end
theorem e40(p:Pg)(hp:F4 p)(m:Me)(hm:vI m)(x:Ap)(hx:IT x):∃b,(b=true→Eg m x)∧CC 40 false [dj p,cV m,jR x] (iB b):=by
 refine CC.lH _ apE n40 t40 (by intro y hy;simp at hy;rcases hy with rfl|rfl|rfl;exact fA p;exact gq m;exact Ym x) (by rfl) ?_;have e52:SX=Fl:=rfl;have h2:∀x0 x3 x4 x5,Fl.sat ar3 CC (Cm fun b=>b=true→Eg m x) [] [x0,cV m,jR x,x3,x4,x5]:=fun _ _ _ _=>alW m hm x hx;obtain⟨ds,rs⟩:=p;obtain⟨hd,hr,dn,S4,Di⟩:=hp;have hxh:=hx.h;have hxg:=hx.g;have S9:=hx.m;obtain⟨rule,dw,gone,made,failed,fK⟩:=x;simp only[cV,jR]at*
 show VH.sat _ _ _ _ [.agg [ek ds,yn rs],_,_];simp[VH,SE.den,ab,e52];by_cases z0:rule<0
 ·left;exact z0
 right;refine⟨by omega,?_⟩;by_cases z1:(rs.length:Int)≤rule
 ·left;exact z1
 right;refine⟨by omega,?_⟩;obtain⟨k,rfl⟩:∃k:Nat,rule=(k:Int):=⟨rule.toNat,by omega⟩;have hk:k<rs.length:=by omega
 have mS:=(S4 _ (asb hk)).h;have sq:=G8 hk;simp only[yn]at sq;have P9:aso.wrap ((rs[k].keep.length:Int)+(rs[k].remove.length:Int))=rs[k].keep.length+rs[k].remove.length:=eb (by omega) (by omega);simp[sq,ab,P9];by_cases z2:(dw.length:Int)=rs[k].keep.length+rs[k].remove.length
 rotate_left
 ·left;exact z2
 right;refine⟨z2,?_⟩;have e_:=Za (L:=dw) (k:=rs[k].keep.length) (by omega);obtain⟨b53,S_⟩:=apZ gone (dw.drop rs[k].keep.length) (by unfold Sm;omega);generalize dw.drop rs[k].keep.length=dk at e_ S_;simp only[iL]at e_;simp[e_];refine⟨_,S_,?_⟩;cases b53<;>simp;cases failed<;>simp
 ·by_cases z4:12<made.length
  ·left;omega
  ·right;exact⟨by omega,h2 _ _ _ _⟩
 ·by_cases z3:0<made.length
  ·left;exact z3
  right;refine⟨by simpa using z3,?_⟩;right;exact⟨by omega,h2 _ _ _ _⟩
end Go.Proofs.YtggffkaadeagbaaGreat
