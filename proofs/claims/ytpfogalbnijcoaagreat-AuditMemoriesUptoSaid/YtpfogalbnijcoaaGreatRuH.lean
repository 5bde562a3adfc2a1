/- A part of the proof, no condition: lists of facts, the bounds, sorting. -/
import Derived.Test.YtpfogalbnijcoaaGreatEvJ
import Derived.Test.YtpfogalbnijcoaaGreatRuC
import Derived.Test.YtpfogalbnijcoaaGreatEvP
open List renaming all_eq_true->asl,mem_map->asv,drop_eq_getElem_cons->asH,drop_of_length_le->asJ,getElem_mem->ar5,all_cons->axe
open Bool renaming and_eq_true->ar4
open Go.Proofs.Tryz renaming prog->ar1
open Go.IntKind renaming i64->asC
open Option renaming some->aa
open Bool renaming true->ab,false->af
set_option linter.all false
namespace Go.Proofs.YtpfogalbnijcoaaGreat
open Go Go.Ev
structure SmM(m:Me):Prop where
 w:Jq m
 f:m.facts.length<=9
 p:m.past.length<=9
 l:m.log.length<=12
 g:∀x∈m.log,x.gone.length<=8
theorem yK{l:List Ap}{i:Nat}(h:i<l.length):dD 6 (mu l) (iI (i:Nat))=aa (.agg [iI l[i].rule,iL l[i].aW,iL l[i].gone,iL l[i].made,iB l[i].failed,iL l[i].ff]):=agQ h
theorem CL{α:Type}{s:Nat}{enc:α->IV}(h:∀a,∃cs,enc a=.agg cs/\cs.length=s/\cs.all aj=ab)(l:List α):i_ s (l.map enc)=ab:=by
 unfold i_;rw[asl];intro e he;obtain⟨x,_,rfl⟩:=asv.1 he;obtain⟨cs,h1,h2,h3⟩:=h x;rw[h1];simp only[cellsOf,ar4,beq_iff_eq];exact⟨h2,h3⟩
theorem akk{a b:List Fa}(h:a.length+b.length<=1000):j2 4 72 (iv a) (iv b)=aa (iv (a++b)):=by
 have h2:=CL (s:=4) (enc:=eX) (λx=>⟨_,rfl,rfl,rfl⟩) b;simp[j2,h2];omega
theorem Y1{a:List Fa}(x:Fa)(h:a.length<=900):j2 4 72 (iv a) (.tree 4 [.agg [iI x.id,iS x.a.s,iT x.a.ts,iL x.j]])=aa (iv (a++[x])):=akk (b:=[x]) (by simp;omega)
def Y2:ak:=
 (ry (jM cb 2 cb 1 bC 2 (yp 3 (lO jN dh) FK 0 3 2 1) BV))
def agR:bg:=⟨vA,rm,stops,[⟨0,67,2,[(0,(5,0))],[],[],[]⟩],[]⟩
theorem akl:aK ar1 agR 400 ab 67=Y2:=by kernel_rfl
theorem ao_(l:List Int)(n:Int)(hl:Sm l):CC 67 ab [iL l,iI n] (iB (l.contains n)):=by
 refine CC.of akl n94 (t94 _) (by simp) (by simp) ?_;simp[Y2,SE.den];refine dE l.length (λi (_:Unit)=>[iI i]) (λi _=>(n∈l↔n∈l.drop i)) () ?_ ?_ λi _ hi hI=>?_
 ·simp[SE.den]
 ·simp
 by_cases ai:i<l.length
 ·rw[asH ai,List.mem_cons]at hI;have hw:=aD ai hl;simp[SE.den,ai,hw,aA]
  grind
 ·simp[SE.den,ai,aA];rw[hI,asJ (by omega)];simp
end Go.Proofs.YtpfogalbnijcoaaGreat
namespace Go.Proofs.YtpfogalbnijcoaaGreat
open Go Go.Ev
variable{Q:IV->Prop}{k0 k1 k2 k3 k4 k5:List IV->Prop}
end Go.Proofs.YtpfogalbnijcoaaGreat
namespace Go.Proofs.YtpfogalbnijcoaaGreat
open Go Go.Ev
theorem n206:(ar1.funcs[177]?).map (·.params.size)=aa 1:=by kernel_rfl
theorem t206(z:IV):aQ ar1 177 z=ab:=by kernel_rfl
theorem n158:(ar1.funcs[101]?).map (·.params.size)=aa 1:=by kernel_rfl
theorem t158(z:IV):aQ ar1 101 z=ab:=by kernel_rfl
theorem n102:(ar1.funcs[49]?).map (·.params.size)=aa 1:=by kernel_rfl
theorem t102(z:IV):aQ ar1 49 z=ab:=by kernel_rfl
theorem n44:(ar1.funcs[22]?).map (·.params.size)=aa 1:=by kernel_rfl
theorem t44(z:IV):aQ ar1 22 z=ab:=by kernel_rfl
theorem n31:(ar1.funcs[9]?).map (·.params.size)=aa 1:=by kernel_rfl
theorem t31(z:IV):aQ ar1 9 z=ab:=by kernel_rfl
theorem n30:(ar1.funcs[8]?).map (·.params.size)=aa 1:=by kernel_rfl
theorem t30(z:IV):aQ ar1 8 z=ab:=by kernel_rfl
theorem n10:(ar1.funcs[4]?).map (·.params.size)=aa 2:=by kernel_rfl
theorem t10(z:IV):aQ ar1 4 z=ab:=by kernel_rfl
def bW(t:Tm):List Tm:=if t.k=2 then t.ts else[]
theorem abV(t:Tm):CC 177 af [dH t] (iT (bW t)):=by
 refine CC.of aj7 n206 (t206 _) (by simp[ng]) (by simp) ?_;simp[YW,SE.den,cL,aj,bW];by_cases h:t.k=2
 ·left;simp[h]
 ·right;simp[h]
mutual
def qp:Tm->Int
 |.mk k _ _ ts=>if k=2 then tZ 1 ts else 1
def tZ:Int->List Tm->Int
 |acc,[]=>acc
 |acc,t::l=>tZ (asC.wrap (acc+qp t)) l
end
theorem Qh(t:Tm):qp t=tZ 1 (bW t):=by
 obtain⟨k,n,s,ts⟩:=t;show qp (.mk k n s ts)=tZ 1 (if k=2 then ts else[]);by_cases hk:k=2<;>simp[qp,hk,tZ]
theorem sK{t u:Tm}(h:u∈bW t):u∈t.ts:=by
 unfold bW at h;split at h
 ·exact h
 ·simp at h
theorem f158(t:Tm)(hl:Sm t.ts)(hc:∀u∈t.ts,CC 101 af [dH u] (iI (qp u))):CC 101 af [dH t] (iI (qp t)):=by
 refine CC.of aj8 n158 (t158 _) (by simp[ng]) (by simp) ?_;have h:=abV t;rw[cL]at h;simp[YX,SE.den,cL,aj];refine⟨_,h,?_⟩;simp[SE.den];have Ml:(bW t).length<=9223372036854775807:=by unfold bW;split<;>simp_all
 refine dE (bW t).length (λi (a:Int)=>[iI i,iI a]) (λi a=>qp t=tZ a ((bW t).drop i)) 1 ?_ ?_ λi a hi hI=>?_
 ·simp[SE.den]
 ·simp[Qh]
 by_cases ai:i<(bW t).length
 ·rw[asH ai,tZ]at hI;have hw:=aD ai Ml;have hm:(bW t)[i]∈t.ts:=sK (ar5 ai);have h3:=hc _ hm;rw[cL]at h3;simp[SE.den,ai,hw,uS ai,cL,aj];refine⟨_,h3,?_⟩;simp[SE.den,hw];exact⟨by omega,hI⟩
 ·simp[SE.den,ai];rw[hI,asJ (by omega),tZ]
theorem WK:∀t:Tm,wH t->CC 101 af [dH t] (iI (qp t))
 |.mk k n s ts,hw=>f158 _ ((Bj _).1 hw).1 λu hu=>WK u (((Bj _).1 hw).2 u hu)
 decreasing_by simp[Tm.ts]at hu;have:=List.sizeOf_lt_of_mem hu;simp;omega
def Jr:Int->List Tm->Bool
 |_,[]=>ab
 |acc,t::l=>if 60<asC.wrap (acc+qp t)then af else Jr (asC.wrap (acc+qp t)) l
def vB(l:List Tm):Bool:=if 8<l.length then af else Jr 0 l
theorem abW(l:List Tm)(hw:∀t∈l,wH t):CC 49 af [iT l] (iB (vB l)):=by
 refine CC.of aj9 n102 (t102 _) (by simp) (by simp) ?_;simp[YY,SE.den];by_cases h8:8<l.length
 ·left;exact⟨by omega,by simp[vB,h8]⟩
 right;refine⟨by omega,?_⟩;refine dE l.length (λi (a:Int)=>[iI i,iI a]) (λi a=>vB l=Jr a (l.drop i)) 0 ?_ ?_ λi a hi hI=>?_
 ·simp[SE.den]
 ·simp[vB,h8]
 by_cases ai:i<l.length
 ·rw[asH ai,Jr]at hI;have ll:=aD ai (by omega);have h3:=WK l[i] (hw _ (ar5 ai));rw[cL]at h3;simp[SE.den,ai,ll,uS ai,cL,aj];refine⟨_,h3,?_⟩;simp[SE.den,ll];by_cases hs:60<asC.wrap (a+qp l[i])
  ·left;exact⟨hs,by rw[hI,if_pos hs]⟩
  ·right;exact⟨by omega,by omega,by rw[hI,if_neg hs]⟩
 ·simp[SE.den,ai];rw[hI,asJ (by omega),Jr]
def pN(l:List At):Bool:=l.all λa=>vB a.ts
theorem apa(l:List At)(hl:Sm l)(hw:∀a∈l,WfA a):CC 22 ab [nf l] (iB (pN l)):=by
 refine CC.of aka n44 (t44 _) (by simp) (by simp) ?_;simp[YZ,SE.den];refine dE l.length (λi (_:Unit)=>[iI i]) (λi _=>pN l=pN (l.drop i)) () ?_ ?_ λi _ hi hI=>?_
 ·simp[SE.den]
 ·simp
 by_cases ai:i<l.length
 ·rw[asH ai,pN,pN,axe]at hI;have ll:=aD ai hl;simp[SE.den,ai,ll,agP ai,CJ,aj,aA];refine⟨_,abW l[i].ts (hw _ (ar5 ai)).2,?_⟩;simp[SE.den,ll,aA];cases ht:vB l[i].ts
  ·left;refine⟨rfl,?_⟩;rw[pN,hI,ht];simp
  ·right;refine⟨rfl,by omega,?_⟩;rw[pN,hI,ht];simp[pN]
 ·simp[SE.den,ai,aA];rw[hI,asJ (by omega)];simp[pN]
def F4(f:Fa):Bool:=decide (f.j.length<=20)&&pN [f.a]
def q_(l:List Fa):Bool:=decide (l.length<=9)&&l.all F4
theorem c31(l:List Fa)(hw:∀f∈l,WfF f):CC 9 af [iv l] (iB (q_ l)):=by
 refine CC.of aoq n31 (t31 _) (by simp) (by simp) ?_;simp[ac7,SE.den];by_cases h9:9<l.length
 ·left;exact⟨by omega,by simp[q_];omega⟩
 right;refine⟨by omega,?_⟩;refine dE l.length (λi (_:Unit)=>[iI i]) (λi _=>q_ l=(l.drop i).all F4) () ?_ ?_ λi _ hi hI=>?_
 ·simp[SE.den]
 ·simp[q_];omega
 by_cases ai:i<l.length
 ·rw[asH ai,axe]at hI;have ll:=aD ai (by omega);have jr:=hw _ (ar5 ai);simp[SE.den,ai,ll,agO ai,eX,aj,cellsOf];by_cases h20:20<l[i].j.length
  ·left;refine⟨by omega,?_⟩;rw[hI,F4];simp;intro h;omega
  right;refine⟨by omega,?_⟩;have h3:=apa [l[i].a] (by simp) (by simpa using jr.1);simp only[nf,List.map_cons,List.map_nil,CJ]at h3;refine⟨_,h3,?_⟩;simp[SE.den,ll];cases ht:pN [l[i].a]
  ·left;refine⟨rfl,?_⟩;rw[hI,F4,ht];simp
  ·right;refine⟨rfl,by omega,?_⟩;rw[hI,F4,ht];simp;omega
 ·simp[SE.den,ai];rw[hI,asJ (by omega)];simp
def Qi(x:Ap):Bool:=decide (x.aW.length<=8)&&(decide (x.gone.length<=8)&&(decide (x.made.length<=20)&&decide (x.ff.length<=20)))
def ra(m:Me):Bool:=q_ m.facts&&(q_ m.past&&(decide (m.log.length<=12)&&m.log.all Qi))
theorem Qj{m:Me}(hm:Jq m)(h:ra m=ab):m.facts.length<=9/\m.past.length<=9/\m.log.length<=12/\∀x∈m.log,x.gone.length<=8:=by
 simp only[ra,q_,ar4,decide_eq_true_eq,asl,Qi]at h;exact⟨h.1.1,h.2.1.1,h.2.2.1,λx hx=>(h.2.2.2 x hx).2.1⟩
end Go.Proofs.YtpfogalbnijcoaaGreat
namespace Go.Proofs.YtpfogalbnijcoaaGreat
open Go Go.Ev
variable{Q:IV->Prop}{k0 k1 k2 k3 k4 k5:List IV->Prop}
theorem r9{l:List At}{i:Nat}(h:i<l.length):dD 2 (nf l) (iI (i:Nat))=aa (.agg [iS l[i].s,iT l[i].ts]):=agP h
theorem yL{l:List Fa}{i:Nat}(h:i<l.length):dD 4 (iv l) (iI (i:Nat))=aa (.agg [iI l[i].id,iS l[i].a.s,iT l[i].a.ts,iL l[i].j]):=agO h
theorem F5{a b:List At}(h:a.length+b.length<=1000):j2 2 40 (nf a) (nf b)=aa (nf (a++b)):=by
 have h2:i_ 2 (b.map CJ)=ab:=by
  unfold i_;rw[asl];intro e he;obtain⟨x,_,rfl⟩:=asv.1 he;rfl
 simp[j2,h2];omega
end Go.Proofs.YtpfogalbnijcoaaGreat
namespace Go.Proofs.YtpfogalbnijcoaaGreat
open Go Go.Ev
section sorting
variable{α:Type}{lt:α->α->Bool}
structure Ord(lt:α->α->Bool):Prop where
 h1:∀x y z,lt x y=ab->lt z y=af->lt x z=ab
 h2:∀x y,lt x y=ab->lt y x=af
end sorting
end Go.Proofs.YtpfogalbnijcoaaGreat
