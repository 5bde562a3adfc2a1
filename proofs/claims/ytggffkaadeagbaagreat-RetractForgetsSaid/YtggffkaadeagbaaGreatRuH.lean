/- A part of the proof, no condition: lists of facts, the bounds, sorting. -/
import Derived.Test.YtggffkaadeagbaaGreatEvJ
import Derived.Test.YtggffkaadeagbaaGreatRuC
import Derived.Test.YtggffkaadeagbaaGreatEvP
open List renaming all_eq_true->asl,mem_map->asO,drop_eq_getElem_cons->asq,mem_cons->asZ,drop_of_length_le->asA,getElem_mem->asb,all_cons->axa,pairwise_cons->atk,filter_cons_of_pos->as6,filter_cons_of_neg->asX
open Bool renaming and_eq_true->ar6
open Go.Proofs.Tryz renaming prog->ar3
open Go.IntKind renaming i64->aso
set_option linter.all false
namespace Go.Proofs.YtggffkaadeagbaaGreat
open Go Go.Ev
def ct(l:List Fa)(n:Int):List Fa:=l.filter fun f=> !decide (n∈f.j)
def gU(m:Me)(n:Int):List Int:=(m.log.filter fun x=>decide (n∈x.fK)).flatMap (·.gone)
structure SmM(m:Me):Prop where
 w:CS m
 f:m.facts.length≤9
 p:m.past.length≤9
 l:m.log.length≤12
 g:∀x∈m.log,x.gone.length≤8
theorem GW{l:List Fa}{i:Nat}(h:i<l.length):cq 4 (bF l) (iI (i:Nat))=some (.agg [iI l[i].id,iS l[i].a.s,iT l[i].a.ts,iL l[i].j]):=aa6 h
theorem Vu{l:List Ap}{i:Nat}(h:i<l.length):cq 6 (nR l) (iI (i:Nat))=some (.agg [iI l[i].rule,iL l[i].dw,iL l[i].gone,iL l[i].made,iB l[i].failed,iL l[i].fK]):=ags h
theorem wZ{α:Type}{s:Nat}{enc:α→IV}(h:∀a,∃cs,enc a=.agg cs∧cs.length=s∧cs.all ab=true)(l:List α):iz s (l.map enc)=true:=by
 unfold iz;rw[asl];intro e he;obtain⟨x,_,rfl⟩:=asO.1 he;obtain⟨cs,h1,h2,h3⟩:=h x;rw[h1];simp only[cellsOf,ar6,beq_iff_eq];exact⟨h2,h3⟩
theorem Vv{a b:List Fa}(h:a.length+b.length≤1000):gl 4 72 (bF a) (bF b)=some (bF (a++b)):=by
 have h2:=wZ (s:=4) (enc:=dA) (fun x=>⟨_,rfl,rfl,rfl⟩) b;simp[gl,h2];omega
theorem akq{a b:List Ap}(h:a.length+b.length≤1000):gl 6 112 (nR a) (nR b)=some (nR (a++b)):=by
 have h2:=wZ (s:=6) (enc:=jR) (fun x=>⟨_,rfl,rfl,rfl⟩) b;simp[gl,h2];omega
theorem Ea{a:List Fa}(x:Fa)(h:a.length≤900):gl 4 72 (bF a) (.tree 4 [.agg [iI x.id,iS x.a.s,iT x.a.ts,iL x.j]])=some (bF (a++[x])):=Vv (b:=[x]) (by simp;omega)
theorem agt{a:List Ap}(x:Ap)(h:a.length≤900):gl 6 112 (nR a) (.tree 6 [.agg [iI x.rule,iL x.dw,iL x.gone,iL x.made,iB x.failed,iL x.fK]])=some (nR (a++[x])):=akq (b:=[x]) (by simp;omega)
def Yp:af:=
 (kB (fz bI 2 bI 1 aY 2 (rl dz dz bK EX 0 2) Bz))
def agu:aL:=⟨dX,dM,stops,[⟨0,94,2,[(0,(5,0))],[],[],[]⟩],[]⟩
theorem akr:aA ar3 agu 400 true 94=Yp:=by kernel_rfl
theorem aph(l:List Int)(n:Int)(hl:Sm l):CC 94 true [iL l,iI n] (iB (l.contains n)):=by
 refine CC.of akr n94 (t94 _) (by simp) (by simp) ?_;simp[Yp,SE.den];refine dh l.length (fun i (_:Unit)=>[iI i]) (fun i _=>(n∈l↔n∈l.drop i)) () ?_ ?_ fun i _ hi hI=>?_
 ·simp[SE.den]
 ·simp
 by_cases aa:i<l.length
 ·rw[asq aa,asZ]at hI;have hw:=aw aa hl;simp[SE.den,aa,hw,au]
  grind
 ·simp[SE.den,aa,au];rw[hI,asA (by omega)];simp
end Go.Proofs.YtggffkaadeagbaaGreat
namespace Go.Proofs.YtggffkaadeagbaaGreat
open Go Go.Ev
variable{Q:IV→Prop}{k0 k1 k2 k3 k4 k5:List IV→Prop}
end Go.Proofs.YtggffkaadeagbaaGreat
namespace Go.Proofs.YtggffkaadeagbaaGreat
open Go Go.Ev
theorem n206:(ar3.funcs[206]?).map (·.params.size)=some 1:=by kernel_rfl
theorem t206(z:IV):aD ar3 206 z=true:=by kernel_rfl
theorem n158:(ar3.funcs[158]?).map (·.params.size)=some 1:=by kernel_rfl
theorem t158(z:IV):aD ar3 158 z=true:=by kernel_rfl
theorem n102:(ar3.funcs[102]?).map (·.params.size)=some 1:=by kernel_rfl
theorem t102(z:IV):aD ar3 102 z=true:=by kernel_rfl
theorem n44:(ar3.funcs[44]?).map (·.params.size)=some 1:=by kernel_rfl
theorem t44(z:IV):aD ar3 44 z=true:=by kernel_rfl
theorem n31:(ar3.funcs[31]?).map (·.params.size)=some 1:=by kernel_rfl
theorem t31(z:IV):aD ar3 31 z=true:=by kernel_rfl
theorem n30:(ar3.funcs[30]?).map (·.params.size)=some 1:=by kernel_rfl
theorem t30(z:IV):aD ar3 30 z=true:=by kernel_rfl
theorem n10:(ar3.funcs[10]?).map (·.params.size)=some 2:=by kernel_rfl
theorem t10(z:IV):aD ar3 10 z=true:=by kernel_rfl
def dQ(t:Tm):List Tm:=if t.k=2 then t.ts else[]
theorem aa7(t:Tm):CC 206 false [bV t] (iT (dQ t)):=by
 refine CC.of aka n206 (t206 _) (by simp[jc]) (by simp) ?_;simp[Yi,SE.den,bo,ab,dQ];by_cases h:t.k=2
 ·left;simp[h]
 ·right;simp[h]
mutual
def ru:Tm→Int
 |.mk k _ _ ts=>if k=2 then zy 1 ts else 1
def zy:Int→List Tm→Int
 |acc,[]=>acc
 |acc,t::l=>zy (aso.wrap (acc+ru t)) l
end
theorem aa8(t:Tm):ru t=zy 1 (dQ t):=by
 obtain⟨k,n,s,ts⟩:=t;show ru (.mk k n s ts)=zy 1 (if k=2 then ts else[]);by_cases hk:k=2<;>simp[ru,hk,zy]
theorem Lx{t u:Tm}(h:u∈dQ t):u∈t.ts:=by
 unfold dQ at h;split at h
 ·exact h
 ·simp at h
theorem f158(t:Tm)(hl:Sm t.ts)(hc:∀u∈t.ts,CC 158 false [bV u] (iI (ru u))):CC 158 false [bV t] (iI (ru t)):=by
 refine CC.of akb n158 (t158 _) (by simp[jc]) (by simp) ?_;have h:=aa7 t;rw[bo]at h;simp[Yj,SE.den,bo,ab];refine⟨_,h,?_⟩;simp[SE.den];have FT:(dQ t).length≤9223372036854775807:=by unfold dQ;split<;>simp_all
 refine dh (dQ t).length (fun i (a:Int)=>[iI i,iI a]) (fun i a=>ru t=zy a ((dQ t).drop i)) 1 ?_ ?_ fun i a hi hI=>?_
 ·simp[SE.den]
 ·simp[aa8]
 by_cases aa:i<(dQ t).length
 ·rw[asq aa,zy]at hI;have hw:=aw aa FT;have hm:(dQ t)[i]∈t.ts:=Lx (asb aa);have h3:=hc _ hm;rw[bo]at h3;simp[SE.den,aa,hw,rI aa,bo,ab];refine⟨_,h3,?_⟩;simp[SE.den,hw];exact⟨by omega,hI⟩
 ·simp[SE.den,aa];rw[hI,asA (by omega),zy]
theorem Vw:∀t:Tm,py t→CC 158 false [bV t] (iI (ru t))
 |.mk k n s ts,hw=>f158 _ ((mI _).1 hw).1 fun u hu=>Vw u (((mI _).1 hw).2 u hu)
 decreasing_by simp[Tm.ts]at hu;have:=List.sizeOf_lt_of_mem hu;simp;omega
def IG:Int→List Tm→Bool
 |_,[]=>true
 |acc,t::l=>if 60<aso.wrap (acc+ru t)then false else IG (aso.wrap (acc+ru t)) l
def vh(l:List Tm):Bool:=if 8<l.length then false else IG 0 l
theorem aa9(l:List Tm)(hw:∀t∈l,py t):CC 102 false [iT l] (iB (vh l)):=by
 refine CC.of akc n102 (t102 _) (by simp) (by simp) ?_;simp[Yk,SE.den];by_cases h8:8<l.length
 ·left;exact⟨by omega,by simp[vh,h8]⟩
 right;refine⟨by omega,?_⟩;refine dh l.length (fun i (a:Int)=>[iI i,iI a]) (fun i a=>vh l=IG a (l.drop i)) 0 ?_ ?_ fun i a hi hI=>?_
 ·simp[SE.den]
 ·simp[vh,h8]
 by_cases aa:i<l.length
 ·rw[asq aa,IG]at hI;have jv:=aw aa (by omega);have h3:=Vw l[i] (hw _ (asb aa));rw[bo]at h3;simp[SE.den,aa,jv,rI aa,bo,ab];refine⟨_,h3,?_⟩;simp[SE.den,jv];by_cases hs:60<aso.wrap (a+ru l[i])
  ·left;exact⟨hs,by rw[hI,if_pos hs]⟩
  ·right;exact⟨by omega,by omega,by rw[hI,if_neg hs]⟩
 ·simp[SE.den,aa];rw[hI,asA (by omega),IG]
def pA(l:List At):Bool:=l.all fun a=>vh a.ts
theorem api(l:List At)(hl:Sm l)(hw:∀a∈l,CQ a):CC 44 true [cS l] (iB (pA l)):=by
 refine CC.of ake n44 (t44 _) (by simp) (by simp) ?_;simp[Yl,SE.den];refine dh l.length (fun i (_:Unit)=>[iI i]) (fun i _=>pA l=pA (l.drop i)) () ?_ ?_ fun i _ hi hI=>?_
 ·simp[SE.den]
 ·simp
 by_cases aa:i<l.length
 ·rw[asq aa,pA,pA,axa]at hI;have jv:=aw aa hl;simp[SE.den,aa,jv,agr aa,ku,ab,au];refine⟨_,aa9 l[i].ts (hw _ (asb aa)).2,?_⟩;simp[SE.den,jv,au];cases ht:vh l[i].ts
  ·left;refine⟨rfl,?_⟩;rw[pA,hI,ht];simp
  ·right;refine⟨rfl,by omega,?_⟩;rw[pA,hI,ht];simp[pA]
 ·simp[SE.den,aa,au];rw[hI,asA (by omega)];simp[pA]
def Fj(f:Fa):Bool:=decide (f.j.length≤20)&&pA [f.a]
def qQ(l:List Fa):Bool:=decide (l.length≤9)&&l.all Fj
theorem c31(l:List Fa)(hw:∀f∈l,oP f):CC 31 false [bF l] (iB (qQ l)):=by
 refine CC.of aox n31 (t31 _) (by simp) (by simp) ?_;simp[acj,SE.den];by_cases h9:9<l.length
 ·left;exact⟨by omega,by simp[qQ];omega⟩
 right;refine⟨by omega,?_⟩;refine dh l.length (fun i (_:Unit)=>[iI i]) (fun i _=>qQ l=(l.drop i).all Fj) () ?_ ?_ fun i _ hi hI=>?_
 ·simp[SE.den]
 ·simp[qQ];omega
 by_cases aa:i<l.length
 ·rw[asq aa,axa]at hI;have jv:=aw aa (by omega);have iZ:=hw _ (asb aa);simp[SE.den,aa,jv,aa6 aa,dA,ab,cellsOf];by_cases h20:20<l[i].j.length
  ·left;refine⟨by omega,?_⟩;rw[hI,Fj];simp;intro h;omega
  right;refine⟨by omega,?_⟩;have h3:=api [l[i].a] (by simp) (by simpa using iZ.1);simp only[cS,List.map_cons,List.map_nil,ku]at h3;refine⟨_,h3,?_⟩;simp[SE.den,jv];cases ht:pA [l[i].a]
  ·left;refine⟨rfl,?_⟩;rw[hI,Fj,ht];simp
  ·right;refine⟨rfl,by omega,?_⟩;rw[hI,Fj,ht];simp;omega
 ·simp[SE.den,aa];rw[hI,asA (by omega)];simp
def O7(x:Ap):Bool:=decide (x.dw.length≤8)&&(decide (x.gone.length≤8)&&(decide (x.made.length≤20)&&decide (x.fK.length≤20)))
def qR(m:Me):Bool:=qQ m.facts&&(qQ m.past&&(decide (m.log.length≤12)&&m.log.all O7))
theorem O8{m:Me}(hm:CS m)(h:qR m=true):m.facts.length≤9∧m.past.length≤9∧m.log.length≤12∧∀x∈m.log,x.gone.length≤8:=by
 simp only[qR,qQ,ar6,decide_eq_true_eq,asl,O7]at h;exact⟨h.1.1,h.2.1.1,h.2.2.1,fun x hx=>(h.2.2.2 x hx).2.1⟩
end Go.Proofs.YtggffkaadeagbaaGreat
namespace Go.Proofs.YtggffkaadeagbaaGreat
open Go Go.Ev
theorem n23:(ar3.funcs[23]?).map (·.params.size)=some 2:=by kernel_rfl
theorem t23(z:IV):aD ar3 23 z=true:=by kernel_rfl
variable{Q:IV→Prop}{k0 k1 k2 k3 k4 k5:List IV→Prop}
def ia{α:Type}(lt:α→α→Bool)(b:α):List α→List α
 |[]=>[b]
 |x::l=>if lt b x then b::x::l else x::ia lt b l
def mJ(a b:At):Bool:=decide (lU a b<0)
def IH:List At→List At→List At
 |out,[]=>out
 |out,b::l=>IH (ia mJ b out) l
theorem O9{α:Type}(lt:α→α→Bool)(b:α):∀l:List α,(ia lt b l).length=l.length+1
 |[]=>rfl
 |x::l=>by
  unfold ia;split
  ·simp
  ·simp[O9 lt b l]
theorem kZ{l:List At}{i:Nat}(h:i<l.length):cq 2 (cS l) (iI (i:Nat))=some (.agg [iS l[i].s,iT l[i].ts]):=agr h
theorem vW{l:List Fa}{i:Nat}(h:i<l.length):cq 4 (bF l) (iI (i:Nat))=some (.agg [iI l[i].id,iS l[i].a.s,iT l[i].a.ts,iL l[i].j]):=aa6 h
theorem Cj{a b:List At}(h:a.length+b.length≤1000):gl 2 40 (cS a) (cS b)=some (cS (a++b)):=by
 have h2:iz 2 (b.map ku)=true:=by
  unfold iz;rw[asl];intro e he;obtain⟨x,_,rfl⟩:=asO.1 he;rfl
 simp[gl,h2];omega
theorem agv{a:List At}(x:At)(h:a.length≤900):gl 2 40 (cS a) (.tree 2 [.agg [iS x.s,iT x.ts]])=some (cS (a++[x])):=Cj (b:=[x]) (by simp;omega)
def yl(m:Me):List At:=IH [] (m.facts.map (·.a))
def sameAs:List At→List At→Bool
 |[],[]=>true
 |a::l,b::m=>(lU a b==0)&&sameAs l m
 |_,_=>false
theorem II:∀{l m:List At},sameAs l m=true→l.length=m.length
 |[],[],_=>rfl
 |_::_,_::_,h=>by
  simp only[sameAs,ar6]at h;simp[II h.2]
 |[],_::_,h=>by simp[sameAs]at h
 |_::_,[],h=>by simp[sameAs]at h
theorem c23(l m:List At)(hl:Sm l)(hw:∀x∈l,CQ x):CC 23 false [cS l,cS m] (iB (sameAs l m)):=by
 refine CC.of aov n23 (t23 _) (by simp) (by simp) ?_;simp[ach,SE.den];by_cases we:l.length=m.length
 ·right;refine⟨by omega,?_⟩;refine dh l.length (fun i (_:Unit)=>[iI i]) (fun i _=>sameAs l m=sameAs (l.drop i) (m.drop i)) () ?_ ?_ fun i _ hi hI=>?_
  ·simp[SE.den]
  ·simp
  by_cases aa:i<l.length
  ·have oq:i<m.length:=by omega
   rw[asq aa,asq oq,sameAs]at hI;have tP:=aw aa hl;have h3:=c64 l[i] m[i] (hw _ (asb aa));simp only[ku]at h3;simp[SE.den,aa,tP,kZ aa,kZ oq,ab];refine⟨_,h3,?_⟩;simp[SE.den];by_cases h:lU l[i] m[i]=0
   ·right;exact⟨h,by omega,by rw[hI];simp[h]⟩
   ·left;exact⟨h,by rw[hI];simp[h]⟩
  ·simp[SE.den,aa];rw[hI,asA (by omega),asA (by omega)];rfl
 ·left;refine⟨by omega,?_⟩;cases h:sameAs l m
  ·rfl
  ·exact absurd (II h) we
end Go.Proofs.YtggffkaadeagbaaGreat
namespace Go.Proofs.YtggffkaadeagbaaGreat
open Go Go.Ev
section sorting
variable{α:Type}{lt:α→α→Bool}
def ee(lt:α→α→Bool):List α→List α→List α
 |out,[]=>out
 |out,b::l=>ee lt (ia lt b out) l
theorem adY(o A B:List α):ee lt o (A++B)=ee lt (ee lt o A) B:=by
 induction A generalizing o with
 |nil=>rfl
 |cons a A ih=>exact ih _
theorem O_(o A:List α)(x:α):ee lt o (A++[x])=ia lt x (ee lt o A):=by rw[adY];rfl
theorem xo(o A:List α):(ee lt o A).length=o.length+A.length:=by
 induction A generalizing o with
 |nil=>rfl
 |cons a A ih=>rw[ee,ih,O9];simp;omega
structure Ord(lt:α→α→Bool):Prop where
 h1:∀x y z,lt x y=true→lt z y=false→lt x z=true
 h2:∀x y,lt x y=true→lt y x=false
abbrev F0(lt:α→α→Bool)(p:List α):Prop:=p.Pairwise fun a b=>lt b a=false
theorem zz(x a:α)(l:List α):ia lt x (a::l)=if lt x a then x::a::l else a::ia lt x l:=rfl
theorem rJ{b x:α}:∀{l:List α},b∈ia lt x l↔b=x∨b∈l
 |[]=>by simp[ia]
 |a::l=>by
  rw[zz];split
  ·simp
  ·simp[rJ (l:=l)];grind
theorem GX(hO:Ord lt)(x:α):∀{p:List α},F0 lt p→F0 lt (ia lt x p)
 |[],_=>by simp[ia,F0]
 |a::l,h=>by
  have h':=atk.1 h;rw[zz];split
  ·rename_i tC;refine atk.2 ⟨fun b hb=>?_,h⟩;rcases asZ.1 hb with rfl|hb
   ·exact hO.h2 _ _ tC
   ·exact hO.h2 _ _ (hO.h1 x a b tC (h'.1 b hb))
  ·rename_i tC;refine atk.2 ⟨fun b hb=>?_,GX hO x h'.2⟩;rcases rJ.1 hb with rfl|hb
   ·simpa using tC
   ·exact h'.1 b hb
theorem J2(hO:Ord lt):∀(A:List α) {o:List α},F0 lt o→F0 lt (ee lt o A)
 |[],_,h=>h
 |a::A,_,h=>J2 hO A (GX hO a h)
theorem GY{x:α}:∀{A B:List α},(∀a∈A,lt x a=false)→(∀b∈B,lt x b=true)→ia lt x (A++B)=A++x::B
 |[],[],_,_=>rfl
 |[],b::B,_,hB=>by simp[ia,hB b (by simp)]
 |a::A,B,hA,hB=>by
  have:=GY (A:=A) (B:=B) (fun a ha=>hA a (by simp[ha])) hB;simp[ia,hA a (by simp),this]
theorem Pa(hO:Ord lt){p:List α}{x:α}{j:Nat}(hs:F0 lt p)(hj:j≤p.length)(hB:∀b∈p.drop j,lt x b=true)(hA:∀i,j=i+1→∀a,p[i]?=some a→lt x a=false):
 p.take j++x::p.drop j=ia lt x p:=by
 have h:=GY (lt:=lt) (x:=x) (A:=p.take j) (B:=p.drop j) ?_ hB
 ·rw[List.take_append_drop]at h;exact h.symm
 ·intro a ha;cases j with
  |zero=>simp at ha
  |succ i=>
   obtain⟨q,hq,rfl⟩:=List.mem_iff_getElem.1 ha;simp at hq;have hi:i<p.length:=by omega
   have hx:=hA i rfl p[i] (List.getElem?_eq_getElem hi);rw[List.getElem_take];by_cases hqi:q=i
   ·subst hqi;exact hx
   ·have aa:q<i:=by omega
    have FJ:=List.pairwise_iff_getElem.1 hs q i (by omega) hi aa;cases tC:lt x p[q]with
    |false=>rfl
    |true=>rw[hO.h1 x _ _ tC FJ]at hx;cases hx
theorem F1(hO:Ord lt)(q:α→Bool)(x:α):∀{p:List α},F0 lt p→(ia lt x p).filter q=if q x then ia lt x (p.filter q)else p.filter q
 |[],_=>by cases h:q x<;>simp[ia,h]
 |a::l,h=>by
  have h':=atk.1 h;rw[zz];split
  ·rename_i tC;cases hq:q x with
   |false=>simp[List.filter_cons,hq]
   |true=>
    rw[as6 hq]
    have aT:∀b∈(a::l).filter q,lt x b=true:=fun b hb=>by
     have hb:=(List.mem_filter.1 hb).1;rcases asZ.1 hb with rfl|hb
     ·exact tC
     ·exact hO.h1 x a b tC (h'.1 b hb)
    have:=GY (lt:=lt) (x:=x) (A:=[]) (B:=(a::l).filter q) (by simp) aT;simp only[List.nil_append]at this;simp[this]
  ·rename_i tC;have ih:=F1 hO q x h'.2;cases hqa:q a with
   |false=>rw[asX (by simp[hqa]),asX (by simp[hqa]),ih]
   |true=>
    rw[as6 hqa,as6 hqa,ih];cases hq:q x with
    |false=>rfl
    |true=>
     simp only[if_true];rw[zz,if_neg tC]
theorem IJ(hO:Ord lt)(q:α→Bool):∀(A:List α) {o:List α},F0 lt o→(ee lt o A).filter q=ee lt (o.filter q) (A.filter q)
 |[],_,_=>rfl
 |a::A,o,h=>by
  rw[ee,IJ hO q A (GX hO a h),F1 hO q a h];cases hq:q a with
  |false=>rw[asX (by simp[hq])];simp
  |true=>rw[as6 hq];simp[ee]
end sorting
def jd(a b:Fa):Bool:=decide (a.id<b.id)
theorem Eb:∀(l o:List At),IH o l=ee mJ o l
 |[],_=>rfl
 |b::l,o=>by rw[IH,ee,Eb l]
theorem aa_:Ord jd:=⟨fun x y z h1 h2=>by simp[jd]at*;omega,fun x y h=>by simp[jd]at*;omega⟩
end Go.Proofs.YtggffkaadeagbaaGreat
