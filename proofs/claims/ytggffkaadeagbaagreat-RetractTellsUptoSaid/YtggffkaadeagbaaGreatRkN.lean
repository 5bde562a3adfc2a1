/- A part of the proof, no condition: the entries of a log are right. -/
import Derived.Test.YtggffkaadeagbaaGreatRkJ
import Derived.Test.YtggffkaadeagbaaGreatRiP
open List renaming pairwise_iff_getElem->auY,getElem_mem->asO,length_pos_iff->aur,take_of_length_le->as0,take_succ_eq_append_getElem->asX,count_append->axq,count_le_length->auR,mem_map->ath,length_take->at5,nodup_append->au_,filterMap_append->aw0,mem_append->as8,mem_append_left->atz,mem_append_right->atx,getElem?_map->as4,map_map->avw,mem_of_getElem?->asZ,map_set->awQ,getElem_set->axx,map_append->avR,mem_of_mem_eraseIdx->avE
open Nat renaming le_refl->asR
open Int renaming natCast_zero->axF
open Go.IntKind renaming i64->as7
open Go.Proofs.Tryz renaming prog->asK
open Option renaming map_eq_some_iff->asS
open Prod renaming fst->avx
open Classical renaming not_forall->awe
open Option renaming some->aa,none->ah
open Bool renaming true->ab,false->af
set_option linter.all false
namespace Go.Proofs.YtggffkaadeagbaaGreat
open Go Go.Ev
structure pM(ds:List De)(given:Int)(f:Fa):Prop where
 a:cC f.a=ab
 v:varsOf f.a.ts=[]
 d:br ds f.a.s f.a.ts.length=ab
 n:f.j≠[]
 j:JOk f.j
 g:∀j∈f.j,j<=given
structure iJ(ds:List De)(next given:Int)(l:List Fa):Prop where
 i:∀f∈l,1<=f.id/\f.id<next
 f:∀f∈l,pM ds given f
 s:mJ l
theorem aa8{l:List Fa}{i:Nat}(h:i<l.length)(h0:0<i)(hk:l[i].id<=l[i- 1].id):¬mJ l:=λha=>by
 have:=auY.1 ha (i- 1) i (by omega) h (by omega);omega
theorem v39(p:Pg)(hd:Sm p.decls)(m:Me)(l:List Fa)(hl:Sm l)(hn:∀f∈l,yX f)(hz:∀f∈l,cg f.a.ts<=1000000000000):∃b,(b=ab↔iJ p.decls m.next m.given l)/\CC 39 af [dm p,dr m,gL l] (iB b):=by
 refine CC.qP _ aqv n39 t39 (by intro x hx;simp at hx;rcases hx with rfl|rfl|rfl;exact fx p;exact iQ m;exact QH l) (by rfl) ?_;have DO:=λm':iJ p.decls m.next m.given l=>m'.i;have DP:=λm':iJ p.decls m.next m.given l=>m'.f;have Kg:=λm':iJ p.decls m.next m.given l=>m'.s;have hO:=λa b c=>(⟨a,b,c⟩:iJ p.decls m.next m.given l);generalize iJ p.decls m.next m.given l=O at DO DP Kg hO⊢;obtain⟨ds,rs⟩:=p;simp only at*
 show Xw.sat _ _ _ _ [.agg [eK ds,yV rs],.agg [gL m.facts,gL m.past,Fb m.log,iI m.next,iI m.given],gL l];simp[Xw,SE.den,aj];unfold Uk;refine aw l.length (λi (_:Unit)=>[iI i]) (λi _=>mJ (l.take i)/\(∀f∈l.take i,1<=f.id/\f.id<m.next)/\∀f∈l.take i,pM ds m.given f) () ?_ (by simp[mJ]) λi _ hi hI=>?_
 ·simp[SE.den]
 obtain⟨oT,iR,rS⟩:=hI;by_cases ai:i<l.length
 ·have hw:=aD ai hl;have gh:=asO ai;have s6:=hn _ gh;have h49:=v49 l[i].a s6.1.1 (s6.1.b (hz _ gh));have h50:cC l[i].a=ab->CC 50 af [.agg [iS l[i].a.s,iT l[i].a.ts]] (iL (varsOf l[i].a.ts)):=λhf=>v50 l[i].a s6.1.2.1 λt ht=>⟨(s6.1.2.2 t ht).wf,lB hf t ht⟩;have h51:=v51 ds l[i].a.s l[i].a.ts.length hd;obtain⟨b99,XX,h99⟩:=v99 l[i].j s6.2;have aW:=λo=>DP o _ gh;have Ma:=λo=>DO o _ gh;simp[SE.den,ai,hw,yU ai,aj];by_cases y1:l[i].id<1
  ·left;exact⟨y1,λo=>by have:=Ma o;omega⟩
  right;refine⟨by omega,?_⟩;by_cases y2:m.next<=l[i].id
  ·left;exact⟨y2,λo=>by have:=Ma o;omega⟩
  right;refine⟨by omega,?_⟩;by_cases y3:0<i
  ·left;refine⟨y3,?_⟩;have hm:=Gy y3 (Nat.le_of_lt ai) hl;have gk:i- 1<l.length:=by omega
   have hx:=yU gk;simp only[gL]at hx;simp[hm,hx,aj];by_cases y4:l[i].id<=l[i- 1].id
   ·left;exact⟨y4,λo=>aa8 ai y3 y4 (Kg o)⟩
   right;refine⟨by omega,?_⟩;have jQ:0<i->∀h':i- 1<l.length,l[i- 1].id<l[i].id:=λ_ _=>by omega
   refine⟨_,h49,?_⟩;cases Sy:cC l[i].a<;>simp
   ·exactλo=>by have:=(aW o).a;simp[Sy]at this
   refine⟨_,h50 Sy,?_⟩;simp;by_cases z1:varsOf l[i].a.ts=[]
   rotate_left
   ·left;exact⟨aur.2 z1,λo=>z1 (aW o).v⟩
   right;refine⟨z1,_,h51,?_⟩;cases b51:br ds l[i].a.s l[i].a.ts.length<;>simp
   ·exactλo=>by have:=(aW o).d;simp[b51]at this
   by_cases z2:l[i].j=[]
   ·left;exact⟨z2,λo=>(aW o).n z2⟩
   right;refine⟨z2,_,h99,?_⟩;cases b99<;>simp
   ·exactλo=>by have:=XX.2 (aW o).j;cases this
   have hj:=XX.1 rfl;have hp:0<l[i].j.length:=aur.2 z2;have j0:dy 1 (iL l[i].j) (iI 0)=aa (iI l[i].j[0]):=dN (l:=l[i].j) (i:=0) hp;have j1:=dN (l:=l[i].j) (i:=l[i].j.length- 1) (by omega);have jw:=Gy hp (asR _) s6.2;have Zl:=hj.1 _ (asO (l:=l[i].j) (n:=0) hp);simp only[iL,axF]at j0 j1;simp[j0,j1,jw];right;refine⟨by omega,?_⟩;by_cases z4:m.given<l[i].j[l[i].j.length- 1]
   ·left;exact⟨z4,λo=>by have:=(aW o).g _ (asO (l:=l[i].j) (n:=l[i].j.length- 1) (by omega));omega⟩
   right;exact⟨by omega,.mk () rfl (by omega) ⟨Ii ai oT jQ,aC (p:=λf:Fa=>1<=f.id/\f.id<m.next) ai iR ⟨by omega,by omega⟩,aC ai rS ⟨Sy,z1,b51,z2,hj,λj fZ=>by have:=Ih hj.2 (by omega) j fZ;omega⟩⟩⟩
  ·right;refine⟨by omega,?_⟩;have jQ:0<i->∀h':i- 1<l.length,l[i- 1].id<l[i].id:=λh=>absurd h y3;refine⟨_,h49,?_⟩;cases Sy:cC l[i].a<;>simp
   ·exactλo=>by have:=(aW o).a;simp[Sy]at this
   refine⟨_,h50 Sy,?_⟩;simp;by_cases z1:varsOf l[i].a.ts=[]
   rotate_left
   ·left;exact⟨aur.2 z1,λo=>z1 (aW o).v⟩
   right;refine⟨z1,_,h51,?_⟩;cases b51:br ds l[i].a.s l[i].a.ts.length<;>simp
   ·exactλo=>by have:=(aW o).d;simp[b51]at this
   by_cases z2:l[i].j=[]
   ·left;exact⟨z2,λo=>(aW o).n z2⟩
   right;refine⟨z2,_,h99,?_⟩;cases b99<;>simp
   ·exactλo=>by have:=XX.2 (aW o).j;cases this
   have hj:=XX.1 rfl;have hp:0<l[i].j.length:=aur.2 z2;have j0:dy 1 (iL l[i].j) (iI 0)=aa (iI l[i].j[0]):=dN (l:=l[i].j) (i:=0) hp;have j1:=dN (l:=l[i].j) (i:=l[i].j.length- 1) (by omega);have jw:=Gy hp (asR _) s6.2;have Zl:=hj.1 _ (asO (l:=l[i].j) (n:=0) hp);simp only[iL,axF]at j0 j1;simp[j0,j1,jw];right;refine⟨by omega,?_⟩;by_cases z4:m.given<l[i].j[l[i].j.length- 1]
   ·left;exact⟨z4,λo=>by have:=(aW o).g _ (asO (l:=l[i].j) (n:=l[i].j.length- 1) (by omega));omega⟩
   right;exact⟨by omega,.mk () rfl (by omega) ⟨Ii ai oT jQ,aC (p:=λf:Fa=>1<=f.id/\f.id<m.next) ai iR ⟨by omega,by omega⟩,aC ai rS ⟨Sy,z1,b51,z2,hj,λj fZ=>by have:=Ih hj.2 (by omega) j fZ;omega⟩⟩⟩
 ·rw[as0 (by omega)]at oT iR rS;simp[SE.den,ai];exact hO iR rS oT
def fM(ls:List (List Int))(id:Int):Nat:=ls.flatten.count id
theorem Ai{ls:List (List Int)}{i:Nat}(h:i<ls.length)(id:Int):fM (ls.take (i+1)) id=fM (ls.take i) id+ls[i].count id:=by
 unfold fM;rw[asX h,List.flatten_append,axq];simp
theorem Iw{l:List Int}{i:Nat}(h:i<l.length)(id:Int):(l.take (i+1)).count id=(l.take i).count id+if l[i]=id then 1 else 0:=by
 rw[asX h,axq];congr 1;by_cases z:l[i]=id
 ·simp[z]
 ·rw[if_neg z,List.count_eq_zero];simpa using λh=>z h.symm
theorem GI(ls:List (List Int))(id:Int)(hl:ls.length<=100)(h:∀l∈ls,l.length<=100):∀i,fM (ls.take i) id<=100*i
 |0=>by simp[fM]
 |i+1=>by
  have ih:=GI ls id hl h i;by_cases ai:i<ls.length
  ·rw[Ai ai];have:=h _ (asO ai);have:=auR (a:=id) (l:=ls[i]);omega
  ·rw[as0 (by omega)]at ih⊢;omega
theorem v42(l:List Ap)(id:Int)(made:Bool)(hl:l.length<=100)(hx:∀x∈l,x.made.length<=100/\x.gone.length<=100):CC 42 af [Fb l,iI id,iB made] (iI ((fM (l.map λx=>if made then x.made else x.gone) id:Nat):Int)):=by
 refine CC.ada aqz n42 t42 (by simp) (by rfl) ?_;generalize hL:(l.map λx=>if made then x.made else x.gone)=L;have hLl:L.length=l.length:=by rw[<-hL];simp
 have hle:=GI L id (by omega) λy hy=>by
  rw[<-hL]at hy;obtain⟨x,iN,rfl⟩:=ath.1 hy;have:=hx x iN;cases made<;>simp<;>omega
 simp[aea,Us,SE.den,aj];refine aw l.length (λi (a:Int)=>[iI i,iI a]) (λi a=>a=(fM (L.take i) id:Nat)) 0 ?_ (by simp[fM]) λi a hi hI=>?_
 ·simp[SE.den]
 by_cases ai:i<l.length
 ·have hw:=aD ai (by omega);obtain⟨w3,w2⟩:=hx _ (asO ai);have Hn:=Ai (ls:=L) (i:=i) (by omega) id;have vn:L[i]'(by omega)=if made then l[i].made else l[i].gone:=by simp[<-hL]
  have hb:=hle i;rw[vn]at Hn;simp[SE.den,ai,acI ai,aj];cases made with
  |true=>
   simp at Hn⊢;unfold Uq;refine aw l[i].made.length (λi (a:Int)=>[iI i,iI a]) (λj b=>b=a+((l[i].made.take j).count id:Nat)) a ?_ (by simp) λj b hj hJ=>?_
   ·simp[SE.den]
   by_cases dZ:j<l[i].made.length
   ·have O7:=aD dZ (by omega);have gG:=Iw dZ id;have ek:=auR (a:=id) (l:=l[i].made.take j);rw[at5]at ek;have hwb:as7.wrap (b+1)=b+1:=cQ (by omega) (by omega);simp[SE.den,dZ,O7,dN dZ];by_cases z:l[i].made[j]=id
    ·left;exact⟨z,.mk (b+1) (by rw[hwb];rfl) (by omega) (by rw[gG,if_pos z];omega)⟩
    ·right;exact⟨z,.mk b rfl (by omega) (by rw[gG,if_neg z];omega)⟩
   ·rw[as0 (by omega)]at hJ;simp[SE.den,dZ,hw];exact .mk b (by simp) (by omega) (by rw[Hn];omega)
  |false=>
   simp at Hn⊢;unfold Ur;refine aw l[i].gone.length (λi (a:Int)=>[iI i,iI a]) (λj b=>b=a+((l[i].gone.take j).count id:Nat)) a ?_ (by simp) λj b hj hJ=>?_
   ·simp[SE.den]
   by_cases dZ:j<l[i].gone.length
   ·have O7:=aD dZ (by omega);have gG:=Iw dZ id;have ek:=auR (a:=id) (l:=l[i].gone.take j);rw[at5]at ek;have hwb:as7.wrap (b+1)=b+1:=cQ (by omega) (by omega);simp[SE.den,dZ,O7,dN dZ];by_cases z:l[i].gone[j]=id
    ·left;exact⟨z,.mk (b+1) (by rw[hwb];rfl) (by omega) (by rw[gG,if_pos z];omega)⟩
    ·right;exact⟨z,.mk b rfl (by omega) (by rw[gG,if_neg z];omega)⟩
   ·rw[as0 (by omega)]at hJ;simp[SE.den,dZ,hw];exact .mk b (by simp) (by omega) (by rw[Hn];omega)
 ·rw[as0 (by omega)]at hI;simp[SE.den,ai];exact hI
end Go.Proofs.YtggffkaadeagbaaGreat
namespace Go.Proofs.YtggffkaadeagbaaGreat
open Go Go.Ev
theorem arv(a b:List Int)(hl:Sm a):CC 53 ab [iL a,iL b] (iB (a==b)):=by
 refine CC.gV amv n53 t53 (by simp) (by rfl) ?_;generalize hS:(a==b)=S;simp[aaw,SE.den,aj,aA];by_cases z:a.length=b.length
 rotate_left
 ·left;refine⟨by omega,?_⟩;subst S;simp;exactλe=>z (by rw[e])
 right;refine⟨by omega,?_⟩;unfold Rh;refine aw a.length (λi (_:Unit)=>[iI i]) (λi _=>a.take i=b.take i) () ?_ (by simp) λi _ hi hI=>?_
 ·simp[SE.den]
 by_cases ai:i<a.length
 ·have hw:=aD ai hl;have dZ:i<b.length:=by omega
  simp[SE.den,ai,hw,dN ai,dN dZ,aA];by_cases z:a[i]=b[i]
  ·right;exact⟨z,.mk () rfl (by omega) (by rw[asX ai,asX dZ,hI,z])⟩
  ·left;refine⟨z,?_⟩;subst S;simp;exactλe=>z (by subst e;rfl)
 ·rw[as0 (by omega),as0 (by omega)]at hI;simp[SE.den,ai,aA];subst S;simp[hI]
structure Sz(m:Me)(x:Ap):Prop where
 nd:x.bA.Nodup
 hd:∀n∈x.bA,∃f,cR m n=aa f
 j:x.fA=eW ((x.bA.filterMap (cR m)).map Fa.j)
 g:∀n∈x.gone,∃f,findF m.past n=aa f
 m:∀n∈x.made,∃f,cR m n=aa f/\f.j=x.fA
theorem Kk{l:List Int}{n:Int}(h:l.Nodup)(h1:n∉l):(l++[n]).Nodup:=by
 rw[au_];exact⟨h,by simp,λa ha b hb=>by simp at hb;subst hb;exactλe=>h1 (e▸ha)⟩
theorem adf{l:List Int}{i:Nat}(h:i<l.length)(hm:l[i]∈l.take i):¬l.Nodup:=λhn=>by
 have h0:(l.take i++l.drop i).Nodup:=by rw[List.take_append_drop];exact hn
 rw[au_,List.drop_eq_getElem_cons h]at h0;exact h0.2.2 _ hm _ List.mem_cons_self rfl
section
variable{k0 k1 k2:List IV->Prop}{O:Prop}
abbrev EM(m:Me)(x:Ap):Prop:=∀n∈x.made,∃f,cR m n=aa f/\f.j=x.fA
abbrev EG(m:Me)(x:Ap):Prop:=(∀n∈x.gone,∃f,findF m.past n=aa f)/\EM m x
theorem anS{x0 x3 x4 x5 x6 x7 x8 x9 eD:IV}(m:Me)(hm:q8 m)(x:Ap)(hx:J0 x)(hR:EM m x↔O):
 Um.sat asK CC (ou λb=>b=ab↔O) [k0,k1] [x0,dr m,kI x,x3,x4,x5,x6,x7,x8,x9,eD]:=by
 refine aw x.made.length (λi (_:Unit)=>[iI i]) (λi _=>∀n∈x.made.take i,∃f,cR m n=aa f/\f.j=x.fA) () ?_ (by simp) λi _ hi hI=>?_
 ·simp[SE.den]
 have Vl:=hx.m;by_cases ai:i<x.made.length
 ·have hw:=aD ai (by omega);have gh:=asO ai;have sH:=aif m x.made[i] hm.w;simp only[dr]at sH;cases he:cR m x.made[i]with
  |none=>
   rw[he]at sH;simp only[ru,ef]at sH;simp[SE.den,dr,kI,ai,dN ai,aj];refine⟨_,sH,?_⟩;simp[aj];exactλo=>by obtain⟨f,h,_⟩:=hR.2 o _ gh;rw[he]at h;cases h
  |some f=>
   rw[he]at sH;simp only[ru,ef]at sH;have hj:=hm.j f (AB he);have Vm:=T7 f.j x.fA (by unfold Sm;omega);simp[SE.den,dr,kI,ai,dN ai,aj];refine⟨_,sH,?_⟩;simp[aj];refine⟨_,Vm,?_⟩;cases hb:(f.j==x.fA)<;>simp[hw]
   ·exactλo=>by obtain⟨g,h,h'⟩:=hR.2 o _ gh;rw[he]at h;cases h;simp[h']at hb
   exact .mk () rfl (by omega) (aC (p:=λn=>∃f,cR m n=aa f/\f.j=x.fA) ai hI ⟨f,he,by simpa using hb⟩)
 ·simp[SE.den,kI,ai];exact hR.1 (aK ai hI)
theorem anT{x0 x3 x4 x5 x6 x7 x8 x9:IV}(m:Me)(hm:q8 m)(x:Ap)(hx:J0 x)(hR:EG m x↔O):
 Un.sat asK CC (ou λb=>b=ab↔O) [k0] [x0,dr m,kI x,x3,x4,x5,x6,x7,x8,x9]:=by
 refine aw x.gone.length (λi (_:Unit)=>[iI i]) (λi _=>∀n∈x.gone.take i,∃f,findF m.past n=aa f) () ?_ (by simp) λi _ hi hI=>?_
 ·simp[SE.den]
 have Vl:=hx.g;by_cases ai:i<x.gone.length
 ·have hw:=aD ai (by omega);have gh:=asO ai;have NW:=c41 m.past x.gone[i] hm.w.sp;cases he:findF m.past x.gone[i]with
  |none=>
   rw[he]at NW;simp only[ru,ef]at NW;simp[SE.den,dr,kI,ai,dN ai,aj];refine⟨_,NW,?_⟩;simp[aj];exact cE hR λq=>by obtain⟨f,h⟩:=q _ gh;rw[he]at h;cases h
  |some f=>
   rw[he]at NW;simp only[ru,ef]at NW;simp[SE.den,dr,kI,ai,dN ai,aj];refine⟨_,NW,?_⟩;simp[aj,hw];exact .mk () rfl (by omega) (aC (p:=λn=>∃f,findF m.past n=aa f) ai hI ⟨f,he⟩)
 ·have hI:=aK ai hI;have:=anS (k0:=k0) (k1:=Hc x.gone.length (λi (_:Unit)=>[iI i]) (λi _=>∀n∈x.gone.take i,∃f,findF m.past n=aa f) i) (x0:=x0) (x3:=x3) (x4:=x4) (x5:=x5) (x6:=x6) (x7:=x7) (x8:=x8) (x9:=x9) (eD:=iI i) m hm x hx (cD hR hI);simp[SE.den,kI,ai];exact this
theorem anU{x0 x3 x4 x5:IV}(m:Me)(hm:q8 m)(x:Ap)(hx:J0 x)(hR:Sz m x↔O):
 Gx.sat asK CC (ou λb=>b=ab↔O) [] [x0,dr m,kI x,x3,x4,x5]:=by
 refine aw x.bA.length (λi (a:List Fa)=>[iI i,gL a]) (λi a=>a=(x.bA.take i).filterMap (cR m)/\(x.bA.take i).Nodup/\(∀n∈x.bA.take i,∃f,cR m n=aa f)/\a.length<=i/\∀f∈a,f.j.length<=20) [] ?_ (by simp) λi a hi hI=>?_
 ·simp[SE.den]
 obtain⟨iU,hIn,SA,oT,iR⟩:=hI;have Vl:=hx.h;by_cases ai:i<x.bA.length
 ·have hw:=aD ai (by omega);have gh:=asO ai;have sH:=aif m x.bA[i] hm.w;simp only[dr]at sH;cases he:cR m x.bA[i]with
  |none=>
   rw[he]at sH;simp only[ru,ef]at sH;simp[SE.den,dr,kI,ai,dN ai,aj];refine⟨_,sH,?_⟩;simp[aj];exactλo=>by obtain⟨f,h⟩:=(hR.2 o).hd _ gh;rw[he]at h;cases h
  |some f=>
   rw[he]at sH;simp only[ru,ef]at sH;have hj:=hm.j f (AB he);have fz:=Rj (L:=x.bA) (k:=i) (by omega);have h94:=aqc (x.bA.take i) x.bA[i] (by unfold Sm;simp;omega);have pU:=JU (a:=a) f (by omega)
   have hfm:(x.bA.take (i+1)).filterMap (cR m)=a++[f]:=by
    rw[asX ai,aw0,<-iU];simp[he]
   have pH:x.bA[i]∉x.bA.take i->(x.bA.take (i+1)).Nodup:=λh=>by
    rw[asX ai];exact Kk hIn h
   have bC:x.bA[i]∈x.bA.take i->¬O:=λh o=>adf ai h (hR.2 o).nd;have cw:=aC (p:=λn=>∃f,cR m n=aa f) ai SA ⟨f,he⟩;have Hn:(x.bA.take i).contains x.bA[i]=ab↔x.bA[i]∈x.bA.take i:=by simp
   generalize x.bA.take i=tk at fz h94 pH bC Hn;generalize tk.contains x.bA[i]=bb at h94 Hn;have ek:(a++[f]).length<=i+1:=by simp;omega
   have hcj:∀g∈a++[f],g.j.length<=20:=λg hg=>by
    rcases as8.1 hg with hg|hg
    ·exact iR g hg
    ·simp at hg;subst hg;exact hj
   generalize a++[f]=a' at pU ek hcj hfm;simp only[iL,gL]at fz pU;simp[SE.den,dr,kI,ai,dN ai,aj];refine⟨_,sH,?_⟩;simp[aj,fz];refine⟨_,h94,?_⟩;cases bb<;>simp[hw,pU,cellsOf]
   ·exact .mk a' (by simp) (by omega) ⟨hfm.symm,pH (λh=>(by have:=Hn.2 h;cases this)),cw,ek,hcj⟩
   ·exact bC (Hn.1 rfl)
 ·rw[as0 (by omega)]at iU hIn SA;obtain⟨hv,arw⟩:=anR a (by omega) iR;have hxj:=hx.j;have Vm:=T7 x.fA (eW (a.map Fa.j)) (by unfold Sm;omega);have hj:=λo=>(hR.2 o).j;have Pp:x.fA=eW (a.map Fa.j)->(EG m x↔O):=λe=>⟨λh=>hR.1 ⟨hIn,SA,by rw[<-iU];exact e,h.1,h.2⟩,λo=>⟨(hR.2 o).g,(hR.2 o).m⟩⟩;rw[<-iU]at hj;generalize eW (a.map Fa.j)=v at*
  have h1:=λhG=>anT (O:=O) (k0:=Hc x.bA.length (λi (a:List Fa)=>[iI i,gL a]) (λi a=>a=(x.bA.take i).filterMap (cR m)/\(x.bA.take i).Nodup/\(∀n∈x.bA.take i,∃f,cR m n=aa f)/\a.length<=i/\∀f∈a,f.j.length<=20) i) (x0:=x0) (x3:=x3) (x4:=x4) (x5:=x5) (x6:=iI i) (x7:=gL a) (x8:=iL v) (x9:=iB (x.fA==v)) m hm x hx hG;simp[SE.den,kI,ai];refine⟨_,arw,?_⟩;simp;refine⟨_,Vm,?_⟩;cases hb:(x.fA==v)<;>simp
  ·exactλo=>by simp[hj o]at hb
  rw[hb]at h1;exact h1 (Pp (by simpa using hb))
end
def gN(p:Pg)(m:Me)(x:Ap):Prop:=∃(k:Nat) (h:k<p.rules.length),x.rule=(k:Int)/\x.bA.length=p.rules[k].keep.length+p.rules[k].remove.length/\x.gone=x.bA.drop p.rules[k].keep.length/\(x.failed=ab->x.made=[])/\x.made.length<=12/\Sz m x
theorem v40(p:Pg)(hp:yW p)(m:Me)(hm:q8 m)(x:Ap)(hx:J0 x):∃b,(b=ab↔gN p m x)/\CC 40 af [dm p,dr m,kI x] (iB b):=by
 refine CC.qP _ aqx n40 t40 (by intro y hy;simp at hy;rcases hy with rfl|rfl|rfl;exact fx p;exact iQ m;exact ZS x) (by rfl) ?_;have hO:gN p m x↔gN p m x:=Iff.rfl;generalize Aj:gN p m x=O at hO⊢;have e52:Uo=Gx:=rfl;have h2:(Sz m x↔O)->∀x0 x3 x4 x5,Gx.sat asK CC (ou λb=>b=ab↔O) [] [x0,dr m,kI x,x3,x4,x5]:=λh _ _ _ _=>anU m hm x hx h;unfold gN at Aj;obtain⟨ds,rs⟩:=p;obtain⟨hd,hr,dn,wD,Eb⟩:=hp;have hxh:=hx.h;have hxg:=hx.g;have Vl:=hx.m;generalize Sz m x=B at h2 Aj;obtain⟨rule,bA,gone,made,failed,fA⟩:=x;simp only[dr,kI]at*
 show Xx.sat _ _ _ _ [.agg [eK ds,yV rs],_,_];simp[Xx,SE.den,aj,e52];by_cases z0:rule<0
 ·left;exact⟨z0,by rw[<-Aj];rintro⟨k,h,e,_⟩;omega⟩
 right;refine⟨by omega,?_⟩;by_cases z1:(rs.length:Int)<=rule
 ·left;exact⟨z1,by rw[<-Aj];rintro⟨k,h,e,_⟩;omega⟩
 right;refine⟨by omega,?_⟩;obtain⟨k,rfl⟩:∃k:Nat,rule=(k:Int):=⟨rule.toNat,by omega⟩;have hk:k<rs.length:=by omega
 have y8:(bA.length=rs[k].keep.length+rs[k].remove.length/\gone=bA.drop rs[k].keep.length/\(failed=ab->made=[])/\made.length<=12/\B)↔O:=by
  rw[<-Aj];refine⟨λh=>⟨k,hk,rfl,h⟩,λ⟨k',h',e,h⟩=>?_⟩;have:k'=k:=by omega
  subst this;exact h
 clear Aj hO;have nO:=(wD _ (asO hk)).h;have tv:=Ig hk;simp only[yV]at tv;have hwl:as7.wrap ((rs[k].keep.length:Int)+(rs[k].remove.length:Int))=rs[k].keep.length+rs[k].remove.length:=cQ (by omega) (by omega);simp[tv,aj,hwl];by_cases z2:(bA.length:Int)=rs[k].keep.length+rs[k].remove.length
 rotate_left
 ·left;exact⟨z2,cE y8 λh=>z2 (by omega)⟩
 right;refine⟨z2,?_⟩;have y8:=cD y8 (by omega);have fz:=aay (L:=bA) (k:=rs[k].keep.length) (by omega);have Vm:=arv gone (bA.drop rs[k].keep.length) (by unfold Sm;omega);generalize bA.drop rs[k].keep.length=dk at fz Vm y8;simp only[iL]at fz;simp[fz];refine⟨_,Vm,?_⟩;cases b53:(gone==dk)<;>simp
 ·exact cE y8 λh=>by simp[h]at b53
 have y8:=cD y8 (by simpa using b53);cases failed<;>simp
 ·have y8:=cD y8 (λh=>by cases h);by_cases z4:12<made.length
  ·left;exact⟨by omega,cE y8 (by omega)⟩
  ·right;exact⟨by omega,h2 (cD y8 (by omega)) _ _ _ _⟩
 ·by_cases z3:0<made.length
  ·left;exact⟨z3,cE y8 λh=>by simp[h rfl]at z3⟩
  right;have nD:made=[]:=by simpa using z3
  have y8:=cD y8 (λ_=>nD);refine⟨nD,?_⟩;right;exact⟨by omega,h2 (cD y8 (by omega)) _ _ _ _⟩
end Go.Proofs.YtggffkaadeagbaaGreat
namespace Go.Proofs.YtggffkaadeagbaaGreat
open Go Go.Ev
structure eX(p:Pg)(m:Me):Prop where
 c:NV p
 n:1<=m.next/\m.next<=2147483648
 g:0<=m.given/\m.given<=64
 f:iJ p.decls m.next m.given m.facts
 q:iJ p.decls m.next m.given m.past
 l:∀x∈m.log,gN p m x
 d:∀f∈m.facts,findF m.past f.id=ah/\fM (m.log.map Ap.made) f.id<=1
 e:∀f∈m.past,fM (m.log.map Ap.gone) f.id=1/\fM (m.log.map Ap.made) f.id<=1
def SzM(m:Me):Prop:=∀f∈m.facts++m.past,cg f.a.ts<=1000000000000
def SzP(p:Pg):Prop:=∀r∈p.rules,SzR r
theorem v14(p:Pg)(hp:yW p)(hz:SzP p)(m:Me)(hm:q8 m)(hn:∀f∈m.facts++m.past,yX f)(Vn:SzM m):∃b,(b=ab↔eX p m)/\CC 14 af [dm p,dr m] (iB b):=by
 refine CC.qP _ aqk n14 t14 (by intro y hy;simp at hy;rcases hy with rfl|rfl;exact fx p;exact iQ m) (by rfl) ?_;have hf:=hm.f;have mZ:=hm.p;have hl:=hm.l;have DB:=v12 p hp hz;obtain⟨b39,adg,h39⟩:=v39 p (by have:=hp.d;unfold Sm;omega) m m.facts (by unfold Sm;omega) (λf hf=>hn f (atz _ hf)) λf hf=>Vn f (atz _ hf);obtain⟨c39,adh,g39⟩:=v39 p (by have:=hp.d;unfold Sm;omega) m m.past (by unfold Sm;omega) (λf hf=>hn f (atx _ hf)) λf hf=>Vn f (atx _ hf);have h40:=λx hx=>v40 p hp m hm x (hm.x x hx);have h42:=λid made=>v42 m.log id made (by omega) λx hx=>by have:=(hm.x x hx).m;have:=(hm.x x hx).g;omega
 have adi:∀id,CC 42 af [Fb m.log,iI id,iB ab] (iI ((fM (m.log.map Ap.made) id:Nat):Int)):=λid=>h42 id ab;have ajE:∀id,CC 42 af [Fb m.log,iI id,iB af] (iI ((fM (m.log.map Ap.gone) id:Nat):Int)):=λid=>h42 id af;clear h42;have NW:=λid=>c41 m.past id (by unfold Sm;omega);have o1:=λo:eX p m=>y7.2 o.c;have o2:=λo:eX p m=>o.n;have o3:=λo:eX p m=>o.g;have o4:=λo:eX p m=>o.f;have o5:=λo:eX p m=>o.q;have o6:=λo:eX p m=>o.l;have o7:=λo:eX p m=>o.d;have o8:=λo:eX p m=>o.e;have oo:=λ(c0:iZ p=0) b c d e f g h=>(⟨y7.1 c0,b,c,d,e,f,g,h⟩:eX p m);generalize eX p m=O at o1 o2 o3 o4 o5 o6 o7 o8 oo⊢;generalize iZ p=N at DB o1 oo;generalize iJ p.decls m.next m.given m.facts=F1 at o4 oo adg;generalize iJ p.decls m.next m.given m.past=F2 at o5 oo adh;generalize gN p m=EE at o6 oo h40;obtain⟨ds,rs⟩:=p;obtain⟨mf,mp,ml,mn,mg⟩:=m;simp only[dm,dr]at*
 generalize fM (ml.map Ap.made)=cM at adi o7 o8 oo;generalize fM (ml.map Ap.gone)=cG at ajE o8 oo;show Xt.sat _ _ _ _ [.agg [eK ds,yV rs],_];have hwl:as7.wrap ((mf.length:Int)+(mp.length:Int))=mf.length+mp.length:=cQ (by omega) (by omega);simp[Xt,SE.den,aj,ov];refine⟨_,DB,?_⟩;simp[ov];by_cases z0:N=0
 rotate_left
 ·left;exact⟨z0,λo=>z0 (o1 o)⟩
 right;refine⟨z0,?_⟩;by_cases z1:mn<1
 ·left;exact⟨z1,λo=>by have:=o2 o;omega⟩
 right;refine⟨by omega,?_⟩;by_cases z2:2147483648<mn
 ·left;exact⟨z2,λo=>by have:=o2 o;omega⟩
 right;refine⟨by omega,?_⟩;by_cases z3:mg<0
 ·left;exact⟨z3,λo=>by have:=o3 o;omega⟩
 right;refine⟨by omega,?_⟩;by_cases z4:64<mg
 ·left;exact⟨z4,λo=>by have:=o3 o;omega⟩
 right;refine⟨by omega,?_⟩;right;refine⟨by omega,?_⟩;simp[hwl];right;refine⟨by omega,?_⟩;refine⟨_,h39,?_⟩;cases b39<;>simp
 ·exactλo=>by have:=adg.2 (o4 o);cases this
 refine⟨_,g39,?_⟩;cases c39<;>simp
 ·exactλo=>by have:=adh.2 (o5 o);cases this
 unfold Uc;refine aw ml.length (λi (_:Unit)=>[iI i]) (λi _=>∀x∈ml.take i,EE x) () ?_ (by simp) λi _ hi hL=>?_
 ·simp[SE.den]
 by_cases ai:i<ml.length
 ·have hw:=aD ai (by omega);obtain⟨b,hbj,hb⟩:=h40 _ (asO ai);simp only[kI]at hb;simp[SE.den,ai,hw,acI ai,aj];refine⟨_,hb,?_⟩;cases b<;>simp
  ·exactλo=>by have:=hbj.2 (o6 o _ (asO ai));cases this
  exact .mk () rfl (by omega) (aC ai hL (hbj.1 rfl))
 have hL:=aK ai hL;simp[SE.den,ai];unfold Ub;refine aw mf.length (λi (_:Unit)=>[iI i]) (λi _=>∀f∈mf.take i,findF mp f.id=ah/\cM f.id<=1) () ?_ (by simp) λi1 _ Pj hI=>?_
 ·simp[SE.den]
 by_cases eu:i1<mf.length
 ·have hw:=aD eu (by omega);have SB:=adi mf[i1].id;have LY:=NW mf[i1].id;have bC:=λo=>o7 o _ (asO eu);have cw:=λa=>aC (p:=λf:Fa=>findF mp f.id=ah/\cM f.id<=1) eu hI a;cases he:findF mp mf[i1].id with
  |some f=>
   rw[he]at LY;simp only[ru,ef]at LY;simp[SE.den,eu,yU eu,aj];refine⟨_,LY,?_⟩;simp[aj];exactλo=>by have:=(bC o).1;rw[he]at this;cases this
  |none=>
   rw[he]at LY;simp only[ru,ef]at LY;generalize cM mf[i1].id=n at SB bC cw;simp[SE.den,eu,yU eu,aj];refine⟨_,LY,?_⟩;simp[aj,hw];refine⟨_,SB,?_⟩;simp;by_cases z:1<n
   ·left;exact⟨by omega,λo=>by have:=(bC o).2;omega⟩
   ·right;exact⟨by omega,.mk () rfl (by omega) (cw ⟨he,by omega⟩)⟩
 have hD:=aK eu hI;simp[SE.den,eu];unfold Ua;refine aw mp.length (λi (_:Unit)=>[iI i]) (λi _=>∀f∈mp.take i,cG f.id=1/\cM f.id<=1) () ?_ (by simp) λi0 _ Dq iU=>?_
 ·simp[SE.den]
 by_cases kf:i0<mp.length
 ·have hw:=aD kf (by omega);have SB:=ajE mp[i0].id;have ajF:=adi mp[i0].id;have bC:=λo=>o8 o _ (asO kf);have cw:=λa=>aC (p:=λf:Fa=>cG f.id=1/\cM f.id<=1) kf iU a;generalize cG mp[i0].id=n at SB bC cw;generalize cM mp[i0].id=n2 at ajF bC cw;simp[SE.den,kf,yU kf,aj];refine⟨_,SB,?_⟩;simp[hw];by_cases z:n=1
  rotate_left
  ·left;exact⟨by omega,λo=>z (bC o).1⟩
  right;refine⟨by omega,_,ajF,?_⟩;simp;by_cases z':1<n2
  ·left;exact⟨by omega,λo=>by have:=(bC o).2;omega⟩
  ·right;exact⟨by omega,.mk () rfl (by omega) (cw ⟨z,by omega⟩)⟩
 ·simp[SE.den,kf];exact oo z0 (by omega) (by omega) (adg.1 rfl) (adh.1 rfl) hL hD (aK kf iU)
end Go.Proofs.YtggffkaadeagbaaGreat
namespace Go.Proofs.YtggffkaadeagbaaGreat
open Go Go.Ev
theorem aeI(ds:List (Int×IV))(k:Int):(∃i v,fB asK 3 (ds.map Iq) (iI k)=aa (aa i)/\ds[i]?=aa (k,v))\/(fB asK 3 (ds.map Iq) (iI k)=aa ah/\k∉ds.map (·.1)):=by
 have h:fB asK 3 (ds.map Iq) (iI k)=fB asK 3 ((ds.map (·.1)).map na) (iI k):=by
  unfold fB;rw[aez]
 rw[h];by_cases hm:k∈ds.map (·.1)
 ·left;obtain⟨i,g1,g2⟩:=(qi _ k).1 hm;rw[as4]at g2;obtain⟨⟨a,v⟩,g3,g4⟩:=asS.1 g2;simp only at g4;subst g4;exact⟨i,v,g1,g3⟩
 ·right;exact⟨(qi _ k).2 hm,hm⟩
theorem Kl(fs:List Fa)(k:Int):(∃i f,f∈fs/\fB asK 3 (fs.map AE) (iI k)=aa (aa i)/\fs[i]?=aa f/\f.id=k)\/(fB asK 3 (fs.map AE) (iI k)=aa ah/\∀f∈fs,f.id≠k):=by
 have hm:fs.map AE=(fs.map λf=>(f.id,ef f)).map Iq:=by rw[avw];rfl
 rw[hm];rcases aeI (fs.map λf=>(f.id,ef f)) k with⟨i,v,g1,g2⟩|⟨g,g'⟩
 ·left;rw[as4]at g2;obtain⟨f,g3,g4⟩:=asS.1 g2;exact⟨i,f,asZ g3,g1,g3,congrArg avx g4⟩
 ·refine .inr ⟨g,λf hf e=>g' ?_⟩;rw[avw];exact ath.2 ⟨f,hf,e⟩
structure fY(cs:List (Int×Int))(g:Int->Int):Prop where
 n:(cs.map (·.1)).Nodup
 v:∀c∈cs,c.2=g c.1
 k:∀k,k∉cs.map (·.1)->g k=0
theorem XY{cs:List (Int×Int)}{g:Int->Int}(h:fY cs g)(k:Int):(∃i,fB asK 3 (cs.map ow) (iI k)=aa (aa i)/\cs[i]?=aa (k,g k))\/(fB asK 3 (cs.map ow) (iI k)=aa ah/\k∉cs.map (·.1)/\g k=0):=by
 have hm:cs.map ow=(cs.map λc=>(c.1,iI c.2)).map Iq:=by rw[avw];rfl
 rw[hm];rcases aeI (cs.map λc=>(c.1,iI c.2)) k with⟨i,v,g1,g2⟩|⟨g1,g2⟩
 ·left;rw[as4]at g2;obtain⟨⟨a,c⟩,g3,g4⟩:=asS.1 g2;have:a=k:=congrArg avx g4;subst this;have hv:=h.v _ (asZ g3);simp only at hv;exact⟨i,g1,hv▸g3⟩
 ·have g3:k∉cs.map (·.1):=by rw[avw]at g2;exact g2
  exact .inr ⟨g1,g3,h.k k g3⟩
theorem fY.set{cs:List (Int×Int)}{g g':Int->Int}(h:fY cs g){i:Nat}{k:Int}(hi:cs[i]?=aa (k,g k))(hg:∀x,g' x=if x=k then g k+1 else g x):fY (cs.set i (k,g' k)) g':=by
 have da:=List.getElem?_eq_some_iff.1 hi
 have aeJ:(cs.set i (k,g' k)).map (·.1)=cs.map (·.1):=by
  rw[awQ];refine List.ext_getElem (by simp) λj h1 h2=>?_;rw[axx];split
  ·subst i;rw[List.getElem_map];rw[da.2]
  ·rfl
 refine⟨by rw[aeJ];exact h.n,λc hc=>?_,λx hx=>?_⟩
 ·obtain⟨j,hj,rfl⟩:=List.getElem_of_mem hc;rw[axx];split
  ·rfl
  ·rename_i aW;have fZ:j<cs.length:=by simpa using hj
   have hv:=h.v _ (asO fZ);obtain⟨Dp,uS⟩:=da
   have uQ:cs[j].1≠k:=λe=>by
    have hp:=auY.1 h.n;rcases Nat.lt_or_gt_of_ne aW with ai|ai
    ·exact hp i j (by simpa using Dp) (by simpa using fZ) ai (by simp[uS,e])
    ·exact hp j i (by simpa using fZ) (by simpa using Dp) ai (by simp[uS,e])
   exact hv.trans (by rw[hg,if_neg uQ])
 ·rw[aeJ]at hx;have hk:x≠k:=λe=>hx (by rw[e];exact ath.2 ⟨_,asZ hi,rfl⟩);rw[hg,if_neg hk];exact h.k x hx
theorem fY.add{cs:List (Int×Int)}{g g':Int->Int}(h:fY cs g){k:Int}(hk:k∉cs.map (·.1))(hg:∀x,g' x=if x=k then g k+1 else g x):fY (cs++[(k,g' k)]) g':=by
 refine⟨?_,λc hc=>?_,λx hx=>?_⟩
 ·rw[avR,au_];refine⟨h.n,by simp,λa ha b hb e=>hk ?_⟩;simp at hb;subst hb;exact e▸ha
 ·rcases as8.1 hc with hc|hc
  ·have:c.1≠k:=λe=>hk (e▸ath.2 ⟨c,hc,rfl⟩);rw[hg,if_neg this];exact h.v c hc
  ·simp at hc;subst hc;rfl
 ·rw[avR,as8]at hx;have h1:x≠k:=λe=>hx (.inr (by simp[e]));rw[hg,if_neg h1];exact h.k x λh=>hx (.inl h)
theorem fY.nil:fY [] λ_=>0:=⟨by simp,by simp,λ_ _=>rfl⟩
theorem fY.ext{cs:List (Int×Int)}{g g':Int->Int}(h:fY cs g)(e:∀k,g k=g' k):fY cs g':=(funext e:g=g')▸h
theorem fY.le1{cs:List (Int×Int)}{g:Int->Int}(h:fY cs g):(∀c∈cs,c.2<=1)↔∀k,g k<=1:=by
 refine⟨λh1 k=>?_,λh1 c hc=>by rw[h.v c hc];exact h1 _⟩;by_cases hk:k∈cs.map (·.1)
 ·obtain⟨c,hc,rfl⟩:=ath.1 hk;rw[<-h.v c hc];exact h1 c hc
 ·rw[h.k k hk];omega
section
variable{K:List (List IV->Prop)}{x0 x1 x2 x3 x4 x5 x6 x7 x8 x9 eD jv jg lz lL rQ qn rR Ag Fp E_ RX Nb Na M_:IV}{Q':IV->Prop}
theorem anV(ks:List Int)(cs ds:List (Int×Int)){g:Int->Int}(hg:fY cs g){k0 k1 k2 k3:List IV->Prop}:Sd.sat asK CC (·=iB (decide (∀k∈ks,g k=1)&&decide (∀c∈ds,c.2<=1))) [k0,k1,k2,k3] [x0,x1,x2,x3,x4,x5,x6,x7,x8,x9,eD,iM ks,jg,pK cs,pK ds]:=by
 have hf:∀k:Int,(SE.ok (.rw (.get 3 (.var 1) (.var 0) (.k .i64 0)))).den asK [iI k,pK cs]=aa (iI (g k)):=by
  intro k;rcases XY hg k with⟨i,g1,g2⟩|⟨g1,_,g0⟩
  ·simp[SE.den,g1,g2,ow,aA]
  ·simp[SE.den,g1,aA,g0]
 simp[SE.den]at hf;simp only[iI]at hf;by_cases bg:∀k∈ks,g k=1
 ·rw[decide_eq_true bg,Bool.true_and];refine xC (λ(a:List IV×List IV)=>[.az (iM ks::.az a.1::a.2)]) (λa=>∀y∈a.1,∃k∈ks,y=na k) (λa=>a.1.length) (ks.map na,[]) ?_ ?_ λa hI=>?_
  ·simp[SE.den,iY]
  ·intro y hy;obtain⟨c,hc,rfl⟩:=ath.1 hy;exact⟨c,hc,rfl⟩
  obtain⟨rem,r⟩:=a;refine⟨_,rem,rfl,⟨r,rfl⟩,λhe=>?_,λi y hy=>?_⟩
  ·refine⟨⟨.int ds.length,by simp[SE.den,mA]⟩,_,rfl,anr ds⟩
  ·obtain⟨k,hk,rfl⟩:=hI y (asZ hy);have hle:=bg k hk;have TQ:=hf k;rw[hle]at TQ;refine⟨_,_,rfl,rfl,?_⟩;simp[SE.den,na,aA,aj];refine⟨_,TQ,?_⟩;simp;exact .mk (rem.eraseIdx i,[.az [iI k,.agg []]]) (by simp) (λy hy=>hI y (avE hy)) (Kb hy)
 ·rw[decide_eq_false bg,Bool.false_and];simp only[awe]at bg;obtain⟨b,hb,hbf⟩:=bg;refine xC (λ(a:List IV×List IV)=>[.az (iM ks::.az a.1::a.2)]) (λa=>(∀y∈a.1,∃k∈ks,y=na k)/\na b∈a.1) (λa=>a.1.length) (ks.map na,[]) ?_ ?_ λa hI=>?_
  ·simp[SE.den,iY]
  ·refine⟨λy hy=>?_,ath.2 ⟨b,hb,rfl⟩⟩;obtain⟨c,hc,rfl⟩:=ath.1 hy;exact⟨c,hc,rfl⟩
  obtain⟨rem,r⟩:=a;obtain⟨hI,qS⟩:=hI;refine⟨_,rem,rfl,⟨r,rfl⟩,λhe=>?_,λi y hy=>?_⟩
  ·simp only at qS;rw[he]at qS;simp at qS
  ·obtain⟨k,hk,rfl⟩:=hI y (asZ hy);have TQ:=hf k;refine⟨_,_,rfl,rfl,?_⟩;simp[SE.den,na,aA,aj];refine⟨_,TQ,?_⟩;simp;by_cases hle:g k=1
   ·right;refine⟨hle,.mk (rem.eraseIdx i,[.az [iI k,.agg []]]) (by simp) ⟨λy hy=>hI y (avE hy),aaY hy qS λhe=>?_⟩ (Kb hy)⟩;simp[na]at he;subst he;exact hbf hle
   ·left;exact hle
variable{k0 k1 k2 k3 k4 k5:List IV->Prop}
theorem anW(i:Nat)(hi:i<1000)(ks:List Int)(n:Int){a b c:IV}(hk:∀q,(∀v,v∈q↔v∈ks\/v=n)->k2 [iI (i+1:Nat),iM q]):RY.sat asK CC Q' [k0,k1,k2] [x0,x1,x2,x3,x4,x5,x6,x7,x8,x9,iI i,iM ks,.agg [iI n,a,b,c]]:=by
 have gx:=aD hi (by omega);have iP:dy 1 (.tree 1 [iI n]) (iI 0)=aa (iI n):=dN (l:=[n]) (i:=0) (by simp);refine aw 1 (λj (q:List Int)=>[iI j,iM q]) (λj q=>∀v,v∈q↔v∈ks\/(j=1/\v=n)) ks ?_ (by simp) λj q hj hI=>?_
 ·simp[SE.den]
 by_cases ai:j<1
 ·have h0:j=0:=by omega
  subst h0;have sF:=Gw (ν:=[iM q,iI n]) (m:=.var 0) (key:=.var 1) (ks:=q) (k:=n) rfl rfl;simp[SE.den]at sF;simp only[iI]at sF;simp[SE.den,aj,cellsOf,iP];refine⟨_,sF,?_⟩;have Qv:as7.wrap 1=1:=cQ (by omega) (by omega);simp[Qv];refine .mk _ rfl (by omega) λv=>?_;rw[FD,hI];simp
 ·have h1:j=1:=by omega
  subst h1;simp[SE.den,aj,cellsOf,gx];exact hk q λv=>by rw[hI];simp
theorem Vo(l:List Int)(g:Int->Int){j:Nat}(h:j<l.length):∀x,g x+((l.take (j+1)).count x:Nat)=if x=l[j]then(g l[j]+((l.take j).count l[j]:Nat))+1 else g x+((l.take j).count x:Nat):=λx=>by
 have:=Iw h x;rw[this];by_cases z:x=l[j]
 ·subst z;simp;omega
 ·rw[if_neg z,if_neg λe=>z e.symm];simp
theorem anX(x:Ap)(hx:J0 x)(i:Nat)(hi:i<1000)(cs ds:List (Int×Int)){g:Int->Int}(hg:fY ds g)(hb:∀k,0<=g k/\g k<=100000)(hk:∀q:List (Int×Int),fY q (λk=>g k+(x.made.count k:Nat))->k3 [iI (i+1:Nat),pK cs,pK q]):
 R_.sat asK CC Q' [k0,k1,k2,k3,k4] [x0,x1,x2,x3,x4,x5,x6,x7,x8,x9,eD,jv,iI i,lz,pK ds,aX x,qn,rR,pK cs]:=by
 have Vl:=hx.m;have gx:=aD hi (by omega);refine aw x.made.length (λj (q:List (Int×Int))=>[iI j,pK q]) (λj q=>fY q λk=>g k+((x.made.take j).count k:Nat)) ds ?_ (by simpa using hg) λj q hj hI=>?_
 ·simp[SE.den]
 by_cases ai:j<x.made.length
 ·have hw:=aD ai (by omega);have zp:=Vo x.made g ai;have ek:=auR (a:=x.made[j]) (l:=x.made.take j);rw[at5]at ek;have yN:=hb x.made[j];have Km:as7.wrap ((g x.made[j]+((x.made.take j).count x.made[j]:Nat))+1)=(g x.made[j]+((x.made.take j).count x.made[j]:Nat))+1:=cQ (by omega) (by omega);have bj:=zp x.made[j];rw[if_pos rfl]at bj;simp[SE.den,ai,hw,dN ai,aj];rcases XY hI x.made[j]with⟨p,g1,g2⟩|⟨g1,g2,g3⟩
  ·have sC:=hI.set g2 zp
   try simp only[iI]at g1
   try simp only at g2 sC
   rw[bj]at sC;generalize g x.made[j]+((x.made.take j).count x.made[j]:Nat)=cc at*
   simp[g1,g2,ow,aA];exact .mk (q.set p (x.made[j],cc+1)) (by simp[awQ,ow,Km]) (by omega) sC
  ·have Dh:=hI.add g2 zp
   try simp only[iI]at g1
   try simp only at g3 Dh
   rw[bj,g3]at Dh;rw[g3]at Km;simp[g1,aA];exact .mk (q++[(x.made[j],0+1)]) (by simp[ow,Km];exact Km) (by omega) Dh
 ·rw[as0 (by omega)]at hI;simp[SE.den,ai,gx];exact hk q hI
theorem anY(x:Ap)(hx:J0 x)(i:Nat)(hi:i<1000)(cs ds:List (Int×Int)){g g':Int->Int}(hg:fY cs g)(hb:∀k,0<=g k/\g k<=100000)(E4:fY ds g')(sJ:∀k,0<=g' k/\g' k<=100000)(hk:∀p q:List (Int×Int),fY p (λk=>g k+(x.gone.count k:Nat))->fY q (λk=>g' k+(x.made.count k:Nat))->k3 [iI (i+1:Nat),pK p,pK q]):
 Sa.sat asK CC Q' [k0,k1,k2,k3] [x0,x1,x2,x3,x4,x5,x6,x7,x8,x9,eD,jv,iI i,pK cs,pK ds,aX x,qn]:=by
 have Vl:=hx.g;refine aw x.gone.length (λj (q:List (Int×Int))=>[iI j,pK q]) (λj q=>fY q λk=>g k+((x.gone.take j).count k:Nat)) cs ?_ (by simpa using hg) λj q hj hI=>?_
 ·simp[SE.den]
 by_cases ai:j<x.gone.length
 ·have hw:=aD ai (by omega);have zp:=Vo x.gone g ai;have ek:=auR (a:=x.gone[j]) (l:=x.gone.take j);rw[at5]at ek;have yN:=hb x.gone[j];have Km:as7.wrap ((g x.gone[j]+((x.gone.take j).count x.gone[j]:Nat))+1)=(g x.gone[j]+((x.gone.take j).count x.gone[j]:Nat))+1:=cQ (by omega) (by omega);have bj:=zp x.gone[j];rw[if_pos rfl]at bj;simp[SE.den,ai,hw,dN ai,aj];rcases XY hI x.gone[j]with⟨p,g1,g2⟩|⟨g1,g2,g3⟩
  ·have sC:=hI.set g2 zp
   try simp only[iI]at g1
   try simp only at g2 sC
   rw[bj]at sC;generalize g x.gone[j]+((x.gone.take j).count x.gone[j]:Nat)=cc at*
   simp[g1,g2,ow,aA];exact .mk (q.set p (x.gone[j],cc+1)) (by simp[awQ,ow,Km]) (by omega) sC
  ·have Dh:=hI.add g2 zp
   try simp only[iI]at g1
   try simp only at g3 Dh
   rw[bj,g3]at Dh;rw[g3]at Km;simp[g1,aA];exact .mk (q++[(x.gone[j],0+1)]) (by simp[ow,Km];exact Km) (by omega) Dh
 ·rw[as0 (by omega)]at hI;simp[SE.den,ai];exact anX x hx i hi q ds E4 sJ (λq' h=>hk q q' hI h)
end
end Go.Proofs.YtggffkaadeagbaaGreat
namespace Go.Proofs.YtggffkaadeagbaaGreat
open Go Go.Ev
theorem XZ(a b:List Int)(hl:Sm a):CC 78 ab [iL a,iL b] (iB (a==b)):=by
 refine CC.gV am6 n78 t78 (by simp) (by rfl) ?_;generalize hS:(a==b)=S;simp[aaQ,SE.den];by_cases bS:a.length=b.length
 ·right;simp[bS];unfold Rw;refine aw a.length (λi (_:Unit)=>[iI i]) (λi _=>a.take i=b.take i) () ?_ (by simp) λi _ hi hI=>?_
  ·simp[SE.den]
  by_cases ai:i<a.length
  ·have wR:i<b.length:=by omega
   have hw:=aD ai hl;simp[SE.den,ai,hw,dN ai,dN wR,aA];by_cases h:a[i]=b[i]
   ·right;exact⟨h,.mk () rfl (by omega) (by rw[asX ai,asX wR,hI,h])⟩
   ·left;refine⟨h,?_⟩;subst S;simp;exactλe=>h (by subst e;rfl)
  ·rw[as0 (by omega),as0 (by omega)]at hI;simp[SE.den,ai,aA];subst S;simp[hI]
 ·left;refine⟨by omega,?_⟩;simp[aA];subst S;simp;exactλe=>bS (by rw[e])
structure Lk(m:Me)(fs:List Fa):Prop where
 s:∀f∈fs,cR m f.id=aa f
 n:∀k,(∀f∈fs,f.id≠k)->cR m k=ah
section
variable{x0 x1 x2 x3 x4 x5 x6 x7 x8 x9 eD jv jg lz lL rQ qn rR Ag Fp E_ RX Nb Na M_:IV}{Q':IV->Prop}{k0 k1 k2 k3 k4 k5:List IV->Prop}{O:Prop}{m:Me}{fs:List Fa}
theorem anZ(hL:Lk m fs)(yG:∀f∈fs,Sm f.j)(x:Ap)(hm:Sm x.made)(hR:EM m x↔O)(hk:∀b,(b=ab↔O)->k4 [iB b]):RZ.sat asK CC Q' [k0,k1,k2,k3,k4,k5] [x0,x1,x2,x3,x4,x5,x6,x7,x8,DN fs,eD,jv,jg,lz,lL,aX x,qn,rR,Ag,Fp,E_,RX,Nb,Na,M_]:=by
 refine aw x.made.length (λj (_:Unit)=>[iI j]) (λj _=>∀n∈x.made.take j,∃f,cR m n=aa f/\f.j=x.fA) () ?_ (by simp) λj q hj hI=>?_
 ·simp[SE.den]
 by_cases ai:j<x.made.length
 ·have hw:=aD ai hm;have gh:=asO ai;have cw:=λa=>aC (p:=λn=>∃f,cR m n=aa f/\f.j=x.fA) ai hI a;have bC:¬O->k4 [iB af]:=λh=>hk af ⟨λh'=>(by cases h'),λh'=>absurd h' h⟩;simp[SE.den,ai,hw,dN ai,aj];rcases Kl fs x.made[j]with⟨q,f,hf,g1,g2,g3⟩|⟨g1,g2⟩
  ·have h78:=XZ f.j x.fA (yG f hf);have he:=hL.s f hf;rw[g3]at he;simp only[iI]at g1;simp[g1,g2,AE,ef,aj];refine⟨_,h78,?_⟩;cases hb:(f.j==x.fA)<;>simp
   ·exact bC λo=>by obtain⟨g,h,h'⟩:=hR.2 o _ gh;rw[he]at h;cases h;simp[h']at hb
   ·exact .mk () rfl (by omega) (cw ⟨f,he,by simpa using hb⟩)
  ·have he:=hL.n _ g2;simp only[iI]at g1;simp[g1,aj];exact bC λo=>by obtain⟨g,h,h'⟩:=hR.2 o _ gh;rw[he]at h;cases h
 ·simp[SE.den,ai];exact hk ab ⟨λ_=>hR.1 (aK ai hI),λ_=>rfl⟩
theorem an0(hL:Lk m fs)(yG:∀f∈fs,Sm f.j)(x:Ap)(hm:Sm x.made)(hR:EM m x↔O)(hk:∀b,(b=ab↔O)->k4 [iB b]):R0.sat asK CC Q' [k0,k1,k2,k3,k4,k5] [x0,x1,x2,x3,x4,x5,x6,x7,x8,DN fs,eD,jv,jg,lz,lL,aX x,qn,rR,Ag,Fp,E_,RX,Nb,Na,M_]:=by
 refine aw x.made.length (λj (_:Unit)=>[iI j]) (λj _=>∀n∈x.made.take j,∃f,cR m n=aa f/\f.j=x.fA) () ?_ (by simp) λj q hj hI=>?_
 ·simp[SE.den]
 by_cases ai:j<x.made.length
 ·have hw:=aD ai hm;have gh:=asO ai;have cw:=λa=>aC (p:=λn=>∃f,cR m n=aa f/\f.j=x.fA) ai hI a;have bC:¬O->k4 [iB af]:=λh=>hk af ⟨λh'=>(by cases h'),λh'=>absurd h' h⟩;simp[SE.den,ai,hw,dN ai,aj];rcases Kl fs x.made[j]with⟨q,f,hf,g1,g2,g3⟩|⟨g1,g2⟩
  ·have h78:=XZ f.j x.fA (yG f hf);have he:=hL.s f hf;rw[g3]at he;simp only[iI]at g1;simp[g1,g2,AE,ef,aj];refine⟨_,h78,?_⟩;cases hb:(f.j==x.fA)<;>simp
   ·exact bC λo=>by obtain⟨g,h,h'⟩:=hR.2 o _ gh;rw[he]at h;cases h;simp[h']at hb
   ·exact .mk () rfl (by omega) (cw ⟨f,he,by simpa using hb⟩)
  ·have he:=hL.n _ g2;simp only[iI]at g1;simp[g1,aj];exact bC λo=>by obtain⟨g,h,h'⟩:=hR.2 o _ gh;rw[he]at h;cases h
 ·simp[SE.den,ai];exact hk ab ⟨λ_=>hR.1 (aK ai hI),λ_=>rfl⟩
theorem SC{l:List Fa}{n:Int}:(∃f,findF l n=aa f)↔∃f∈l,f.id=n:=by
 refine⟨λ⟨f,h⟩=>⟨f,nQ h,?_⟩,λ⟨f,h1,h2⟩=>?_⟩
 ·have:=List.find?_some h;simpa using this
 ·cases he:findF l n with
  |some g=>exact⟨g,rfl⟩
  |none=>exact absurd h2 (J1 he f h1)
def SD(m:Me)(x:Ap)(r:Rl):Prop:=x.gone=x.bA.drop r.keep.length/\(x.failed=ab->x.made=[])/\x.made.length<=12/\Sz m x
theorem an1(hL:Lk m fs)(yG:∀f∈fs,Gd f)(x:Ap)(hx:J0 x)(r:Rl)(hl:x.bA.length=r.keep.length+r.remove.length)(hp:0<x.bA.length)(pH:x.bA.Nodup)(ks:List Int)(ey:∀v,v∈ks↔∃f∈m.past,f.id=v)(hk:∀b,(b=ab↔SD m x r)->k4 [iB b]):
 R4.sat asK CC Q' [k0,k1,k2,k3,k4] [x0,x1,x2,x3,x4,x5,x6,x7,x8,DN fs,eD,iM ks,jg,lz,lL,aX x,aR r,rR]:=by
 have hxh:=hx.h;have hxg:=hx.g;have Vl:=hx.m;have hxj:=hx.j;have bC:¬SD m x r->k4 [iB af]:=λh=>hk af ⟨λh'=>(by cases h'),λh'=>absurd h' h⟩;refine aw x.bA.length (λj (q:List Fa)=>[iI j,gL q]) (λj q=>(q.length=j/\∀f∈q,Gd f)/\q=(x.bA.take j).filterMap (cR m)/\∀n∈x.bA.take j,∃f,cR m n=aa f) [] ?_ (by simp) λj q hj hq=>?_
 ·simp[SE.den]
 obtain⟨⟨hql,hqf⟩,iU,SA⟩:=hq;by_cases ai:j<x.bA.length
 ·have hw:=aD ai (by omega);have gh:=asO ai;have cw:=λa=>aC (p:=λn=>∃f,cR m n=aa f) ai SA a
  have hfm:∀f,cR m x.bA[j]=aa f->(x.bA.take (j+1)).filterMap (cR m)=q++[f]:=λf he=>by
   rw[asX ai,aw0,<-iU];simp[he]
  simp[SE.den,ai,hw,dN ai,aj];rcases Kl fs x.bA[j]with⟨p,f,hf,g1,g2,g3⟩|⟨g1,g2⟩
  ·have hc:=JU (a:=q) f (by omega);have he:=hL.s f hf;rw[g3]at he;simp only[iI]at g1
   try simp only[ef]at hc
   simp[g1,g2,AE,ef,aj,cellsOf,hc];refine .mk (q++[f]) rfl (by omega) ⟨⟨by simp;omega,λg hg=>?_⟩,(hfm f he).symm,cw ⟨f,he⟩⟩;rcases as8.1 hg with hg|hg
   ·exact hqf g hg
   ·simp at hg;subst hg;exact yG g hf
  ·have he:=hL.n _ g2;simp only[iI]at g1;simp[g1,aj];exact bC λo=>by obtain⟨f,h⟩:=o.2.2.2.hd _ gh;rw[he]at h;cases h
 ·rw[as0 (by omega)]at iU SA;have fz:=aay (L:=x.bA) (k:=r.keep.length) (by omega);have h1:=XZ x.gone (x.bA.drop r.keep.length) (by unfold Sm;omega);obtain⟨t2,ht2,h2⟩:=XV ab ks x.gone (by unfold Sm;omega)
  have h3:=anq ab q (by omega) (by
   have:=Db (f:=Fa.j) (l:=q) λa ha=>(hqf a ha).2;have:q.length*20<=8*20:=Nat.mul_le_mul_right _ (by omega)
   omega) (by
    intro he;cases q with
    |nil=>simp at hql;omega
    |cons f q=>
     simp only[List.map_cons,List.flatten_cons,List.append_eq_nil_iff]at he;exact(hqf f (by simp)).1 he.1)
  have an2:(∀v∈x.gone,v∈ks)↔∀n∈x.gone,∃f,findF m.past n=aa f:=by
   simp only[ey,SC]
  rw[an2]at ht2
  have hC:SD m x r↔(x.gone=x.bA.drop r.keep.length/\(∀n∈x.gone,∃f,findF m.past n=aa f)/\x.fA=eW (q.map Fa.j)/\(x.failed=ab->x.made=[])/\x.made.length<=12/\EM m x):=by
   rw[iU];exact⟨λ⟨a,b,c,d⟩=>⟨a,d.g,d.j,b,c,d.m⟩,λ⟨a,b,c,d,e,f⟩=>⟨a,d,e,pH,SA,c,b,f⟩⟩
  generalize eW (q.map Fa.j)=u at h3 hC;generalize SD m x r=O at hk bC hC;have h4:=XZ x.fA u (by unfold Sm;omega);generalize hdk:x.bA.drop r.keep.length=dk at*
  have hC:=hC.symm;simp only[iL,iI]at fz;simp only[iL]at h1 fz;simp[SE.den,ai,aj,fz];refine⟨_,h1,?_⟩;cases b1:(x.gone==dk)<;>simp
  ·exact bC (cE hC λe=>by simp[e]at b1)
  have hC:=cD hC (by simpa using b1);refine⟨_,h2,?_⟩;cases t2<;>simp
  ·exact bC (cE hC λe=>by have:=ht2.2 e;cases this)
  have hC:=cD hC (ht2.1 rfl);refine⟨_,h3,_,h4,?_⟩;cases b3:(x.fA==u)<;>simp
  ·exact bC (cE hC λe=>by simp[e]at b3)
  have hC:=cD hC (by simpa using b3);have tc:∀f∈fs,Sm f.j:=λf hf=>by have:=(yG f hf).2;unfold Sm;omega
  by_cases s6:x.failed=ab
  ·left;refine⟨s6,?_⟩;by_cases y1:0<x.made.length
   ·left;exact⟨y1,bC (cE hC λe=>by simp[e s6]at y1)⟩
   have nD:x.made=[]:=List.eq_nil_of_length_eq_zero (by omega);right;refine⟨nD,?_⟩;have hC:=cD (cD hC λ_=>nD) (by omega);right;exact⟨by omega,anZ hL tc x (by unfold Sm;omega) hC hk⟩
  ·right;refine⟨by simpa using s6,?_⟩;have hC:=cD hC λh=>absurd h s6;by_cases y1:12<x.made.length
   ·left;exact⟨by omega,bC (cE hC (by omega))⟩
   ·right;exact⟨by omega,an0 hL tc x (by unfold Sm;omega) (cD hC (by omega)) hk⟩
theorem SG{l:List Int}:(RA l).length=l.length↔l.Nodup:=by
 have key:∀n,n<=l.length->((l.take n).foldl uL []).length<=n/\(((l.take n).foldl uL []).length=n↔(l.take n).Nodup):=λn=>by
  induction n with
  |zero=>simp
  |succ n ih=>
   intro hn;obtain⟨h1,h2⟩:=ih (by omega);have ai:n<l.length:=by omega
   have jk:∀x,x∈(l.take n).foldl uL []↔x∈l.take n:=λx=>by
    show x∈cS [] (l.take n)↔_;rw[oz];simp
   rw[asX ai,List.foldl_append];generalize(l.take n).foldl uL []=q at*
   show(uL q l[n]).length<=_/\((uL q l[n]).length=_↔_);unfold uL;by_cases hm:l[n]∈q
   ·rw[if_pos hm];refine⟨by omega,λe=>by omega,λpH=>?_⟩;rw[au_]at pH;exact absurd rfl (pH.2.2 _ ((jk _).1 hm) l[n] (by simp))
   ·rw[if_neg hm];refine⟨by simp;omega,λe=>?_,λpH=>?_⟩
    ·simp at e;exact Kk (h2.1 e) λh=>hm ((jk _).2 h)
    ·rw[au_]at pH;simp;exact h2.2 pH.1
 have:=(key l.length (asR _)).2;rw[List.take_length]at this;exact this
theorem an3(p:Pg)(GZ:p.rules.length<=8)(hr:∀r∈p.rules,r.keep.length+r.remove.length<=3/\0<r.keep.length+r.remove.length)(hL:Lk m fs)(yG:∀f∈fs,Gd f)(x:Ap)(hx:J0 x)(ks:List Int)(ey:∀v,v∈ks↔∃f∈m.past,f.id=v)(i:Nat)(hi:i<1000)(cs ds:List (Int×Int)){g g':Int->Int}(hg:fY cs g)(hb:∀k,0<=g k/\g k<=100000)(E4:fY ds g')(sJ:∀k,0<=g' k/\g' k<=100000)
 (hk:gN p m x->∀p q:List (Int×Int),fY p (λk=>g k+(x.gone.count k:Nat))->fY q (λk=>g' k+(x.made.count k:Nat))->k3 [iI (i+1:Nat),pK p,pK q])(hQ:¬gN p m x->Q' (iB af)):
 Sb.sat asK CC Q' [k0,k1,k2,k3] [aP p.decls p.rules,x1,x2,x3,x4,x5,x6,x7,x8,DN fs,eD,iM ks,iI i,pK cs,pK ds,aX x]:=by
 have hxh:=hx.h;refine ot (λvs=>∃b:Bool,vs=[iB b]/\(b=ab↔gN p m x)) ?_ ?_
 ·have bC:¬gN p m x->Ly (λvs=>vs=[iB af]/\¬gN p m x\/vs=[iB ab]/\gN p m x) [IV.raw (Value.bool af)]:=λh=>.inl ⟨rfl,h⟩;have Aj:gN p m x↔gN p m x:=Iff.rfl
  conv at Aj=>lhs;unfold gN
  generalize gN p m x=O at bC Aj⊢;obtain⟨ds0,rs⟩:=p;simp only at Aj hr GZ⊢;simp[SE.den,aj];by_cases y1:x.rule<0
  ·left;exact⟨y1,bC λo=>by obtain⟨k,h,e,_⟩:=Aj.2 o;omega⟩
  right;refine⟨by omega,?_⟩;by_cases y2:(rs.length:Int)<=x.rule
  ·left;exact⟨y2,bC λo=>by obtain⟨k,h,e,_⟩:=Aj.2 o;omega⟩
  right;refine⟨by omega,?_⟩;obtain⟨n,hn⟩:∃n:Nat,x.rule=n:=⟨x.rule.toNat,by omega⟩;have ai:n<rs.length:=by omega
  have hC:(x.bA.length=rs[n].keep.length+rs[n].remove.length/\SD m x rs[n])↔O:=by
   rw[<-Aj];refine⟨λh=>⟨n,ai,hn,h⟩,λ⟨k',h',e,h⟩=>?_⟩;have:k'=n:=by omega
   subst this;exact h
  clear Aj;have tv:=Ig ai;obtain⟨r1,r2⟩:=hr _ (asO ai);generalize hrn:rs[n]=r at*
  have hw:as7.wrap ((r.keep.length:Int)+r.remove.length)=r.keep.length+r.remove.length:=cQ (by omega) (by omega);simp only[iI]at tv;rw[<-hn]at tv;refine⟨_,tv,?_⟩;simp[aj,hw];by_cases y3:x.bA.length=r.keep.length+r.remove.length
  rotate_left
  ·left;exact⟨by omega,bC (cE hC y3)⟩
  have hC:=cD hC y3;right;refine⟨by omega,_,anj ab x.bA (by unfold Sm;omega),?_⟩;simp[mA];by_cases y4:((RA x.bA).length:Int)=x.bA.length
  rotate_left
  ·left;exact⟨y4,bC λo=>y4 (by have:=SG.2 (hC.2 o).2.2.2.nd;omega)⟩
  right;refine⟨y4,?_⟩;refine an1 hL yG x hx r y3 (by omega) (SG.1 (by omega)) ks ey λb hb=>?_;rw[hC]at hb;cases b
  ·exact .inl ⟨rfl,λo=>by have:=hb.2 o;cases this⟩
  ·exact .inr ⟨rfl,hb.1 rfl⟩
 ·rintro vs ⟨b,rfl,cN⟩;refine⟨rfl,?_⟩;cases b<;>simp[SE.den,aj]
  ·exact hQ λo=>by have:=cN.2 o;cases this
  ·exact anY x hx i hi cs ds hg hb E4 sJ (hk (cN.1 rfl))
end
end Go.Proofs.YtggffkaadeagbaaGreat
