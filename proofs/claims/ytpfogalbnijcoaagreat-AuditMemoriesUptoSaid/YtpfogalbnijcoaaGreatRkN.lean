/- A part of the proof, no condition: the entries of a log are right. -/
import Derived.Test.YtpfogalbnijcoaaGreatRkJ
import Derived.Test.YtpfogalbnijcoaaGreatRiP
open List renaming pairwise_iff_getElem->aue,getElem_mem->ar5,length_pos_iff->atQ,take_of_length_le->asf,take_succ_eq_append_getElem->ase,count_append->awG,count_le_length->at5,mem_map->asv,length_take->atz,nodup_append->auq,filterMap_append->awf,mem_append->asn,mem_append_left->asN,mem_append_right->asM,getElem?_map->asi,map_map->auP,mem_of_getElem?->ash,map_set->av6,getElem_set->awO,map_append->au8,mem_of_mem_eraseIdx->auX
open Nat renaming le_refl->ar8
open Int renaming natCast_zero->awW
open Go.IntKind renaming i64->asC
open Go.Proofs.Tryz renaming prog->ar1
open Option renaming map_eq_some_iff->ar9
open Prod renaming fst->auQ
open Classical renaming not_forall->axL
open Option renaming some->aa,none->ah
open Bool renaming true->ab,false->af
set_option linter.all false
namespace Go.Proofs.YtpfogalbnijcoaaGreat
open Go Go.Ev
structure pc(ds:List De)(given:Int)(f:Fa):Prop where
 a:dy f.a=ab
 v:varsOf f.a.ts=[]
 d:bB ds f.a.s f.a.ts.length=ab
 n:f.j≠[]
 j:JOk f.j
 g:∀j∈f.j,j<=given
structure ik(ds:List De)(next given:Int)(l:List Fa):Prop where
 i:∀f∈l,1<=f.id/\f.id<next
 f:∀f∈l,pc ds given f
 s:l_ l
theorem aak{l:List Fa}{i:Nat}(h:i<l.length)(h0:0<i)(hk:l[i].id<=l[i- 1].id):¬l_ l:=λha=>by
 have:=aue.1 ha (i- 1) i (by omega) h (by omega);omega
theorem v39(p:Pg)(hd:Sm p.decls)(m:Me)(l:List Fa)(hl:Sm l)(hn:∀f∈l,yO f)(hz:∀f∈l,cu f.a.ts<=1000000000000):∃b,(b=ab↔ik p.decls m.next m.given l)/\CC 34 af [eI p,fF m,iv l] (iB b):=by
 refine CC.qq _ apt n39 t39 (by intro x hx;simp at hx;rcases hx with rfl|rfl|rfl;exact eJ p;exact lS m;exact Qd l) (by rfl) ?_;have Dm:=λm':ik p.decls m.next m.given l=>m'.i;have Dn:=λm':ik p.decls m.next m.given l=>m'.f;have JO:=λm':ik p.decls m.next m.given l=>m'.s;have hO:=λa b c=>(⟨a,b,c⟩:ik p.decls m.next m.given l);generalize ik p.decls m.next m.given l=O at Dm Dn JO hO⊢;obtain⟨ds,rs⟩:=p;simp only at*
 show WO.sat _ _ _ _ [.agg [eo ds,nj rs],.agg [iv m.facts,iv m.past,mu m.log,iI m.next,iI m.given],iv l];simp[WO,SE.den,aj];unfold TV;refine aw l.length (λi (_:Unit)=>[iI i]) (λi _=>l_ (l.take i)/\(∀f∈l.take i,1<=f.id/\f.id<m.next)/\∀f∈l.take i,pc ds m.given f) () ?_ (by simp[l_]) λi _ hi hI=>?_
 ·simp[SE.den]
 obtain⟨oj,iw,rj⟩:=hI;by_cases ai:i<l.length
 ·have hw:=aD ai hl;have iV:=ar5 ai;have vX:=hn _ iV;have h49:=v49 l[i].a vX.1.1 (vX.1.b (hz _ iV));have h50:dy l[i].a=ab->CC 62 af [.agg [iS l[i].a.s,iT l[i].a.ts]] (iL (varsOf l[i].a.ts)):=λhf=>v50 l[i].a vX.1.2.1 λt ht=>⟨(vX.1.2.2 t ht).wf,nS hf t ht⟩;have h51:=v51 ds l[i].a.s l[i].a.ts.length hd;obtain⟨b99,Xh,h99⟩:=v99 l[i].j vX.2;have aZ:=λo=>Dn o _ iV;have Lt:=λo=>Dm o _ iV;simp[SE.den,ai,hw,yL ai,aj];by_cases y1:l[i].id<1
  ·left;exact⟨y1,λo=>by have:=Lt o;omega⟩
  right;refine⟨by omega,?_⟩;by_cases y2:m.next<=l[i].id
  ·left;exact⟨y2,λo=>by have:=Lt o;omega⟩
  right;refine⟨by omega,?_⟩;by_cases y3:0<i
  ·left;refine⟨y3,?_⟩;have hm:=CO y3 (Nat.le_of_lt ai) hl;have fX:i- 1<l.length:=by omega
   have hx:=yL fX;simp only[iv]at hx;simp[hm,hx,aj];by_cases y4:l[i].id<=l[i- 1].id
   ·left;exact⟨y4,λo=>aak ai y3 y4 (JO o)⟩
   right;refine⟨by omega,?_⟩;have jB:0<i->∀h':i- 1<l.length,l[i- 1].id<l[i].id:=λ_ _=>by omega
   refine⟨_,h49,?_⟩;cases RT:dy l[i].a<;>simp
   ·exactλo=>by have:=(aZ o).a;simp[RT]at this
   refine⟨_,h50 RT,?_⟩;simp;by_cases z1:varsOf l[i].a.ts=[]
   rotate_left
   ·left;exact⟨atQ.2 z1,λo=>z1 (aZ o).v⟩
   right;refine⟨z1,_,h51,?_⟩;cases b51:bB ds l[i].a.s l[i].a.ts.length<;>simp
   ·exactλo=>by have:=(aZ o).d;simp[b51]at this
   by_cases z2:l[i].j=[]
   ·left;exact⟨z2,λo=>(aZ o).n z2⟩
   right;refine⟨z2,_,h99,?_⟩;cases b99<;>simp
   ·exactλo=>by have:=Xh.2 (aZ o).j;cases this
   have hj:=Xh.1 rfl;have hp:0<l[i].j.length:=atQ.2 z2;have j0:dD 1 (iL l[i].j) (iI 0)=aa (iI l[i].j[0]):=dI (l:=l[i].j) (i:=0) hp;have j1:=dI (l:=l[i].j) (i:=l[i].j.length- 1) (by omega);have jw:=CO hp (ar8 _) vX.2;have YC:=hj.1 _ (ar5 (l:=l[i].j) (n:=0) hp);simp only[iL,awW]at j0 j1;simp[j0,j1,jw];right;refine⟨by omega,?_⟩;by_cases z4:m.given<l[i].j[l[i].j.length- 1]
   ·left;exact⟨z4,λo=>by have:=(aZ o).g _ (ar5 (l:=l[i].j) (n:=l[i].j.length- 1) (by omega));omega⟩
   right;exact⟨by omega,.mk () rfl (by omega) ⟨HN ai oj jB,aB (p:=λf:Fa=>1<=f.id/\f.id<m.next) ai iw ⟨by omega,by omega⟩,aB ai rj ⟨RT,z1,b51,z2,hj,λj fO=>by have:=HM hj.2 (by omega) j fO;omega⟩⟩⟩
  ·right;refine⟨by omega,?_⟩;have jB:0<i->∀h':i- 1<l.length,l[i- 1].id<l[i].id:=λh=>absurd h y3;refine⟨_,h49,?_⟩;cases RT:dy l[i].a<;>simp
   ·exactλo=>by have:=(aZ o).a;simp[RT]at this
   refine⟨_,h50 RT,?_⟩;simp;by_cases z1:varsOf l[i].a.ts=[]
   rotate_left
   ·left;exact⟨atQ.2 z1,λo=>z1 (aZ o).v⟩
   right;refine⟨z1,_,h51,?_⟩;cases b51:bB ds l[i].a.s l[i].a.ts.length<;>simp
   ·exactλo=>by have:=(aZ o).d;simp[b51]at this
   by_cases z2:l[i].j=[]
   ·left;exact⟨z2,λo=>(aZ o).n z2⟩
   right;refine⟨z2,_,h99,?_⟩;cases b99<;>simp
   ·exactλo=>by have:=Xh.2 (aZ o).j;cases this
   have hj:=Xh.1 rfl;have hp:0<l[i].j.length:=atQ.2 z2;have j0:dD 1 (iL l[i].j) (iI 0)=aa (iI l[i].j[0]):=dI (l:=l[i].j) (i:=0) hp;have j1:=dI (l:=l[i].j) (i:=l[i].j.length- 1) (by omega);have jw:=CO hp (ar8 _) vX.2;have YC:=hj.1 _ (ar5 (l:=l[i].j) (n:=0) hp);simp only[iL,awW]at j0 j1;simp[j0,j1,jw];right;refine⟨by omega,?_⟩;by_cases z4:m.given<l[i].j[l[i].j.length- 1]
   ·left;exact⟨z4,λo=>by have:=(aZ o).g _ (ar5 (l:=l[i].j) (n:=l[i].j.length- 1) (by omega));omega⟩
   right;exact⟨by omega,.mk () rfl (by omega) ⟨HN ai oj jB,aB (p:=λf:Fa=>1<=f.id/\f.id<m.next) ai iw ⟨by omega,by omega⟩,aB ai rj ⟨RT,z1,b51,z2,hj,λj fO=>by have:=HM hj.2 (by omega) j fO;omega⟩⟩⟩
 ·rw[asf (by omega)]at oj iw rj;simp[SE.den,ai];exact hO iw rj oj
def fz(ls:List (List Int))(id:Int):Nat:=ls.flatten.count id
theorem Ad{ls:List (List Int)}{i:Nat}(h:i<ls.length)(id:Int):fz (ls.take (i+1)) id=fz (ls.take i) id+ls[i].count id:=by
 unfold fz;rw[ase h,List.flatten_append,awG];simp
theorem HZ{l:List Int}{i:Nat}(h:i<l.length)(id:Int):(l.take (i+1)).count id=(l.take i).count id+if l[i]=id then 1 else 0:=by
 rw[ase h,awG];congr 1;by_cases z:l[i]=id
 ·simp[z]
 ·rw[if_neg z,List.count_eq_zero];simpa using λh=>z h.symm
theorem Gf(ls:List (List Int))(id:Int)(hl:ls.length<=100)(h:∀l∈ls,l.length<=100):∀i,fz (ls.take i) id<=100*i
 |0=>by simp[fz]
 |i+1=>by
  have ih:=Gf ls id hl h i;by_cases ai:i<ls.length
  ·rw[Ad ai];have:=h _ (ar5 ai);have:=at5 (a:=id) (l:=ls[i]);omega
  ·rw[asf (by omega)]at ih⊢;omega
theorem v42(l:List Ap)(id:Int)(made:Bool)(hl:l.length<=100)(hx:∀x∈l,x.made.length<=100/\x.gone.length<=100):CC 37 af [mu l,iI id,iB made] (iI ((fz (l.map λx=>if made then x.made else x.gone) id:Nat):Int)):=by
 refine CC.acp apx n42 t42 (by simp) (by rfl) ?_;generalize hL:(l.map λx=>if made then x.made else x.gone)=L;have hLl:L.length=l.length:=by rw[<-hL];simp
 have hle:=Gf L id (by omega) λy hy=>by
  rw[<-hL]at hy;obtain⟨x,il,rfl⟩:=asv.1 hy;have:=hx x il;cases made<;>simp<;>omega
 simp[adp,T4,SE.den,aj];refine aw l.length (λi (a:Int)=>[iI i,iI a]) (λi a=>a=(fz (L.take i) id:Nat)) 0 ?_ (by simp[fz]) λi a hi hI=>?_
 ·simp[SE.den]
 by_cases ai:i<l.length
 ·have hw:=aD ai (by omega);obtain⟨w3,w2⟩:=hx _ (ar5 ai);have GX:=Ad (ls:=L) (i:=i) (by omega) id;have uU:L[i]'(by omega)=if made then l[i].made else l[i].gone:=by simp[<-hL]
  have hb:=hle i;rw[uU]at GX;simp[SE.den,ai,yK ai,aj];cases made with
  |true=>
   simp at GX⊢;unfold T2;refine aw l[i].made.length (λi (a:Int)=>[iI i,iI a]) (λj b=>b=a+((l[i].made.take j).count id:Nat)) a ?_ (by simp) λj b hj hJ=>?_
   ·simp[SE.den]
   by_cases dY:j<l[i].made.length
   ·have DM:=aD dY (by omega);have gy:=HZ dY id;have dV:=at5 (a:=id) (l:=l[i].made.take j);rw[atz]at dV;have hwb:asC.wrap (b+1)=b+1:=dQ (by omega) (by omega);simp[SE.den,dY,DM,dI dY];by_cases z:l[i].made[j]=id
    ·left;exact⟨z,.mk (b+1) (by rw[hwb];rfl) (by omega) (by rw[gy,if_pos z];omega)⟩
    ·right;exact⟨z,.mk b rfl (by omega) (by rw[gy,if_neg z];omega)⟩
   ·rw[asf (by omega)]at hJ;simp[SE.den,dY,hw];exact .mk b (by simp) (by omega) (by rw[GX];omega)
  |false=>
   simp at GX⊢;unfold T3;refine aw l[i].gone.length (λi (a:Int)=>[iI i,iI a]) (λj b=>b=a+((l[i].gone.take j).count id:Nat)) a ?_ (by simp) λj b hj hJ=>?_
   ·simp[SE.den]
   by_cases dY:j<l[i].gone.length
   ·have DM:=aD dY (by omega);have gy:=HZ dY id;have dV:=at5 (a:=id) (l:=l[i].gone.take j);rw[atz]at dV;have hwb:asC.wrap (b+1)=b+1:=dQ (by omega) (by omega);simp[SE.den,dY,DM,dI dY];by_cases z:l[i].gone[j]=id
    ·left;exact⟨z,.mk (b+1) (by rw[hwb];rfl) (by omega) (by rw[gy,if_pos z];omega)⟩
    ·right;exact⟨z,.mk b rfl (by omega) (by rw[gy,if_neg z];omega)⟩
   ·rw[asf (by omega)]at hJ;simp[SE.den,dY,hw];exact .mk b (by simp) (by omega) (by rw[GX];omega)
 ·rw[asf (by omega)]at hI;simp[SE.den,ai];exact hI
end Go.Proofs.YtpfogalbnijcoaaGreat
namespace Go.Proofs.YtpfogalbnijcoaaGreat
open Go Go.Ev
theorem aqn(a b:List Int)(hl:Sm a):CC 65 ab [iL a,iL b] (iB (a==b)):=by
 refine CC.gN alu n53 t53 (by simp) (by rfl) ?_;generalize hS:(a==b)=S;simp[ZD,SE.den,aj,aA];by_cases z:a.length=b.length
 rotate_left
 ·left;refine⟨by omega,?_⟩;subst S;simp;exactλe=>z (by rw[e])
 right;refine⟨by omega,?_⟩;unfold QL;refine aw a.length (λi (_:Unit)=>[iI i]) (λi _=>a.take i=b.take i) () ?_ (by simp) λi _ hi hI=>?_
 ·simp[SE.den]
 by_cases ai:i<a.length
 ·have hw:=aD ai hl;have dY:i<b.length:=by omega
  simp[SE.den,ai,hw,dI ai,dI dY,aA];by_cases z:a[i]=b[i]
  ·right;exact⟨z,.mk () rfl (by omega) (by rw[ase ai,ase dY,hI,z])⟩
  ·left;refine⟨z,?_⟩;subst S;simp;exactλe=>z (by subst e;rfl)
 ·rw[asf (by omega),asf (by omega)]at hI;simp[SE.den,ai,aA];subst S;simp[hI]
structure RU(m:Me)(x:Ap):Prop where
 nd:x.aW.Nodup
 hd:∀n∈x.aW,∃f,cN m n=aa f
 j:x.ff=eO ((x.aW.filterMap (cN m)).map Fa.j)
 g:∀n∈x.gone,∃f,findF m.past n=aa f
 m:∀n∈x.made,∃f,cN m n=aa f/\f.j=x.ff
theorem JT{l:List Int}{n:Int}(h:l.Nodup)(h1:n∉l):(l++[n]).Nodup:=by
 rw[auq];exact⟨h,by simp,λa ha b hb=>by simp at hb;subst hb;exactλe=>h1 (e▸ha)⟩
theorem acu{l:List Int}{i:Nat}(h:i<l.length)(hm:l[i]∈l.take i):¬l.Nodup:=λhn=>by
 have h0:(l.take i++l.drop i).Nodup:=by rw[List.take_append_drop];exact hn
 rw[auq,List.drop_eq_getElem_cons h]at h0;exact h0.2.2 _ hm _ List.mem_cons_self rfl
section
variable{k0 k1 k2:List IV->Prop}{O:Prop}
abbrev EM(m:Me)(x:Ap):Prop:=∀n∈x.made,∃f,cN m n=aa f/\f.j=x.ff
abbrev EG(m:Me)(x:Ap):Prop:=(∀n∈x.gone,∃f,findF m.past n=aa f)/\EM m x
theorem amO{x0 x3 x4 x5 x6 x7 x8 x9 ek:IV}(m:Me)(hm:yP m)(x:Ap)(hx:Jw x)(hR:EM m x↔O):
 TY.sat ar1 CC (nQ λb=>b=ab↔O) [k0,k1] [x0,fF m,kS x,x3,x4,x5,x6,x7,x8,x9,ek]:=by
 refine aw x.made.length (λi (_:Unit)=>[iI i]) (λi _=>∀n∈x.made.take i,∃f,cN m n=aa f/\f.j=x.ff) () ?_ (by simp) λi _ hi hI=>?_
 ·simp[SE.den]
 have UR:=hx.m;by_cases ai:i<x.made.length
 ·have hw:=aD ai (by omega);have iV:=ar5 ai;have sc:=ahp m x.made[i] hm.w;simp only[fF]at sc;cases he:cN m x.made[i]with
  |none=>
   rw[he]at sc;simp only[qR,eX]at sc;simp[SE.den,fF,kS,ai,dI ai,aj];refine⟨_,sc,?_⟩;simp[aj];exactλo=>by obtain⟨f,h,_⟩:=hR.2 o _ iV;rw[he]at h;cases h
  |some f=>
   rw[he]at sc;simp only[qR,eX]at sc;have hj:=hm.j f (Aw he);have US:=c53 f.j x.ff (by unfold Sm;omega);simp[SE.den,fF,kS,ai,dI ai,aj];refine⟨_,sc,?_⟩;simp[aj];refine⟨_,US,?_⟩;cases hb:(f.j==x.ff)<;>simp[hw]
   ·exactλo=>by obtain⟨g,h,h'⟩:=hR.2 o _ iV;rw[he]at h;cases h;simp[h']at hb
   exact .mk () rfl (by omega) (aB (p:=λn=>∃f,cN m n=aa f/\f.j=x.ff) ai hI ⟨f,he,by simpa using hb⟩)
 ·simp[SE.den,kS,ai];exact hR.1 (aI ai hI)
theorem amP{x0 x3 x4 x5 x6 x7 x8 x9:IV}(m:Me)(hm:yP m)(x:Ap)(hx:Jw x)(hR:EG m x↔O):
 TZ.sat ar1 CC (nQ λb=>b=ab↔O) [k0] [x0,fF m,kS x,x3,x4,x5,x6,x7,x8,x9]:=by
 refine aw x.gone.length (λi (_:Unit)=>[iI i]) (λi _=>∀n∈x.gone.take i,∃f,findF m.past n=aa f) () ?_ (by simp) λi _ hi hI=>?_
 ·simp[SE.den]
 have UR:=hx.g;by_cases ai:i<x.gone.length
 ·have hw:=aD ai (by omega);have iV:=ar5 ai;have Nf:=c41 m.past x.gone[i] hm.w.sp;cases he:findF m.past x.gone[i]with
  |none=>
   rw[he]at Nf;simp only[qR,eX]at Nf;simp[SE.den,fF,kS,ai,dI ai,aj];refine⟨_,Nf,?_⟩;simp[aj];exact cA hR λq=>by obtain⟨f,h⟩:=q _ iV;rw[he]at h;cases h
  |some f=>
   rw[he]at Nf;simp only[qR,eX]at Nf;simp[SE.den,fF,kS,ai,dI ai,aj];refine⟨_,Nf,?_⟩;simp[aj,hw];exact .mk () rfl (by omega) (aB (p:=λn=>∃f,findF m.past n=aa f) ai hI ⟨f,he⟩)
 ·have hI:=aI ai hI;have:=amO (k0:=k0) (k1:=P_ x.gone.length (λi (_:Unit)=>[iI i]) (λi _=>∀n∈x.gone.take i,∃f,findF m.past n=aa f) i) (x0:=x0) (x3:=x3) (x4:=x4) (x5:=x5) (x6:=x6) (x7:=x7) (x8:=x8) (x9:=x9) (ek:=iI i) m hm x hx (cz hR hI);simp[SE.den,kS,ai];exact this
theorem amQ{x0 x3 x4 x5:IV}(m:Me)(hm:yP m)(x:Ap)(hx:Jw x)(hR:RU m x↔O):
 F7.sat ar1 CC (nQ λb=>b=ab↔O) [] [x0,fF m,kS x,x3,x4,x5]:=by
 refine aw x.aW.length (λi (a:List Fa)=>[iI i,iv a]) (λi a=>a=(x.aW.take i).filterMap (cN m)/\(x.aW.take i).Nodup/\(∀n∈x.aW.take i,∃f,cN m n=aa f)/\a.length<=i/\∀f∈a,f.j.length<=20) [] ?_ (by simp) λi a hi hI=>?_
 ·simp[SE.den]
 obtain⟨iz,hIn,RV,oj,iw⟩:=hI;have UR:=hx.h;by_cases ai:i<x.aW.length
 ·have hw:=aD ai (by omega);have iV:=ar5 ai;have sc:=ahp m x.aW[i] hm.w;simp only[fF]at sc;cases he:cN m x.aW[i]with
  |none=>
   rw[he]at sc;simp only[qR,eX]at sc;simp[SE.den,fF,kS,ai,dI ai,aj];refine⟨_,sc,?_⟩;simp[aj];exactλo=>by obtain⟨f,h⟩:=(hR.2 o).hd _ iV;rw[he]at h;cases h
  |some f=>
   rw[he]at sc;simp only[qR,eX]at sc;have hj:=hm.j f (Aw he);have fc:=QN (L:=x.aW) (k:=i) (by omega);have h94:=ao_ (x.aW.take i) x.aW[i] (by unfold Sm;simp;omega);have BD:=Y1 (a:=a) f (by omega)
   have hfm:(x.aW.take (i+1)).filterMap (cN m)=a++[f]:=by
    rw[ase ai,awf,<-iz];simp[he]
   have oX:x.aW[i]∉x.aW.take i->(x.aW.take (i+1)).Nodup:=λh=>by
    rw[ase ai];exact JT hIn h
   have bw:x.aW[i]∈x.aW.take i->¬O:=λh o=>acu ai h (hR.2 o).nd;have ct:=aB (p:=λn=>∃f,cN m n=aa f) ai RV ⟨f,he⟩;have GX:(x.aW.take i).contains x.aW[i]=ab↔x.aW[i]∈x.aW.take i:=by simp
   generalize x.aW.take i=tk at fc h94 oX bw GX;generalize tk.contains x.aW[i]=bb at h94 GX;have dV:(a++[f]).length<=i+1:=by simp;omega
   have hcj:∀g∈a++[f],g.j.length<=20:=λg hg=>by
    rcases asn.1 hg with hg|hg
    ·exact iw g hg
    ·simp at hg;subst hg;exact hj
   generalize a++[f]=a' at BD dV hcj hfm;simp only[iL,iv]at fc BD;simp[SE.den,fF,kS,ai,dI ai,aj];refine⟨_,sc,?_⟩;simp[aj,fc];refine⟨_,h94,?_⟩;cases bb<;>simp[hw,BD,cellsOf]
   ·exact .mk a' (by simp) (by omega) ⟨hfm.symm,oX (λh=>(by have:=GX.2 h;cases this)),ct,dV,hcj⟩
   ·exact bw (GX.1 rfl)
 ·rw[asf (by omega)]at iz hIn RV;obtain⟨hv,aqo⟩:=amN a (by omega) iw;have hxj:=hx.j;have US:=c53 x.ff (eO (a.map Fa.j)) (by unfold Sm;omega);have hj:=λo=>(hR.2 o).j;have OL:x.ff=eO (a.map Fa.j)->(EG m x↔O):=λe=>⟨λh=>hR.1 ⟨hIn,RV,by rw[<-iz];exact e,h.1,h.2⟩,λo=>⟨(hR.2 o).g,(hR.2 o).m⟩⟩;rw[<-iz]at hj;generalize eO (a.map Fa.j)=v at*
  have h1:=λhG=>amP (O:=O) (k0:=P_ x.aW.length (λi (a:List Fa)=>[iI i,iv a]) (λi a=>a=(x.aW.take i).filterMap (cN m)/\(x.aW.take i).Nodup/\(∀n∈x.aW.take i,∃f,cN m n=aa f)/\a.length<=i/\∀f∈a,f.j.length<=20) i) (x0:=x0) (x3:=x3) (x4:=x4) (x5:=x5) (x6:=iI i) (x7:=iv a) (x8:=iL v) (x9:=iB (x.ff==v)) m hm x hx hG;simp[SE.den,kS,ai];refine⟨_,aqo,?_⟩;simp;refine⟨_,US,?_⟩;cases hb:(x.ff==v)<;>simp
  ·exactλo=>by simp[hj o]at hb
  rw[hb]at h1;exact h1 (OL (by simpa using hb))
end
def gG(p:Pg)(m:Me)(x:Ap):Prop:=∃(k:Nat) (h:k<p.rules.length),x.rule=(k:Int)/\x.aW.length=p.rules[k].keep.length+p.rules[k].remove.length/\x.gone=x.aW.drop p.rules[k].keep.length/\(x.failed=ab->x.made=[])/\x.made.length<=12/\RU m x
theorem v40(p:Pg)(hp:wI p)(m:Me)(hm:yP m)(x:Ap)(hx:Jw x):∃b,(b=ab↔gG p m x)/\CC 35 af [eI p,fF m,kS x] (iB b):=by
 refine CC.qq _ apv n40 t40 (by intro y hy;simp at hy;rcases hy with rfl|rfl|rfl;exact eJ p;exact lS m;exact Y0 x) (by rfl) ?_;have hO:gG p m x↔gG p m x:=Iff.rfl;generalize Ae:gG p m x=O at hO⊢;have e52:T0=F7:=rfl;have h2:(RU m x↔O)->∀x0 x3 x4 x5,F7.sat ar1 CC (nQ λb=>b=ab↔O) [] [x0,fF m,kS x,x3,x4,x5]:=λh _ _ _ _=>amQ m hm x hx h;unfold gG at Ae;obtain⟨ds,rs⟩:=p;obtain⟨hd,hr,dn,wb,DP⟩:=hp;have hxh:=hx.h;have hxg:=hx.g;have UR:=hx.m;generalize RU m x=B at h2 Ae;obtain⟨rule,aW,gone,made,failed,ff⟩:=x;simp only[fF,kS]at*
 show WQ.sat _ _ _ _ [.agg [eo ds,nj rs],_,_];simp[WQ,SE.den,aj,e52];by_cases z0:rule<0
 ·left;exact⟨z0,by rw[<-Ae];rintro⟨k,h,e,_⟩;omega⟩
 right;refine⟨by omega,?_⟩;by_cases z1:(rs.length:Int)<=rule
 ·left;exact⟨z1,by rw[<-Ae];rintro⟨k,h,e,_⟩;omega⟩
 right;refine⟨by omega,?_⟩;obtain⟨k,rfl⟩:∃k:Nat,rule=(k:Int):=⟨rule.toNat,by omega⟩;have hk:k<rs.length:=by omega
 have yW:(aW.length=rs[k].keep.length+rs[k].remove.length/\gone=aW.drop rs[k].keep.length/\(failed=ab->made=[])/\made.length<=12/\B)↔O:=by
  rw[<-Ae];refine⟨λh=>⟨k,hk,rfl,h⟩,λ⟨k',h',e,h⟩=>?_⟩;have:k'=k:=by omega
  subst this;exact h
 clear Ae hO;have nc:=(wb _ (ar5 hk)).h;have sX:=yM hk;simp only[nj]at sX;have ZL:asC.wrap ((rs[k].keep.length:Int)+(rs[k].remove.length:Int))=rs[k].keep.length+rs[k].remove.length:=dQ (by omega) (by omega);simp[sX,aj,ZL];by_cases z2:(aW.length:Int)=rs[k].keep.length+rs[k].remove.length
 rotate_left
 ·left;exact⟨z2,cA yW λh=>z2 (by omega)⟩
 right;refine⟨z2,?_⟩;have yW:=cz yW (by omega);have fc:=ZF (L:=aW) (k:=rs[k].keep.length) (by omega);have US:=aqn gone (aW.drop rs[k].keep.length) (by unfold Sm;omega);generalize aW.drop rs[k].keep.length=dk at fc US yW;simp only[iL]at fc;simp[fc];refine⟨_,US,?_⟩;cases b53:(gone==dk)<;>simp
 ·exact cA yW λh=>by simp[h]at b53
 have yW:=cz yW (by simpa using b53);cases failed<;>simp
 ·have yW:=cz yW (λh=>by cases h);by_cases z4:12<made.length
  ·left;exact⟨by omega,cA yW (by omega)⟩
  ·right;exact⟨by omega,h2 (cz yW (by omega)) _ _ _ _⟩
 ·by_cases z3:0<made.length
  ·left;exact⟨z3,cA yW λh=>by simp[h rfl]at z3⟩
  right;have qs:made=[]:=by simpa using z3
  have yW:=cz yW (λ_=>qs);refine⟨qs,?_⟩;right;exact⟨by omega,h2 (cz yW (by omega)) _ _ _ _⟩
end Go.Proofs.YtpfogalbnijcoaaGreat
namespace Go.Proofs.YtpfogalbnijcoaaGreat
open Go Go.Ev
structure gH(p:Pg)(m:Me):Prop where
 c:Nd p
 n:1<=m.next/\m.next<=2147483648
 g:0<=m.given/\m.given<=64
 f:ik p.decls m.next m.given m.facts
 q:ik p.decls m.next m.given m.past
 l:∀x∈m.log,gG p m x
 d:∀f∈m.facts,findF m.past f.id=ah/\fz (m.log.map Ap.made) f.id<=1
 e:∀f∈m.past,fz (m.log.map Ap.gone) f.id=1/\fz (m.log.map Ap.made) f.id<=1
def SzM(m:Me):Prop:=∀f∈m.facts++m.past,cu f.a.ts<=1000000000000
def SzP(p:Pg):Prop:=∀r∈p.rules,SzR r
theorem v14(p:Pg)(hp:wI p)(hz:SzP p)(m:Me)(hm:yP m)(hn:∀f∈m.facts++m.past,yO f)(UT:SzM m):∃b,(b=ab↔gH p m)/\CC 17 af [eI p,fF m] (iB b):=by
 refine CC.qq _ aph n14 t14 (by intro y hy;simp at hy;rcases hy with rfl|rfl;exact eJ p;exact lS m) (by rfl) ?_;have hf:=hm.f;have nW:=hm.p;have hl:=hm.l;have O_:=v12 p hp hz;obtain⟨b39,acv,h39⟩:=v39 p (by have:=hp.d;unfold Sm;omega) m m.facts (by unfold Sm;omega) (λf hf=>hn f (asN _ hf)) λf hf=>UT f (asN _ hf);obtain⟨c39,acw,g39⟩:=v39 p (by have:=hp.d;unfold Sm;omega) m m.past (by unfold Sm;omega) (λf hf=>hn f (asM _ hf)) λf hf=>UT f (asM _ hf);have h40:=λx hx=>v40 p hp m hm x (hm.x x hx);have h42:=λid made=>v42 m.log id made (by omega) λx hx=>by have:=(hm.x x hx).m;have:=(hm.x x hx).g;omega
 have acx:∀id,CC 37 af [mu m.log,iI id,iB ab] (iI ((fz (m.log.map Ap.made) id:Nat):Int)):=λid=>h42 id ab;have aiO:∀id,CC 37 af [mu m.log,iI id,iB af] (iI ((fz (m.log.map Ap.gone) id:Nat):Int)):=λid=>h42 id af;clear h42;have Nf:=λid=>c41 m.past id (by unfold Sm;omega);have o1:=λo:gH p m=>yV.2 o.c;have o2:=λo:gH p m=>o.n;have o3:=λo:gH p m=>o.g;have o4:=λo:gH p m=>o.f;have o5:=λo:gH p m=>o.q;have o6:=λo:gH p m=>o.l;have o7:=λo:gH p m=>o.d;have o8:=λo:gH p m=>o.e;have oo:=λ(c0:qT p=0) b c d e f g h=>(⟨yV.1 c0,b,c,d,e,f,g,h⟩:gH p m);generalize gH p m=O at o1 o2 o3 o4 o5 o6 o7 o8 oo⊢;generalize qT p=N at O_ o1 oo;generalize ik p.decls m.next m.given m.facts=F1 at o4 oo acv;generalize ik p.decls m.next m.given m.past=F2 at o5 oo acw;generalize gG p m=EE at o6 oo h40;obtain⟨ds,rs⟩:=p;obtain⟨mf,mp,ml,mn,mg⟩:=m;simp only[eI,fF]at*
 generalize fz (ml.map Ap.made)=cM at acx o7 o8 oo;generalize fz (ml.map Ap.gone)=cG at aiO o8 oo;show WL.sat _ _ _ _ [.agg [eo ds,nj rs],_];have ZL:asC.wrap ((mf.length:Int)+(mp.length:Int))=mf.length+mp.length:=dQ (by omega) (by omega);simp[WL,SE.den,aj,yN];refine⟨_,O_,?_⟩;simp[yN];by_cases z0:N=0
 rotate_left
 ·left;exact⟨z0,λo=>z0 (o1 o)⟩
 right;refine⟨z0,?_⟩;by_cases z1:mn<1
 ·left;exact⟨z1,λo=>by have:=o2 o;omega⟩
 right;refine⟨by omega,?_⟩;by_cases z2:2147483648<mn
 ·left;exact⟨z2,λo=>by have:=o2 o;omega⟩
 right;refine⟨by omega,?_⟩;by_cases z3:mg<0
 ·left;exact⟨z3,λo=>by have:=o3 o;omega⟩
 right;refine⟨by omega,?_⟩;by_cases z4:64<mg
 ·left;exact⟨z4,λo=>by have:=o3 o;omega⟩
 right;refine⟨by omega,?_⟩;right;refine⟨by omega,?_⟩;simp[ZL];right;refine⟨by omega,?_⟩;refine⟨_,h39,?_⟩;cases b39<;>simp
 ·exactλo=>by have:=acv.2 (o4 o);cases this
 refine⟨_,g39,?_⟩;cases c39<;>simp
 ·exactλo=>by have:=acw.2 (o5 o);cases this
 unfold TN;refine aw ml.length (λi (_:Unit)=>[iI i]) (λi _=>∀x∈ml.take i,EE x) () ?_ (by simp) λi _ hi hL=>?_
 ·simp[SE.den]
 by_cases ai:i<ml.length
 ·have hw:=aD ai (by omega);obtain⟨b,hbj,hb⟩:=h40 _ (ar5 ai);simp only[kS]at hb;simp[SE.den,ai,hw,yK ai,aj];refine⟨_,hb,?_⟩;cases b<;>simp
  ·exactλo=>by have:=hbj.2 (o6 o _ (ar5 ai));cases this
  exact .mk () rfl (by omega) (aB ai hL (hbj.1 rfl))
 have hL:=aI ai hL;simp[SE.den,ai];unfold TM;refine aw mf.length (λi (_:Unit)=>[iI i]) (λi _=>∀f∈mf.take i,findF mp f.id=ah/\cM f.id<=1) () ?_ (by simp) λi1 _ OF hI=>?_
 ·simp[SE.den]
 by_cases dZ:i1<mf.length
 ·have hw:=aD dZ (by omega);have RX:=acx mf[i1].id;have Lj:=Nf mf[i1].id;have bw:=λo=>o7 o _ (ar5 dZ);have ct:=λa=>aB (p:=λf:Fa=>findF mp f.id=ah/\cM f.id<=1) dZ hI a;cases he:findF mp mf[i1].id with
  |some f=>
   rw[he]at Lj;simp only[qR,eX]at Lj;simp[SE.den,dZ,yL dZ,aj];refine⟨_,Lj,?_⟩;simp[aj];exactλo=>by have:=(bw o).1;rw[he]at this;cases this
  |none=>
   rw[he]at Lj;simp only[qR,eX]at Lj;generalize cM mf[i1].id=n at RX bw ct;simp[SE.den,dZ,yL dZ,aj];refine⟨_,Lj,?_⟩;simp[aj,hw];refine⟨_,RX,?_⟩;simp;by_cases z:1<n
   ·left;exact⟨by omega,λo=>by have:=(bw o).2;omega⟩
   ·right;exact⟨by omega,.mk () rfl (by omega) (ct ⟨he,by omega⟩)⟩
 have hD:=aI dZ hI;simp[SE.den,dZ];unfold TL;refine aw mp.length (λi (_:Unit)=>[iI i]) (λi _=>∀f∈mp.take i,cG f.id=1/\cM f.id<=1) () ?_ (by simp) λi0 _ C4 iz=>?_
 ·simp[SE.den]
 by_cases jT:i0<mp.length
 ·have hw:=aD jT (by omega);have RX:=aiO mp[i0].id;have aiP:=acx mp[i0].id;have bw:=λo=>o8 o _ (ar5 jT);have ct:=λa=>aB (p:=λf:Fa=>cG f.id=1/\cM f.id<=1) jT iz a;generalize cG mp[i0].id=n at RX bw ct;generalize cM mp[i0].id=n2 at aiP bw ct;simp[SE.den,jT,yL jT,aj];refine⟨_,RX,?_⟩;simp[hw];by_cases z:n=1
  rotate_left
  ·left;exact⟨by omega,λo=>z (bw o).1⟩
  right;refine⟨by omega,_,aiP,?_⟩;simp;by_cases z':1<n2
  ·left;exact⟨by omega,λo=>by have:=(bw o).2;omega⟩
  ·right;exact⟨by omega,.mk () rfl (by omega) (ct ⟨z,by omega⟩)⟩
 ·simp[SE.den,jT];exact oo z0 (by omega) (by omega) (acv.1 rfl) (acw.1 rfl) hL hD (aI jT iz)
end Go.Proofs.YtpfogalbnijcoaaGreat
namespace Go.Proofs.YtpfogalbnijcoaaGreat
open Go Go.Ev
theorem adV(ds:List (Int×IV))(k:Int):(∃i v,fi ar1 3 (ds.map HT) (iI k)=aa (aa i)/\ds[i]?=aa (k,v))\/(fi ar1 3 (ds.map HT) (iI k)=aa ah/\k∉ds.map (·.1)):=by
 have h:fi ar1 3 (ds.map HT) (iI k)=fi ar1 3 ((ds.map (·.1)).map mF) (iI k):=by
  unfold fi;rw[adM]
 rw[h];by_cases hm:k∈ds.map (·.1)
 ·left;obtain⟨i,g1,g2⟩:=(pO _ k).1 hm;rw[asi]at g2;obtain⟨⟨a,v⟩,g3,g4⟩:=ar9.1 g2;simp only at g4;subst g4;exact⟨i,v,g1,g3⟩
 ·right;exact⟨(pO _ k).2 hm,hm⟩
theorem JU(fs:List Fa)(k:Int):(∃i f,f∈fs/\fi ar1 3 (fs.map Ay) (iI k)=aa (aa i)/\fs[i]?=aa f/\f.id=k)\/(fi ar1 3 (fs.map Ay) (iI k)=aa ah/\∀f∈fs,f.id≠k):=by
 have hm:fs.map Ay=(fs.map λf=>(f.id,eX f)).map HT:=by rw[auP];rfl
 rw[hm];rcases adV (fs.map λf=>(f.id,eX f)) k with⟨i,v,g1,g2⟩|⟨g,g'⟩
 ·left;rw[asi]at g2;obtain⟨f,g3,g4⟩:=ar9.1 g2;exact⟨i,f,ash g3,g1,g3,congrArg auQ g4⟩
 ·refine .inr ⟨g,λf hf e=>g' ?_⟩;rw[auP];exact asv.2 ⟨f,hf,e⟩
structure fN(cs:List (Int×Int))(g:Int->Int):Prop where
 n:(cs.map (·.1)).Nodup
 v:∀c∈cs,c.2=g c.1
 k:∀k,k∉cs.map (·.1)->g k=0
theorem Xi{cs:List (Int×Int)}{g:Int->Int}(h:fN cs g)(k:Int):(∃i,fi ar1 3 (cs.map nR) (iI k)=aa (aa i)/\cs[i]?=aa (k,g k))\/(fi ar1 3 (cs.map nR) (iI k)=aa ah/\k∉cs.map (·.1)/\g k=0):=by
 have hm:cs.map nR=(cs.map λc=>(c.1,iI c.2)).map HT:=by rw[auP];rfl
 rw[hm];rcases adV (cs.map λc=>(c.1,iI c.2)) k with⟨i,v,g1,g2⟩|⟨g1,g2⟩
 ·left;rw[asi]at g2;obtain⟨⟨a,c⟩,g3,g4⟩:=ar9.1 g2;have:a=k:=congrArg auQ g4;subst this;have hv:=h.v _ (ash g3);simp only at hv;exact⟨i,g1,hv▸g3⟩
 ·have g3:k∉cs.map (·.1):=by rw[auP]at g2;exact g2
  exact .inr ⟨g1,g3,h.k k g3⟩
theorem fN.set{cs:List (Int×Int)}{g g':Int->Int}(h:fN cs g){i:Nat}{k:Int}(hi:cs[i]?=aa (k,g k))(hg:∀x,g' x=if x=k then g k+1 else g x):fN (cs.set i (k,g' k)) g':=by
 have cW:=List.getElem?_eq_some_iff.1 hi
 have adW:(cs.set i (k,g' k)).map (·.1)=cs.map (·.1):=by
  rw[av6];refine List.ext_getElem (by simp) λj h1 h2=>?_;rw[awO];split
  ·subst i;rw[List.getElem_map];rw[cW.2]
  ·rfl
 refine⟨by rw[adW];exact h.n,λc hc=>?_,λx hx=>?_⟩
 ·obtain⟨j,hj,rfl⟩:=List.getElem_of_mem hc;rw[awO];split
  ·rfl
  ·rename_i aZ;have fO:j<cs.length:=by simpa using hj
   have hv:=h.v _ (ar5 fO);obtain⟨yb,uu⟩:=cW
   have uo:cs[j].1≠k:=λe=>by
    have hp:=aue.1 h.n;rcases Nat.lt_or_gt_of_ne aZ with ai|ai
    ·exact hp i j (by simpa using yb) (by simpa using fO) ai (by simp[uu,e])
    ·exact hp j i (by simpa using fO) (by simpa using yb) ai (by simp[uu,e])
   exact hv.trans (by rw[hg,if_neg uo])
 ·rw[adW]at hx;have hk:x≠k:=λe=>hx (by rw[e];exact asv.2 ⟨_,ash hi,rfl⟩);rw[hg,if_neg hk];exact h.k x hx
theorem fN.add{cs:List (Int×Int)}{g g':Int->Int}(h:fN cs g){k:Int}(hk:k∉cs.map (·.1))(hg:∀x,g' x=if x=k then g k+1 else g x):fN (cs++[(k,g' k)]) g':=by
 refine⟨?_,λc hc=>?_,λx hx=>?_⟩
 ·rw[au8,auq];refine⟨h.n,by simp,λa ha b hb e=>hk ?_⟩;simp at hb;subst hb;exact e▸ha
 ·rcases asn.1 hc with hc|hc
  ·have:c.1≠k:=λe=>hk (e▸asv.2 ⟨c,hc,rfl⟩);rw[hg,if_neg this];exact h.v c hc
  ·simp at hc;subst hc;rfl
 ·rw[au8,asn]at hx;have h1:x≠k:=λe=>hx (.inr (by simp[e]));rw[hg,if_neg h1];exact h.k x λh=>hx (.inl h)
theorem fN.nil:fN [] λ_=>0:=⟨by simp,by simp,λ_ _=>rfl⟩
theorem fN.ext{cs:List (Int×Int)}{g g':Int->Int}(h:fN cs g)(e:∀k,g k=g' k):fN cs g':=(funext e:g=g')▸h
theorem fN.le1{cs:List (Int×Int)}{g:Int->Int}(h:fN cs g):(∀c∈cs,c.2<=1)↔∀k,g k<=1:=by
 refine⟨λh1 k=>?_,λh1 c hc=>by rw[h.v c hc];exact h1 _⟩;by_cases hk:k∈cs.map (·.1)
 ·obtain⟨c,hc,rfl⟩:=asv.1 hk;rw[<-h.v c hc];exact h1 c hc
 ·rw[h.k k hk];omega
section
variable{K:List (List IV->Prop)}{x0 x1 x2 x3 x4 x5 x6 x7 x8 x9 ek jf iU kV lk rh pU ri Ab EY EH Rq Mx Mw Mv:IV}{Q':IV->Prop}
theorem amR(ks:List Int)(cs ds:List (Int×Int)){g:Int->Int}(hg:fN cs g){k0 k1 k2 k3:List IV->Prop}:RB.sat ar1 CC (·=iB (decide (∀k∈ks,g k=1)&&decide (∀c∈ds,c.2<=1))) [k0,k1,k2,k3] [x0,x1,x2,x3,x4,x5,x6,x7,x8,x9,ek,iM ks,iU,o9 cs,o9 ds]:=by
 have hf:∀k:Int,(SE.ok (.rw (.get 3 (.var 1) (.var 0) (.k .i64 0)))).den ar1 [iI k,o9 cs]=aa (iI (g k)):=by
  intro k;rcases Xi hg k with⟨i,g1,g2⟩|⟨g1,_,g0⟩
  ·simp[SE.den,g1,g2,nR,aA]
  ·simp[SE.den,g1,aA,g0]
 simp[SE.den]at hf;simp only[iI]at hf;by_cases bz:∀k∈ks,g k=1
 ·rw[decide_eq_true bz,Bool.true_and];refine xn (λ(a:List IV×List IV)=>[.az (iM ks::.az a.1::a.2)]) (λa=>∀y∈a.1,∃k∈ks,y=mF k) (λa=>a.1.length) (ks.map mF,[]) ?_ ?_ λa hI=>?_
  ·simp[SE.den,iE]
  ·intro y hy;obtain⟨c,hc,rfl⟩:=asv.1 hy;exact⟨c,hc,rfl⟩
  obtain⟨rem,r⟩:=a;refine⟨_,rem,rfl,⟨r,rfl⟩,λhe=>?_,λi y hy=>?_⟩
  ·refine⟨⟨.int ds.length,by simp[SE.den,lX]⟩,_,rfl,amo ds⟩
  ·obtain⟨k,hk,rfl⟩:=hI y (ash hy);have hle:=bz k hk;have Tt:=hf k;rw[hle]at Tt;refine⟨_,_,rfl,rfl,?_⟩;simp[SE.den,mF,aA,aj];refine⟨_,Tt,?_⟩;simp;exact .mk (rem.eraseIdx i,[.az [iI k,.agg []]]) (by simp) (λy hy=>hI y (auX hy)) (JJ hy)
 ·rw[decide_eq_false bz,Bool.false_and];simp only[axL]at bz;obtain⟨b,hb,hbf⟩:=bz;refine xn (λ(a:List IV×List IV)=>[.az (iM ks::.az a.1::a.2)]) (λa=>(∀y∈a.1,∃k∈ks,y=mF k)/\mF b∈a.1) (λa=>a.1.length) (ks.map mF,[]) ?_ ?_ λa hI=>?_
  ·simp[SE.den,iE]
  ·refine⟨λy hy=>?_,asv.2 ⟨b,hb,rfl⟩⟩;obtain⟨c,hc,rfl⟩:=asv.1 hy;exact⟨c,hc,rfl⟩
  obtain⟨rem,r⟩:=a;obtain⟨hI,qu⟩:=hI;refine⟨_,rem,rfl,⟨r,rfl⟩,λhe=>?_,λi y hy=>?_⟩
  ·simp only at qu;rw[he]at qu;simp at qu
  ·obtain⟨k,hk,rfl⟩:=hI y (ash hy);have Tt:=hf k;refine⟨_,_,rfl,rfl,?_⟩;simp[SE.den,mF,aA,aj];refine⟨_,Tt,?_⟩;simp;by_cases hle:g k=1
   ·right;refine⟨hle,.mk (rem.eraseIdx i,[.az [iI k,.agg []]]) (by simp) ⟨λy hy=>hI y (auX hy),aaa hy qu λhe=>?_⟩ (JJ hy)⟩;simp[mF]at he;subst he;exact hbf hle
   ·left;exact hle
variable{k0 k1 k2 k3 k4 k5:List IV->Prop}
theorem amS(i:Nat)(hi:i<1000)(ks:List Int)(n:Int){a b c:IV}(hk:∀q,(∀v,v∈q↔v∈ks\/v=n)->k2 [iI (i+1:Nat),iM q]):Rr.sat ar1 CC Q' [k0,k1,k2] [x0,x1,x2,x3,x4,x5,x6,x7,x8,x9,iI i,iM ks,.agg [iI n,a,b,c]]:=by
 have fS:=aD hi (by omega);have iu:dD 1 (.tree 1 [iI n]) (iI 0)=aa (iI n):=dI (l:=[n]) (i:=0) (by simp);refine aw 1 (λj (q:List Int)=>[iI j,iM q]) (λj q=>∀v,v∈q↔v∈ks\/(j=1/\v=n)) ks ?_ (by simp) λj q hj hI=>?_
 ·simp[SE.den]
 by_cases ai:j<1
 ·have h0:j=0:=by omega
  subst h0;have r_:=F6 (ν:=[iM q,iI n]) (m:=.var 0) (key:=.var 1) (ks:=q) (k:=n) rfl rfl;simp[SE.den]at r_;simp only[iI]at r_;simp[SE.den,aj,cellsOf,iu];refine⟨_,r_,?_⟩;have P0:asC.wrap 1=1:=dQ (by omega) (by omega);simp[P0];refine .mk _ rfl (by omega) λv=>?_;rw[Fe,hI];simp
 ·have h1:j=1:=by omega
  subst h1;simp[SE.den,aj,cellsOf,fS];exact hk q λv=>by rw[hI];simp
theorem UU(l:List Int)(g:Int->Int){j:Nat}(h:j<l.length):∀x,g x+((l.take (j+1)).count x:Nat)=if x=l[j]then(g l[j]+((l.take j).count l[j]:Nat))+1 else g x+((l.take j).count x:Nat):=λx=>by
 have:=HZ h x;rw[this];by_cases z:x=l[j]
 ·subst z;simp;omega
 ·rw[if_neg z,if_neg λe=>z e.symm];simp
theorem amT(x:Ap)(hx:Jw x)(i:Nat)(hi:i<1000)(cs ds:List (Int×Int)){g:Int->Int}(hg:fN ds g)(hb:∀k,0<=g k/\g k<=100000)(hk:∀q:List (Int×Int),fN q (λk=>g k+(x.made.count k:Nat))->k3 [iI (i+1:Nat),o9 cs,o9 q]):
 Rx.sat ar1 CC Q' [k0,k1,k2,k3,k4] [x0,x1,x2,x3,x4,x5,x6,x7,x8,x9,ek,jf,iI i,kV,o9 ds,aX x,pU,ri,o9 cs]:=by
 have UR:=hx.m;have fS:=aD hi (by omega);refine aw x.made.length (λj (q:List (Int×Int))=>[iI j,o9 q]) (λj q=>fN q λk=>g k+((x.made.take j).count k:Nat)) ds ?_ (by simpa using hg) λj q hj hI=>?_
 ·simp[SE.den]
 by_cases ai:j<x.made.length
 ·have hw:=aD ai (by omega);have zj:=UU x.made g ai;have dV:=at5 (a:=x.made[j]) (l:=x.made.take j);rw[atz]at dV;have yF:=hb x.made[j];have JV:asC.wrap ((g x.made[j]+((x.made.take j).count x.made[j]:Nat))+1)=(g x.made[j]+((x.made.take j).count x.made[j]:Nat))+1:=dQ (by omega) (by omega);have bf:=zj x.made[j];rw[if_pos rfl]at bf;simp[SE.den,ai,hw,dI ai,aj];rcases Xi hI x.made[j]with⟨p,g1,g2⟩|⟨g1,g2,g3⟩
  ·have r7:=hI.set g2 zj
   try simp only[iI]at g1
   try simp only at g2 r7
   rw[bf]at r7;generalize g x.made[j]+((x.made.take j).count x.made[j]:Nat)=cc at*
   simp[g1,g2,nR,aA];exact .mk (q.set p (x.made[j],cc+1)) (by simp[av6,nR,JV]) (by omega) r7
  ·have CY:=hI.add g2 zj
   try simp only[iI]at g1
   try simp only at g3 CY
   rw[bf,g3]at CY;rw[g3]at JV;simp[g1,aA];exact .mk (q++[(x.made[j],0+1)]) (by simp[nR,JV];exact JV) (by omega) CY
 ·rw[asf (by omega)]at hI;simp[SE.den,ai,fS];exact hk q hI
theorem amU(x:Ap)(hx:Jw x)(i:Nat)(hi:i<1000)(cs ds:List (Int×Int)){g g':Int->Int}(hg:fN cs g)(hb:∀k,0<=g k/\g k<=100000)(Ez:fN ds g')(si:∀k,0<=g' k/\g' k<=100000)(hk:∀p q:List (Int×Int),fN p (λk=>g k+(x.gone.count k:Nat))->fN q (λk=>g' k+(x.made.count k:Nat))->k3 [iI (i+1:Nat),o9 p,o9 q]):
 Ry.sat ar1 CC Q' [k0,k1,k2,k3] [x0,x1,x2,x3,x4,x5,x6,x7,x8,x9,ek,jf,iI i,o9 cs,o9 ds,aX x,pU]:=by
 have UR:=hx.g;refine aw x.gone.length (λj (q:List (Int×Int))=>[iI j,o9 q]) (λj q=>fN q λk=>g k+((x.gone.take j).count k:Nat)) cs ?_ (by simpa using hg) λj q hj hI=>?_
 ·simp[SE.den]
 by_cases ai:j<x.gone.length
 ·have hw:=aD ai (by omega);have zj:=UU x.gone g ai;have dV:=at5 (a:=x.gone[j]) (l:=x.gone.take j);rw[atz]at dV;have yF:=hb x.gone[j];have JV:asC.wrap ((g x.gone[j]+((x.gone.take j).count x.gone[j]:Nat))+1)=(g x.gone[j]+((x.gone.take j).count x.gone[j]:Nat))+1:=dQ (by omega) (by omega);have bf:=zj x.gone[j];rw[if_pos rfl]at bf;simp[SE.den,ai,hw,dI ai,aj];rcases Xi hI x.gone[j]with⟨p,g1,g2⟩|⟨g1,g2,g3⟩
  ·have r7:=hI.set g2 zj
   try simp only[iI]at g1
   try simp only at g2 r7
   rw[bf]at r7;generalize g x.gone[j]+((x.gone.take j).count x.gone[j]:Nat)=cc at*
   simp[g1,g2,nR,aA];exact .mk (q.set p (x.gone[j],cc+1)) (by simp[av6,nR,JV]) (by omega) r7
  ·have CY:=hI.add g2 zj
   try simp only[iI]at g1
   try simp only at g3 CY
   rw[bf,g3]at CY;rw[g3]at JV;simp[g1,aA];exact .mk (q++[(x.gone[j],0+1)]) (by simp[nR,JV];exact JV) (by omega) CY
 ·rw[asf (by omega)]at hI;simp[SE.den,ai];exact amT x hx i hi q ds Ez si (λq' h=>hk q q' hI h)
end
end Go.Proofs.YtpfogalbnijcoaaGreat
namespace Go.Proofs.YtpfogalbnijcoaaGreat
open Go Go.Ev
theorem RY(a b:List Int)(hl:Sm a):CC 29 ab [iL a,iL b] (iB (a==b)):=by
 refine CC.gN al5 n78 t78 (by simp) (by rfl) ?_;generalize hS:(a==b)=S;simp[Z2,SE.den];by_cases bR:a.length=b.length
 ·right;simp[bR];unfold QY;refine aw a.length (λi (_:Unit)=>[iI i]) (λi _=>a.take i=b.take i) () ?_ (by simp) λi _ hi hI=>?_
  ·simp[SE.den]
  by_cases ai:i<a.length
  ·have wz:i<b.length:=by omega
   have hw:=aD ai hl;simp[SE.den,ai,hw,dI ai,dI wz,aA];by_cases h:a[i]=b[i]
   ·right;exact⟨h,.mk () rfl (by omega) (by rw[ase ai,ase wz,hI,h])⟩
   ·left;refine⟨h,?_⟩;subst S;simp;exactλe=>h (by subst e;rfl)
  ·rw[asf (by omega),asf (by omega)]at hI;simp[SE.den,ai,aA];subst S;simp[hI]
 ·left;refine⟨by omega,?_⟩;simp[aA];subst S;simp;exactλe=>bR (by rw[e])
structure Lk(m:Me)(fs:List Fa):Prop where
 s:∀f∈fs,cN m f.id=aa f
 n:∀k,(∀f∈fs,f.id≠k)->cN m k=ah
section
variable{x0 x1 x2 x3 x4 x5 x6 x7 x8 x9 ek jf iU kV lk rh pU ri Ab EY EH Rq Mx Mw Mv:IV}{Q':IV->Prop}{k0 k1 k2 k3 k4 k5:List IV->Prop}{O:Prop}{m:Me}{fs:List Fa}
theorem amV(hL:Lk m fs)(yy:∀f∈fs,Sm f.j)(x:Ap)(hm:Sm x.made)(hR:EM m x↔O)(hk:∀b,(b=ab↔O)->k4 [iB b]):Rt.sat ar1 CC Q' [k0,k1,k2,k3,k4,k5] [x0,x1,x2,x3,x4,x5,x6,x7,x8,Dl fs,ek,jf,iU,kV,lk,aX x,pU,ri,Ab,EY,EH,Rq,Mx,Mw,Mv]:=by
 refine aw x.made.length (λj (_:Unit)=>[iI j]) (λj _=>∀n∈x.made.take j,∃f,cN m n=aa f/\f.j=x.ff) () ?_ (by simp) λj q hj hI=>?_
 ·simp[SE.den]
 by_cases ai:j<x.made.length
 ·have hw:=aD ai hm;have iV:=ar5 ai;have ct:=λa=>aB (p:=λn=>∃f,cN m n=aa f/\f.j=x.ff) ai hI a;have bw:¬O->k4 [iB af]:=λh=>hk af ⟨λh'=>(by cases h'),λh'=>absurd h' h⟩;simp[SE.den,ai,hw,dI ai,aj];rcases JU fs x.made[j]with⟨q,f,hf,g1,g2,g3⟩|⟨g1,g2⟩
  ·have h78:=RY f.j x.ff (yy f hf);have he:=hL.s f hf;rw[g3]at he;simp only[iI]at g1;simp[g1,g2,Ay,eX,aj];refine⟨_,h78,?_⟩;cases hb:(f.j==x.ff)<;>simp
   ·exact bw λo=>by obtain⟨g,h,h'⟩:=hR.2 o _ iV;rw[he]at h;cases h;simp[h']at hb
   ·exact .mk () rfl (by omega) (ct ⟨f,he,by simpa using hb⟩)
  ·have he:=hL.n _ g2;simp only[iI]at g1;simp[g1,aj];exact bw λo=>by obtain⟨g,h,h'⟩:=hR.2 o _ iV;rw[he]at h;cases h
 ·simp[SE.den,ai];exact hk ab ⟨λ_=>hR.1 (aI ai hI),λ_=>rfl⟩
theorem amW(hL:Lk m fs)(yy:∀f∈fs,Sm f.j)(x:Ap)(hm:Sm x.made)(hR:EM m x↔O)(hk:∀b,(b=ab↔O)->k4 [iB b]):Ru.sat ar1 CC Q' [k0,k1,k2,k3,k4,k5] [x0,x1,x2,x3,x4,x5,x6,x7,x8,Dl fs,ek,jf,iU,kV,lk,aX x,pU,ri,Ab,EY,EH,Rq,Mx,Mw,Mv]:=by
 refine aw x.made.length (λj (_:Unit)=>[iI j]) (λj _=>∀n∈x.made.take j,∃f,cN m n=aa f/\f.j=x.ff) () ?_ (by simp) λj q hj hI=>?_
 ·simp[SE.den]
 by_cases ai:j<x.made.length
 ·have hw:=aD ai hm;have iV:=ar5 ai;have ct:=λa=>aB (p:=λn=>∃f,cN m n=aa f/\f.j=x.ff) ai hI a;have bw:¬O->k4 [iB af]:=λh=>hk af ⟨λh'=>(by cases h'),λh'=>absurd h' h⟩;simp[SE.den,ai,hw,dI ai,aj];rcases JU fs x.made[j]with⟨q,f,hf,g1,g2,g3⟩|⟨g1,g2⟩
  ·have h78:=RY f.j x.ff (yy f hf);have he:=hL.s f hf;rw[g3]at he;simp only[iI]at g1;simp[g1,g2,Ay,eX,aj];refine⟨_,h78,?_⟩;cases hb:(f.j==x.ff)<;>simp
   ·exact bw λo=>by obtain⟨g,h,h'⟩:=hR.2 o _ iV;rw[he]at h;cases h;simp[h']at hb
   ·exact .mk () rfl (by omega) (ct ⟨f,he,by simpa using hb⟩)
  ·have he:=hL.n _ g2;simp only[iI]at g1;simp[g1,aj];exact bw λo=>by obtain⟨g,h,h'⟩:=hR.2 o _ iV;rw[he]at h;cases h
 ·simp[SE.den,ai];exact hk ab ⟨λ_=>hR.1 (aI ai hI),λ_=>rfl⟩
theorem RZ{l:List Fa}{n:Int}:(∃f,findF l n=aa f)↔∃f∈l,f.id=n:=by
 refine⟨λ⟨f,h⟩=>⟨f,np h,?_⟩,λ⟨f,h1,h2⟩=>?_⟩
 ·have:=List.find?_some h;simpa using this
 ·cases he:findF l n with
  |some g=>exact⟨g,rfl⟩
  |none=>exact absurd h2 (Jy he f h1)
def R0(m:Me)(x:Ap)(r:Rl):Prop:=x.gone=x.aW.drop r.keep.length/\(x.failed=ab->x.made=[])/\x.made.length<=12/\RU m x
theorem amX(hL:Lk m fs)(yy:∀f∈fs,Gd f)(x:Ap)(hx:Jw x)(r:Rl)(hl:x.aW.length=r.keep.length+r.remove.length)(hp:0<x.aW.length)(oX:x.aW.Nodup)(ks:List Int)(eb:∀v,v∈ks↔∃f∈m.past,f.id=v)(hk:∀b,(b=ab↔R0 m x r)->k4 [iB b]):
 Rw.sat ar1 CC Q' [k0,k1,k2,k3,k4] [x0,x1,x2,x3,x4,x5,x6,x7,x8,Dl fs,ek,iM ks,iU,kV,lk,aX x,aR r,ri]:=by
 have hxh:=hx.h;have hxg:=hx.g;have UR:=hx.m;have hxj:=hx.j;have bw:¬R0 m x r->k4 [iB af]:=λh=>hk af ⟨λh'=>(by cases h'),λh'=>absurd h' h⟩;refine aw x.aW.length (λj (q:List Fa)=>[iI j,iv q]) (λj q=>(q.length=j/\∀f∈q,Gd f)/\q=(x.aW.take j).filterMap (cN m)/\∀n∈x.aW.take j,∃f,cN m n=aa f) [] ?_ (by simp) λj q hj hq=>?_
 ·simp[SE.den]
 obtain⟨⟨hql,hqf⟩,iz,RV⟩:=hq;by_cases ai:j<x.aW.length
 ·have hw:=aD ai (by omega);have iV:=ar5 ai;have ct:=λa=>aB (p:=λn=>∃f,cN m n=aa f) ai RV a
  have hfm:∀f,cN m x.aW[j]=aa f->(x.aW.take (j+1)).filterMap (cN m)=q++[f]:=λf he=>by
   rw[ase ai,awf,<-iz];simp[he]
  simp[SE.den,ai,hw,dI ai,aj];rcases JU fs x.aW[j]with⟨p,f,hf,g1,g2,g3⟩|⟨g1,g2⟩
  ·have hc:=Y1 (a:=q) f (by omega);have he:=hL.s f hf;rw[g3]at he;simp only[iI]at g1
   try simp only[eX]at hc
   simp[g1,g2,Ay,eX,aj,cellsOf,hc];refine .mk (q++[f]) rfl (by omega) ⟨⟨by simp;omega,λg hg=>?_⟩,(hfm f he).symm,ct ⟨f,he⟩⟩;rcases asn.1 hg with hg|hg
   ·exact hqf g hg
   ·simp at hg;subst hg;exact yy g hf
  ·have he:=hL.n _ g2;simp only[iI]at g1;simp[g1,aj];exact bw λo=>by obtain⟨f,h⟩:=o.2.2.2.hd _ iV;rw[he]at h;cases h
 ·rw[asf (by omega)]at iz RV;have fc:=ZF (L:=x.aW) (k:=r.keep.length) (by omega);have h1:=RY x.gone (x.aW.drop r.keep.length) (by unfold Sm;omega);obtain⟨t2,ht2,h2⟩:=Xf ab ks x.gone (by unfold Sm;omega)
  have h3:=amn ab q (by omega) (by
   have:=CS (f:=Fa.j) (l:=q) λa ha=>(hqf a ha).2;have:q.length*20<=8*20:=Nat.mul_le_mul_right _ (by omega)
   omega) (by
    intro he;cases q with
    |nil=>simp at hql;omega
    |cons f q=>
     simp only[List.map_cons,List.flatten_cons,List.append_eq_nil_iff]at he;exact(hqf f (by simp)).1 he.1)
  have amY:(∀v∈x.gone,v∈ks)↔∀n∈x.gone,∃f,findF m.past n=aa f:=by
   simp only[eb,RZ]
  rw[amY]at ht2
  have hC:R0 m x r↔(x.gone=x.aW.drop r.keep.length/\(∀n∈x.gone,∃f,findF m.past n=aa f)/\x.ff=eO (q.map Fa.j)/\(x.failed=ab->x.made=[])/\x.made.length<=12/\EM m x):=by
   rw[iz];exact⟨λ⟨a,b,c,d⟩=>⟨a,d.g,d.j,b,c,d.m⟩,λ⟨a,b,c,d,e,f⟩=>⟨a,d,e,oX,RV,c,b,f⟩⟩
  generalize eO (q.map Fa.j)=u at h3 hC;generalize R0 m x r=O at hk bw hC;have h4:=RY x.ff u (by unfold Sm;omega);generalize hdk:x.aW.drop r.keep.length=dk at*
  have hC:=hC.symm;simp only[iL,iI]at fc;simp only[iL]at h1 fc;simp[SE.den,ai,aj,fc];refine⟨_,h1,?_⟩;cases b1:(x.gone==dk)<;>simp
  ·exact bw (cA hC λe=>by simp[e]at b1)
  have hC:=cz hC (by simpa using b1);refine⟨_,h2,?_⟩;cases t2<;>simp
  ·exact bw (cA hC λe=>by have:=ht2.2 e;cases this)
  have hC:=cz hC (ht2.1 rfl);refine⟨_,h3,_,h4,?_⟩;cases b3:(x.ff==u)<;>simp
  ·exact bw (cA hC λe=>by simp[e]at b3)
  have hC:=cz hC (by simpa using b3);have sO:∀f∈fs,Sm f.j:=λf hf=>by have:=(yy f hf).2;unfold Sm;omega
  by_cases vX:x.failed=ab
  ·left;refine⟨vX,?_⟩;by_cases y1:0<x.made.length
   ·left;exact⟨y1,bw (cA hC λe=>by simp[e vX]at y1)⟩
   have qs:x.made=[]:=List.eq_nil_of_length_eq_zero (by omega);right;refine⟨qs,?_⟩;have hC:=cz (cz hC λ_=>qs) (by omega);right;exact⟨by omega,amV hL sO x (by unfold Sm;omega) hC hk⟩
  ·right;refine⟨by simpa using vX,?_⟩;have hC:=cz hC λh=>absurd h vX;by_cases y1:12<x.made.length
   ·left;exact⟨by omega,bw (cA hC (by omega))⟩
   ·right;exact⟨by omega,amW hL sO x (by unfold Sm;omega) (cz hC (by omega)) hk⟩
theorem R4{l:List Int}:(Q2 l).length=l.length↔l.Nodup:=by
 have key:∀n,n<=l.length->((l.take n).foldl t_ []).length<=n/\(((l.take n).foldl t_ []).length=n↔(l.take n).Nodup):=λn=>by
  induction n with
  |zero=>simp
  |succ n ih=>
   intro hn;obtain⟨h1,h2⟩:=ih (by omega);have ai:n<l.length:=by omega
   have eg:∀x,x∈(l.take n).foldl t_ []↔x∈l.take n:=λx=>by
    show x∈cO [] (l.take n)↔_;rw[nT];simp
   rw[ase ai,List.foldl_append];generalize(l.take n).foldl t_ []=q at*
   show(t_ q l[n]).length<=_/\((t_ q l[n]).length=_↔_);unfold t_;by_cases hm:l[n]∈q
   ·rw[if_pos hm];refine⟨by omega,λe=>by omega,λoX=>?_⟩;rw[auq]at oX;exact absurd rfl (oX.2.2 _ ((eg _).1 hm) l[n] (by simp))
   ·rw[if_neg hm];refine⟨by simp;omega,λe=>?_,λoX=>?_⟩
    ·simp at e;exact JT (h2.1 e) λh=>hm ((eg _).2 h)
    ·rw[auq]at oX;simp;exact h2.2 oX.1
 have:=(key l.length (ar8 _)).2;rw[List.take_length]at this;exact this
theorem amZ(p:Pg)(GB:p.rules.length<=8)(hr:∀r∈p.rules,r.keep.length+r.remove.length<=3/\0<r.keep.length+r.remove.length)(hL:Lk m fs)(yy:∀f∈fs,Gd f)(x:Ap)(hx:Jw x)(ks:List Int)(eb:∀v,v∈ks↔∃f∈m.past,f.id=v)(i:Nat)(hi:i<1000)(cs ds:List (Int×Int)){g g':Int->Int}(hg:fN cs g)(hb:∀k,0<=g k/\g k<=100000)(Ez:fN ds g')(si:∀k,0<=g' k/\g' k<=100000)
 (hk:gG p m x->∀p q:List (Int×Int),fN p (λk=>g k+(x.gone.count k:Nat))->fN q (λk=>g' k+(x.made.count k:Nat))->k3 [iI (i+1:Nat),o9 p,o9 q])(hQ:¬gG p m x->Q' (iB af)):
 Rz.sat ar1 CC Q' [k0,k1,k2,k3] [aP p.decls p.rules,x1,x2,x3,x4,x5,x6,x7,x8,Dl fs,ek,iM ks,iI i,o9 cs,o9 ds,aX x]:=by
 have hxh:=hx.h;refine gr (λvs=>∃b:Bool,vs=[iB b]/\(b=ab↔gG p m x)) ?_ ?_
 ·have bw:¬gG p m x->Qa (λvs=>vs=[iB af]/\¬gG p m x\/vs=[iB ab]/\gG p m x) [IV.raw (Value.bool af)]:=λh=>.inl ⟨rfl,h⟩;have Ae:gG p m x↔gG p m x:=Iff.rfl
  conv at Ae=>lhs;unfold gG
  generalize gG p m x=O at bw Ae⊢;obtain⟨ds0,rs⟩:=p;simp only at Ae hr GB⊢;simp[SE.den,aj];by_cases y1:x.rule<0
  ·left;exact⟨y1,bw λo=>by obtain⟨k,h,e,_⟩:=Ae.2 o;omega⟩
  right;refine⟨by omega,?_⟩;by_cases y2:(rs.length:Int)<=x.rule
  ·left;exact⟨y2,bw λo=>by obtain⟨k,h,e,_⟩:=Ae.2 o;omega⟩
  right;refine⟨by omega,?_⟩;obtain⟨n,hn⟩:∃n:Nat,x.rule=n:=⟨x.rule.toNat,by omega⟩;have ai:n<rs.length:=by omega
  have hC:(x.aW.length=rs[n].keep.length+rs[n].remove.length/\R0 m x rs[n])↔O:=by
   rw[<-Ae];refine⟨λh=>⟨n,ai,hn,h⟩,λ⟨k',h',e,h⟩=>?_⟩;have:k'=n:=by omega
   subst this;exact h
  clear Ae;have sX:=yM ai;obtain⟨r1,r2⟩:=hr _ (ar5 ai);generalize hrn:rs[n]=r at*
  have hw:asC.wrap ((r.keep.length:Int)+r.remove.length)=r.keep.length+r.remove.length:=dQ (by omega) (by omega);simp only[iI]at sX;rw[<-hn]at sX;refine⟨_,sX,?_⟩;simp[aj,hw];by_cases y3:x.aW.length=r.keep.length+r.remove.length
  rotate_left
  ·left;exact⟨by omega,bw (cA hC y3)⟩
  have hC:=cz hC y3;right;refine⟨by omega,_,amg ab x.aW (by unfold Sm;omega),?_⟩;simp[lX];by_cases y4:((Q2 x.aW).length:Int)=x.aW.length
  rotate_left
  ·left;exact⟨y4,bw λo=>y4 (by have:=R4.2 (hC.2 o).2.2.2.nd;omega)⟩
  right;refine⟨y4,?_⟩;refine amX hL yy x hx r y3 (by omega) (R4.1 (by omega)) ks eb λb hb=>?_;rw[hC]at hb;cases b
  ·exact .inl ⟨rfl,λo=>by have:=hb.2 o;cases this⟩
  ·exact .inr ⟨rfl,hb.1 rfl⟩
 ·rintro vs ⟨b,rfl,cI⟩;refine⟨rfl,?_⟩;cases b<;>simp[SE.den,aj]
  ·exact hQ λo=>by have:=cI.2 o;cases this
  ·exact amU x hx i hi cs ds hg hb Ez si (hk (cI.1 rfl))
end
end Go.Proofs.YtpfogalbnijcoaaGreat
