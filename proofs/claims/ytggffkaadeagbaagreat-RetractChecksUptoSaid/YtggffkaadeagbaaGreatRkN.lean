/- A part of the proof, no condition: the entries of a log are right. -/
import Derived.Test.YtggffkaadeagbaaGreatRkJ
import Derived.Test.YtggffkaadeagbaaGreatRiP
open List renaming pairwise_iff_getElem->asM,getElem_mem->aqI,length_pos_iff->asr,take_of_length_le->aqT,take_succ_eq_append_getElem->aqR,count_append->avk,count_le_length->asF,mem_map->aq5,length_take->ar9,nodup_append->asY,filterMap_append->auU,mem_append->aqX,mem_append_left->arp,mem_append_right->arn,getElem?_map->aqU,map_map->ato,mem_of_getElem?->aqS,map_set->auK,getElem_set->avs,map_append->atI,mem_of_mem_eraseIdx->atx
open Nat renaming le_refl->aqK
open Int renaming natCast_zero->avA
open Go.IntKind renaming i64->arc
open Go.Proofs.Tryz renaming prog->aqD
open Option renaming map_eq_some_iff->aqL
open Prod renaming fst->atp
open Classical renaming not_forall->awo
set_option linter.all false
namespace Go.Proofs.YtggffkaadeagbaaGreat
open Go Go.Ev
structure oI(ds:List De)(given:Int)(f:Fa):Prop where
 a:dr f.a=true
 v:varsOf f.a.ts=[]
 d:bu ds f.a.s f.a.ts.length=true
 n:f.j≠[]
 j:JOk f.j
 g:∀j∈f.j,j≤given
structure ia(ds:List De)(next given:Int)(l:List Fa):Prop where
 i:∀f∈l,1≤f.id∧f.id<next
 f:∀f∈l,oI ds given f
 s:lU l
theorem Zw{l:List Fa}{i:Nat}(h:i<l.length)(h0:0<i)(hk:l[i].id≤l[i- 1].id):¬lU l:=fun ha=>by
 have:=asM.1 ha (i- 1) i (by omega) h (by omega);omega
theorem v39(p:Pg)(hd:Sm p.decls)(m:Me)(l:List Fa)(hl:Sm l)(hn:∀f∈l,Aq f)(hz:∀f∈l,cm f.a.ts≤1000000000000):∃b,(b=true↔ia p.decls m.next m.given l)∧CC 39 false [f_ p,gG m,kb l] (iB b):=by
 refine CC.q7 _ aos n39 t39 (by intro x hx;simp at hx;rcases hx with rfl|rfl|rfl;exact ga p;exact pj m;exact PA l) (by rfl) ?_;have CE:=fun m':ia p.decls m.next m.given l=>m'.i;have CF:=fun m':ia p.decls m.next m.given l=>m'.f;have Je:=fun m':ia p.decls m.next m.given l=>m'.s;have hO:=fun a b c=>(⟨a,b,c⟩:ia p.decls m.next m.given l);generalize ia p.decls m.next m.given l=O at CE CF Je hO⊢;obtain⟨ds,rs⟩:=p;simp only at*
 show VT.sat _ _ _ _ [.agg [eI ds,xN rs],.agg [kb m.facts,kb m.past,D3 m.log,iI m.next,iI m.given],kb l];simp[VT,SE.den,af];unfold Tb;refine ao l.length (fun i (_:Unit)=>[iI i]) (fun i _=>lU (l.take i)∧(∀f∈l.take i,1≤f.id∧f.id<m.next)∧∀f∈l.take i,oI ds m.given f) () ?_ (by simp[lU]) fun i _ hi hI=>?_
 ·simp[SE.den]
 obtain⟨nQ,jh,qO⟩:=hI;by_cases aa:i<l.length
 ·have hw:=az aa hl;have iE:=aqI aa;have vf:=hn _ iE;have h49:=v49 l[i].a vf.1.1 (vf.1.b (hz _ iE));have h50:dr l[i].a=true→CC 50 false [.agg [iS l[i].a.s,iT l[i].a.ts]] (iL (varsOf l[i].a.ts)):=fun hf=>v50 l[i].a vf.1.2.1 fun t ht=>⟨(vf.1.2.2 t ht).wf,ny hf t ht⟩;have h51:=v51 ds l[i].a.s l[i].a.ts.length hd;obtain⟨b99,Wm,h99⟩:=v99 l[i].j vf.2;have aT:=fun o=>CF o _ iE;have KO:=fun o=>CE o _ iE;simp[SE.den,aa,hw,xM aa,af];by_cases y1:l[i].id<1
  ·left;exact⟨y1,fun o=>by have:=KO o;omega⟩
  right;refine⟨by omega,?_⟩;by_cases y2:m.next≤l[i].id
  ·left;exact⟨y2,fun o=>by have:=KO o;omega⟩
  right;refine⟨by omega,?_⟩;by_cases y3:0<i
  ·left;refine⟨y3,?_⟩;have hm:=Ft y3 (Nat.le_of_lt aa) hl;have fR:i- 1<l.length:=by omega
   have hx:=xM fR;simp only[kb]at hx;simp[hm,hx,af];by_cases y4:l[i].id≤l[i- 1].id
   ·left;exact⟨y4,fun o=>Zw aa y3 y4 (Je o)⟩
   right;refine⟨by omega,?_⟩;have jo:0<i→∀h':i- 1<l.length,l[i- 1].id<l[i].id:=fun _ _=>by omega
   refine⟨_,h49,?_⟩;cases Rf:dr l[i].a<;>simp
   ·exact fun o=>by have:=(aT o).a;simp[Rf]at this
   refine⟨_,h50 Rf,?_⟩;simp;by_cases z1:varsOf l[i].a.ts=[]
   rotate_left
   ·left;exact⟨asr.2 z1,fun o=>z1 (aT o).v⟩
   right;refine⟨z1,_,h51,?_⟩;cases Zx:bu ds l[i].a.s l[i].a.ts.length<;>simp
   ·exact fun o=>by have:=(aT o).d;simp[Zx]at this
   by_cases z2:l[i].j=[]
   ·left;exact⟨z2,fun o=>(aT o).n z2⟩
   right;refine⟨z2,_,h99,?_⟩;cases b99<;>simp
   ·exact fun o=>by have:=Wm.2 (aT o).j;cases this
   have hj:=Wm.1 rfl;have hp:0<l[i].j.length:=asr.2 z2;have j0:dx 1 (iL l[i].j) (iI 0)=some (iI l[i].j[0]):=dC (l:=l[i].j) (i:=0) hp;have j1:=dC (l:=l[i].j) (i:=l[i].j.length- 1) (by omega);have jw:=Ft hp (aqK _) vf.2;have XL:=hj.1 _ (aqI (l:=l[i].j) (n:=0) hp);simp only[iL,avA]at j0 j1;simp[j0,j1,jw];right;refine⟨by omega,?_⟩;by_cases z4:m.given<l[i].j[l[i].j.length- 1]
   ·left;exact⟨z4,fun o=>by have:=(aT o).g _ (aqI (l:=l[i].j) (n:=l[i].j.length- 1) (by omega));omega⟩
   right;exact⟨by omega,.mk () rfl (by omega) ⟨Hc aa nQ jo,ay (p:=fun f:Fa=>1≤f.id∧f.id<m.next) aa jh ⟨by omega,by omega⟩,ay aa qO ⟨Rf,z1,Zx,z2,hj,fun j fJ=>by have:=Hb hj.2 (by omega) j fJ;omega⟩⟩⟩
  ·right;refine⟨by omega,?_⟩;have jo:0<i→∀h':i- 1<l.length,l[i- 1].id<l[i].id:=fun h=>absurd h y3;refine⟨_,h49,?_⟩;cases Rf:dr l[i].a<;>simp
   ·exact fun o=>by have:=(aT o).a;simp[Rf]at this
   refine⟨_,h50 Rf,?_⟩;simp;by_cases z1:varsOf l[i].a.ts=[]
   rotate_left
   ·left;exact⟨asr.2 z1,fun o=>z1 (aT o).v⟩
   right;refine⟨z1,_,h51,?_⟩;cases Zx:bu ds l[i].a.s l[i].a.ts.length<;>simp
   ·exact fun o=>by have:=(aT o).d;simp[Zx]at this
   by_cases z2:l[i].j=[]
   ·left;exact⟨z2,fun o=>(aT o).n z2⟩
   right;refine⟨z2,_,h99,?_⟩;cases b99<;>simp
   ·exact fun o=>by have:=Wm.2 (aT o).j;cases this
   have hj:=Wm.1 rfl;have hp:0<l[i].j.length:=asr.2 z2;have j0:dx 1 (iL l[i].j) (iI 0)=some (iI l[i].j[0]):=dC (l:=l[i].j) (i:=0) hp;have j1:=dC (l:=l[i].j) (i:=l[i].j.length- 1) (by omega);have jw:=Ft hp (aqK _) vf.2;have XL:=hj.1 _ (aqI (l:=l[i].j) (n:=0) hp);simp only[iL,avA]at j0 j1;simp[j0,j1,jw];right;refine⟨by omega,?_⟩;by_cases z4:m.given<l[i].j[l[i].j.length- 1]
   ·left;exact⟨z4,fun o=>by have:=(aT o).g _ (aqI (l:=l[i].j) (n:=l[i].j.length- 1) (by omega));omega⟩
   right;exact⟨by omega,.mk () rfl (by omega) ⟨Hc aa nQ jo,ay (p:=fun f:Fa=>1≤f.id∧f.id<m.next) aa jh ⟨by omega,by omega⟩,ay aa qO ⟨Rf,z1,Zx,z2,hj,fun j fJ=>by have:=Hb hj.2 (by omega) j fJ;omega⟩⟩⟩
 ·rw[aqT (by omega)]at nQ jh qO;simp[SE.den,aa];exact hO jh qO nQ
def ft(ls:List (List Int))(id:Int):Nat:=ls.flatten.count id
theorem za{ls:List (List Int)}{i:Nat}(h:i<ls.length)(id:Int):ft (ls.take (i+1)) id=ft (ls.take i) id+ls[i].count id:=by
 unfold ft;rw[aqR h,List.flatten_append,avk];simp
theorem Hp{l:List Int}{i:Nat}(h:i<l.length)(id:Int):(l.take (i+1)).count id=(l.take i).count id+if l[i]=id then 1 else 0:=by
 rw[aqR h,avk];congr 1;by_cases z:l[i]=id
 ·simp[z]
 ·rw[if_neg z,List.count_eq_zero];simpa using fun h=>z h.symm
theorem FC(ls:List (List Int))(id:Int)(hl:ls.length≤100)(h:∀l∈ls,l.length≤100):∀i,ft (ls.take i) id≤100*i
 |0=>by simp[ft]
 |i+1=>by
  have ih:=FC ls id hl h i;by_cases aa:i<ls.length
  ·rw[za aa];have:=h _ (aqI aa);have:=asF (a:=id) (l:=ls[i]);omega
  ·rw[aqT (by omega)]at ih⊢;omega
theorem v42(l:List Ap)(id:Int)(made:Bool)(hl:l.length≤100)(hx:∀x∈l,x.made.length≤100∧x.gone.length≤100):CC 42 false [D3 l,iI id,iB made] (iI ((ft (l.map fun x=>if made then x.made else x.gone) id:Nat):Int)):=by
 refine CC.abw aow n42 t42 (by simp) (by rfl) ?_;generalize hL:(l.map fun x=>if made then x.made else x.gone)=L;have hLl:L.length=l.length:=by rw[←hL];simp
 have hle:=FC L id (by omega) fun y hy=>by
  rw[←hL]at hy;obtain⟨x,ib,rfl⟩:=aq5.1 hy;have:=hx x ib;cases made<;>simp<;>omega
 simp[acw,Tj,SE.den,af];refine ao l.length (fun i (a:Int)=>[iI i,iI a]) (fun i a=>a=(ft (L.take i) id:Nat)) 0 ?_ (by simp[ft]) fun i a hi hI=>?_
 ·simp[SE.den]
 by_cases aa:i<l.length
 ·have hw:=az aa (by omega);obtain⟨w3,w2⟩:=hx _ (aqI aa);have Gf:=za (ls:=L) (i:=i) (by omega) id;have uj:L[i]'(by omega)=if made then l[i].made else l[i].gone:=by simp[←hL]
  have hb:=hle i;rw[uj]at Gf;simp[SE.den,aa,aa3 aa,af];cases made with
  |true=>
   simp at Gf⊢;unfold Th;refine ao l[i].made.length (fun i (a:Int)=>[iI i,iI a]) (fun j b=>b=a+((l[i].made.take j).count id:Nat)) a ?_ (by simp) fun j b hj hJ=>?_
   ·simp[SE.den]
   by_cases dX:j<l[i].made.length
   ·have NT:=az dX (by omega);have gm:=Hp dX id;have dU:=asF (a:=id) (l:=l[i].made.take j);rw[ar9]at dU;have hwb:arc.wrap (b+1)=b+1:=dL (by omega) (by omega);simp[SE.den,dX,NT,dC dX];by_cases z:l[i].made[j]=id
    ·left;exact⟨z,.mk (b+1) (by rw[hwb];rfl) (by omega) (by rw[gm,if_pos z];omega)⟩
    ·right;exact⟨z,.mk b rfl (by omega) (by rw[gm,if_neg z];omega)⟩
   ·rw[aqT (by omega)]at hJ;simp[SE.den,dX,hw];exact .mk b (by simp) (by omega) (by rw[Gf];omega)
  |false=>
   simp at Gf⊢;unfold Ti;refine ao l[i].gone.length (fun i (a:Int)=>[iI i,iI a]) (fun j b=>b=a+((l[i].gone.take j).count id:Nat)) a ?_ (by simp) fun j b hj hJ=>?_
   ·simp[SE.den]
   by_cases dX:j<l[i].gone.length
   ·have NT:=az dX (by omega);have gm:=Hp dX id;have dU:=asF (a:=id) (l:=l[i].gone.take j);rw[ar9]at dU;have hwb:arc.wrap (b+1)=b+1:=dL (by omega) (by omega);simp[SE.den,dX,NT,dC dX];by_cases z:l[i].gone[j]=id
    ·left;exact⟨z,.mk (b+1) (by rw[hwb];rfl) (by omega) (by rw[gm,if_pos z];omega)⟩
    ·right;exact⟨z,.mk b rfl (by omega) (by rw[gm,if_neg z];omega)⟩
   ·rw[aqT (by omega)]at hJ;simp[SE.den,dX,hw];exact .mk b (by simp) (by omega) (by rw[Gf];omega)
 ·rw[aqT (by omega)]at hI;simp[SE.den,aa];exact hI
end Go.Proofs.YtggffkaadeagbaaGreat
namespace Go.Proofs.YtggffkaadeagbaaGreat
open Go Go.Ev
theorem apn(a b:List Int)(hl:Sm a):CC 53 true [iL a,iL b] (iB (a==b)):=by
 refine CC.gF akF n53 t53 (by simp) (by rfl) ?_;generalize hS:(a==b)=S;simp[YM,SE.den,af,aw];by_cases z:a.length=b.length
 rotate_left
 ·left;refine⟨by omega,?_⟩;subst S;simp;exact fun e=>z (by rw[e])
 right;refine⟨by omega,?_⟩;unfold Qa;refine ao a.length (fun i (_:Unit)=>[iI i]) (fun i _=>a.take i=b.take i) () ?_ (by simp) fun i _ hi hI=>?_
 ·simp[SE.den]
 by_cases aa:i<a.length
 ·have hw:=az aa hl;have dX:i<b.length:=by omega
  simp[SE.den,aa,hw,dC aa,dC dX,aw];by_cases z:a[i]=b[i]
  ·right;exact⟨z,.mk () rfl (by omega) (by rw[aqR aa,aqR dX,hI,z])⟩
  ·left;refine⟨z,?_⟩;subst S;simp;exact fun e=>z (by subst e;rfl)
 ·rw[aqT (by omega),aqT (by omega)]at hI;simp[SE.den,aa,aw];subst S;simp[hI]
structure Rg(m:Me)(x:Ap):Prop where
 nd:x.bw.Nodup
 hd:∀n∈x.bw,∃f,cJ m n=some f
 j:x.fV=eJ ((x.bw.filterMap (cJ m)).map Fa.j)
 g:∀n∈x.gone,∃f,findF m.past n=some f
 m:∀n∈x.made,∃f,cJ m n=some f∧f.j=x.fV
theorem Jj{l:List Int}{n:Int}(h:l.Nodup)(h1:n∉l):(l++[n]).Nodup:=by
 rw[asY];exact⟨h,by simp,fun a ha b hb=>by simp at hb;subst hb;exact fun e=>h1 (e▸ha)⟩
theorem abz{l:List Int}{i:Nat}(h:i<l.length)(hm:l[i]∈l.take i):¬l.Nodup:=fun hn=>by
 have h0:(l.take i++l.drop i).Nodup:=by rw[List.take_append_drop];exact hn
 rw[asY,List.drop_eq_getElem_cons h]at h0;exact h0.2.2 _ hm _ List.mem_cons_self rfl
section
variable{k0 k1 k2:List IV→Prop}{O:Prop}
abbrev EM(m:Me)(x:Ap):Prop:=∀n∈x.made,∃f,cJ m n=some f∧f.j=x.fV
abbrev EG(m:Me)(x:Ap):Prop:=(∀n∈x.gone,∃f,findF m.past n=some f)∧EM m x
theorem al1{x0 x3 x4 x5 x6 x7 x8 x9 eh:IV}(m:Me)(hm:Cy m)(x:Ap)(hx:IY x)(hR:EM m x↔O):
 Td.sat aqD CC (nu fun b=>b=true↔O) [k0,k1] [x0,gG m,kF x,x3,x4,x5,x6,x7,x8,x9,eh]:=by
 refine ao x.made.length (fun i (_:Unit)=>[iI i]) (fun i _=>∀n∈x.made.take i,∃f,cJ m n=some f∧f.j=x.fV) () ?_ (by simp) fun i _ hi hI=>?_
 ·simp[SE.den]
 have T_:=hx.m;by_cases aa:i<x.made.length
 ·have hw:=az aa (by omega);have iE:=aqI aa;have rE:=agw m x.made[i] hm.w;simp only[gG]at rE;cases he:cJ m x.made[i]with
  |none=>
   rw[he]at rE;simp only[qt,eT]at rE;simp[SE.den,gG,kF,aa,dC aa,af];refine⟨_,rE,?_⟩;simp[af];exact fun o=>by obtain⟨f,h,_⟩:=hR.2 o _ iE;rw[he]at h;cases h
  |some f=>
   rw[he]at rE;simp only[qt,eT]at rE;have hj:=hm.j f (zr he);have Ua:=c53 f.j x.fV (by unfold Sm;omega);simp[SE.den,gG,kF,aa,dC aa,af];refine⟨_,rE,?_⟩;simp[af];refine⟨_,Ua,?_⟩;cases hb:(f.j==x.fV)<;>simp[hw]
   ·exact fun o=>by obtain⟨g,h,h'⟩:=hR.2 o _ iE;rw[he]at h;cases h;simp[h']at hb
   exact .mk () rfl (by omega) (ay (p:=fun n=>∃f,cJ m n=some f∧f.j=x.fV) aa hI ⟨f,he,by simpa using hb⟩)
 ·simp[SE.den,kF,aa];exact hR.1 (aF aa hI)
theorem al2{x0 x3 x4 x5 x6 x7 x8 x9:IV}(m:Me)(hm:Cy m)(x:Ap)(hx:IY x)(hR:EG m x↔O):
 Te.sat aqD CC (nu fun b=>b=true↔O) [k0] [x0,gG m,kF x,x3,x4,x5,x6,x7,x8,x9]:=by
 refine ao x.gone.length (fun i (_:Unit)=>[iI i]) (fun i _=>∀n∈x.gone.take i,∃f,findF m.past n=some f) () ?_ (by simp) fun i _ hi hI=>?_
 ·simp[SE.den]
 have T_:=hx.g;by_cases aa:i<x.gone.length
 ·have hw:=az aa (by omega);have iE:=aqI aa;have MG:=c41 m.past x.gone[i] hm.w.sp;cases he:findF m.past x.gone[i]with
  |none=>
   rw[he]at MG;simp only[qt,eT]at MG;simp[SE.den,gG,kF,aa,dC aa,af];refine⟨_,MG,?_⟩;simp[af];exact cw hR fun q=>by obtain⟨f,h⟩:=q _ iE;rw[he]at h;cases h
  |some f=>
   rw[he]at MG;simp only[qt,eT]at MG;simp[SE.den,gG,kF,aa,dC aa,af];refine⟨_,MG,?_⟩;simp[af,hw];exact .mk () rfl (by omega) (ay (p:=fun n=>∃f,findF m.past n=some f) aa hI ⟨f,he⟩)
 ·have hI:=aF aa hI;have:=al1 (k0:=k0) (k1:=Pw x.gone.length (fun i (_:Unit)=>[iI i]) (fun i _=>∀n∈x.gone.take i,∃f,findF m.past n=some f) i) (x0:=x0) (x3:=x3) (x4:=x4) (x5:=x5) (x6:=x6) (x7:=x7) (x8:=x8) (x9:=x9) (eh:=iI i) m hm x hx (cu hR hI);simp[SE.den,kF,aa];exact this
theorem al3{x0 x3 x4 x5:IV}(m:Me)(hm:Cy m)(x:Ap)(hx:IY x)(hR:Rg m x↔O):
 Fs.sat aqD CC (nu fun b=>b=true↔O) [] [x0,gG m,kF x,x3,x4,x5]:=by
 refine ao x.bw.length (fun i (a:List Fa)=>[iI i,kb a]) (fun i a=>a=(x.bw.take i).filterMap (cJ m)∧(x.bw.take i).Nodup∧(∀n∈x.bw.take i,∃f,cJ m n=some f)∧a.length≤i∧∀f∈a,f.j.length≤20) [] ?_ (by simp) fun i a hi hI=>?_
 ·simp[SE.den]
 obtain⟨ig,hIn,Rh,nQ,jh⟩:=hI;have T_:=hx.h;by_cases aa:i<x.bw.length
 ·have hw:=az aa (by omega);have iE:=aqI aa;have rE:=agw m x.bw[i] hm.w;simp only[gG]at rE;cases he:cJ m x.bw[i]with
  |none=>
   rw[he]at rE;simp only[qt,eT]at rE;simp[SE.den,gG,kF,aa,dC aa,af];refine⟨_,rE,?_⟩;simp[af];exact fun o=>by obtain⟨f,h⟩:=(hR.2 o).hd _ iE;rw[he]at h;cases h
  |some f=>
   rw[he]at rE;simp only[qt,eT]at rE;have hj:=hm.j f (zr he);have eY:=Qc (L:=x.bw) (k:=i) (by omega);have h94:=an_ (x.bw.take i) x.bw[i] (by unfold Sm;simp;omega);have AI:=Ya (a:=a) f (by omega)
   have hfm:(x.bw.take (i+1)).filterMap (cJ m)=a++[f]:=by
    rw[aqR aa,auU,←ig];simp[he]
   have oD:x.bw[i]∉x.bw.take i→(x.bw.take (i+1)).Nodup:=fun h=>by
    rw[aqR aa];exact Jj hIn h
   have bx:x.bw[i]∈x.bw.take i→¬O:=fun h o=>abz aa h (hR.2 o).nd;have cg:=ay (p:=fun n=>∃f,cJ m n=some f) aa Rh ⟨f,he⟩;have Gf:(x.bw.take i).contains x.bw[i]=true↔x.bw[i]∈x.bw.take i:=by simp
   generalize x.bw.take i=tk at eY h94 oD bx Gf;generalize tk.contains x.bw[i]=bb at h94 Gf;have dU:(a++[f]).length≤i+1:=by simp;omega
   have hcj:∀g∈a++[f],g.j.length≤20:=fun g hg=>by
    rcases aqX.1 hg with hg|hg
    ·exact jh g hg
    ·simp at hg;subst hg;exact hj
   generalize a++[f]=a' at AI dU hcj hfm;simp only[iL,kb]at eY AI;simp[SE.den,gG,kF,aa,dC aa,af];refine⟨_,rE,?_⟩;simp[af,eY];refine⟨_,h94,?_⟩;cases bb<;>simp[hw,AI,cellsOf]
   ·exact .mk a' (by simp) (by omega) ⟨hfm.symm,oD (fun h=>(by have:=Gf.2 h;cases this)),cg,dU,hcj⟩
   ·exact bx (Gf.1 rfl)
 ·rw[aqT (by omega)]at ig hIn Rh;obtain⟨hv,apo⟩:=al0 a (by omega) jh;have hxj:=hx.j;have Ua:=c53 x.fV (eJ (a.map Fa.j)) (by unfold Sm;omega);have hj:=fun o=>(hR.2 o).j;have N9:x.fV=eJ (a.map Fa.j)→(EG m x↔O):=fun e=>⟨fun h=>hR.1 ⟨hIn,Rh,by rw[←ig];exact e,h.1,h.2⟩,fun o=>⟨(hR.2 o).g,(hR.2 o).m⟩⟩;rw[←ig]at hj;generalize eJ (a.map Fa.j)=v at*
  have h1:=fun hG=>al2 (O:=O) (k0:=Pw x.bw.length (fun i (a:List Fa)=>[iI i,kb a]) (fun i a=>a=(x.bw.take i).filterMap (cJ m)∧(x.bw.take i).Nodup∧(∀n∈x.bw.take i,∃f,cJ m n=some f)∧a.length≤i∧∀f∈a,f.j.length≤20) i) (x0:=x0) (x3:=x3) (x4:=x4) (x5:=x5) (x6:=iI i) (x7:=kb a) (x8:=iL v) (x9:=iB (x.fV==v)) m hm x hx hG;simp[SE.den,kF,aa];refine⟨_,apo,?_⟩;simp;refine⟨_,Ua,?_⟩;cases hb:(x.fV==v)<;>simp
  ·exact fun o=>by simp[hj o]at hb
  rw[hb]at h1;exact h1 (N9 (by simpa using hb))
end
def gw(p:Pg)(m:Me)(x:Ap):Prop:=∃(k:Nat) (h:k<p.rules.length),x.rule=(k:Int)∧x.bw.length=p.rules[k].keep.length+p.rules[k].remove.length∧x.gone=x.bw.drop p.rules[k].keep.length∧(x.failed=true→x.made=[])∧x.made.length≤12∧Rg m x
theorem v40(p:Pg)(hp:Ao p)(m:Me)(hm:Cy m)(x:Ap)(hx:IY x):∃b,(b=true↔gw p m x)∧CC 40 false [f_ p,gG m,kF x] (iB b):=by
 refine CC.q7 _ aou n40 t40 (by intro y hy;simp at hy;rcases hy with rfl|rfl|rfl;exact ga p;exact pj m;exact X_ x) (by rfl) ?_;have hO:gw p m x↔gw p m x:=Iff.rfl;generalize zb:gw p m x=O at hO⊢;have e52:Tf=Fs:=rfl;have h2:(Rg m x↔O)→∀x0 x3 x4 x5,Fs.sat aqD CC (nu fun b=>b=true↔O) [] [x0,gG m,kF x,x3,x4,x5]:=fun h _ _ _ _=>al3 m hm x hx h;unfold gw at zb;obtain⟨ds,rs⟩:=p;obtain⟨hd,hr,dn,vn,C5⟩:=hp;have hxh:=hx.h;have hxg:=hx.g;have T_:=hx.m;generalize Rg m x=B at h2 zb;obtain⟨rule,bw,gone,made,failed,fV⟩:=x;simp only[gG,kF]at*
 show VU.sat _ _ _ _ [.agg [eI ds,xN rs],_,_];simp[VU,SE.den,af,e52];by_cases z0:rule<0
 ·left;exact⟨z0,by rw[←zb];rintro⟨k,h,e,_⟩;omega⟩
 right;refine⟨by omega,?_⟩;by_cases z1:(rs.length:Int)≤rule
 ·left;exact⟨z1,by rw[←zb];rintro⟨k,h,e,_⟩;omega⟩
 right;refine⟨by omega,?_⟩;obtain⟨k,rfl⟩:∃k:Nat,rule=(k:Int):=⟨rule.toNat,by omega⟩;have hk:k<rs.length:=by omega
 have xV:(bw.length=rs[k].keep.length+rs[k].remove.length∧gone=bw.drop rs[k].keep.length∧(failed=true→made=[])∧made.length≤12∧B)↔O:=by
  rw[←zb];refine⟨fun h=>⟨k,hk,rfl,h⟩,fun⟨k',h',e,h⟩=>?_⟩;have:k'=k:=by omega
  subst this;exact h
 clear zb hO;have mO:=(vn _ (aqI hk)).h;have si:=Ha hk;simp only[xN]at si;have YT:arc.wrap ((rs[k].keep.length:Int)+(rs[k].remove.length:Int))=rs[k].keep.length+rs[k].remove.length:=dL (by omega) (by omega);simp[si,af,YT];by_cases z2:(bw.length:Int)=rs[k].keep.length+rs[k].remove.length
 rotate_left
 ·left;exact⟨z2,cw xV fun h=>z2 (by omega)⟩
 right;refine⟨z2,?_⟩;have xV:=cu xV (by omega);have eY:=YO (L:=bw) (k:=rs[k].keep.length) (by omega);have Ua:=apn gone (bw.drop rs[k].keep.length) (by unfold Sm;omega);generalize bw.drop rs[k].keep.length=dk at eY Ua xV;simp only[iL]at eY;simp[eY];refine⟨_,Ua,?_⟩;cases b53:(gone==dk)<;>simp
 ·exact cw xV fun h=>by simp[h]at b53
 have xV:=cu xV (by simpa using b53);cases failed<;>simp
 ·have xV:=cu xV (fun h=>by cases h);by_cases z4:12<made.length
  ·left;exact⟨by omega,cw xV (by omega)⟩
  ·right;exact⟨by omega,h2 (cu xV (by omega)) _ _ _ _⟩
 ·by_cases z3:0<made.length
  ·left;exact⟨z3,cw xV fun h=>by simp[h rfl]at z3⟩
  right;have pX:made=[]:=by simpa using z3
  have xV:=cu xV (fun _=>pX);refine⟨pX,?_⟩;right;exact⟨by omega,h2 (cu xV (by omega)) _ _ _ _⟩
end Go.Proofs.YtggffkaadeagbaaGreat
namespace Go.Proofs.YtggffkaadeagbaaGreat
open Go Go.Ev
structure kJ(p:Pg)(m:Me):Prop where
 c:MF p
 n:1≤m.next∧m.next≤2147483648
 g:0≤m.given∧m.given≤64
 f:ia p.decls m.next m.given m.facts
 q:ia p.decls m.next m.given m.past
 l:∀x∈m.log,gw p m x
 d:∀f∈m.facts,findF m.past f.id=none∧ft (m.log.map Ap.made) f.id≤1
 e:∀f∈m.past,ft (m.log.map Ap.gone) f.id=1∧ft (m.log.map Ap.made) f.id≤1
def SzM(m:Me):Prop:=∀f∈m.facts++m.past,cm f.a.ts≤1000000000000
def SzP(p:Pg):Prop:=∀r∈p.rules,SzR r
theorem v14(p:Pg)(hp:Ao p)(hz:SzP p)(m:Me)(hm:Cy m)(hn:∀f∈m.facts++m.past,Aq f)(hzm:SzM m):∃b,(b=true↔kJ p m)∧CC 14 false [f_ p,gG m] (iB b):=by
 refine CC.q7 _ aoh n14 t14 (by intro y hy;simp at hy;rcases hy with rfl|rfl;exact ga p;exact pj m) (by rfl) ?_;have hf:=hm.f;have nC:=hm.p;have hl:=hm.l;have H3:=v12 p hp hz;obtain⟨b39,abA,h39⟩:=v39 p (by have:=hp.d;unfold Sm;omega) m m.facts (by unfold Sm;omega) (fun f hf=>hn f (arp _ hf)) fun f hf=>hzm f (arp _ hf);obtain⟨c39,abB,g39⟩:=v39 p (by have:=hp.d;unfold Sm;omega) m m.past (by unfold Sm;omega) (fun f hf=>hn f (arn _ hf)) fun f hf=>hzm f (arn _ hf);have h40:=fun x hx=>v40 p hp m hm x (hm.x x hx);have h42:=fun id made=>v42 m.log id made (by omega) fun x hx=>by have:=(hm.x x hx).m;have:=(hm.x x hx).g;omega
 have abC:∀id,CC 42 false [D3 m.log,iI id,iB true] (iI ((ft (m.log.map Ap.made) id:Nat):Int)):=fun id=>h42 id true;have ahU:∀id,CC 42 false [D3 m.log,iI id,iB false] (iI ((ft (m.log.map Ap.gone) id:Nat):Int)):=fun id=>h42 id false;clear h42;have MG:=fun id=>c41 m.past id (by unfold Sm;omega);have o1:=fun o:kJ p m=>xU.2 o.c;have o2:=fun o:kJ p m=>o.n;have o3:=fun o:kJ p m=>o.g;have o4:=fun o:kJ p m=>o.f;have o5:=fun o:kJ p m=>o.q;have o6:=fun o:kJ p m=>o.l;have o7:=fun o:kJ p m=>o.d;have o8:=fun o:kJ p m=>o.e;have oo:=fun(c0:pC p=0) b c d e f g h=>(⟨xU.1 c0,b,c,d,e,f,g,h⟩:kJ p m);generalize kJ p m=O at o1 o2 o3 o4 o5 o6 o7 o8 oo⊢;generalize pC p=N at H3 o1 oo;generalize ia p.decls m.next m.given m.facts=F1 at o4 oo abA;generalize ia p.decls m.next m.given m.past=F2 at o5 oo abB;generalize gw p m=EE at o6 oo h40;obtain⟨ds,rs⟩:=p;obtain⟨mf,mp,ml,mn,mg⟩:=m;simp only[f_,gG]at*
 generalize ft (ml.map Ap.made)=cM at abC o7 o8 oo;generalize ft (ml.map Ap.gone)=cG at ahU o8 oo;show VP.sat _ _ _ _ [.agg [eI ds,xN rs],_];have YT:arc.wrap ((mf.length:Int)+(mp.length:Int))=mf.length+mp.length:=dL (by omega) (by omega);simp[VP,SE.den,af,xO];refine⟨_,H3,?_⟩;simp[xO];by_cases z0:N=0
 rotate_left
 ·left;exact⟨z0,fun o=>z0 (o1 o)⟩
 right;refine⟨z0,?_⟩;by_cases z1:mn<1
 ·left;exact⟨z1,fun o=>by have:=o2 o;omega⟩
 right;refine⟨by omega,?_⟩;by_cases z2:2147483648<mn
 ·left;exact⟨z2,fun o=>by have:=o2 o;omega⟩
 right;refine⟨by omega,?_⟩;by_cases z3:mg<0
 ·left;exact⟨z3,fun o=>by have:=o3 o;omega⟩
 right;refine⟨by omega,?_⟩;by_cases z4:64<mg
 ·left;exact⟨z4,fun o=>by have:=o3 o;omega⟩
 right;refine⟨by omega,?_⟩;right;refine⟨by omega,?_⟩;simp[YT];right;refine⟨by omega,?_⟩;refine⟨_,h39,?_⟩;cases b39<;>simp
 ·exact fun o=>by have:=abA.2 (o4 o);cases this
 refine⟨_,g39,?_⟩;cases c39<;>simp
 ·exact fun o=>by have:=abB.2 (o5 o);cases this
 unfold S4;refine ao ml.length (fun i (_:Unit)=>[iI i]) (fun i _=>∀x∈ml.take i,EE x) () ?_ (by simp) fun i _ hi hL=>?_
 ·simp[SE.den]
 by_cases aa:i<ml.length
 ·have hw:=az aa (by omega);obtain⟨b,hbj,hb⟩:=h40 _ (aqI aa);simp only[kF]at hb;simp[SE.den,aa,hw,aa3 aa,af];refine⟨_,hb,?_⟩;cases b<;>simp
  ·exact fun o=>by have:=hbj.2 (o6 o _ (aqI aa));cases this
  exact .mk () rfl (by omega) (ay aa hL (hbj.1 rfl))
 have hL:=aF aa hL;simp[SE.den,aa];unfold S3;refine ao mf.length (fun i (_:Unit)=>[iI i]) (fun i _=>∀f∈mf.take i,findF mp f.id=none∧cM f.id≤1) () ?_ (by simp) fun i1 _ N3 hI=>?_
 ·simp[SE.den]
 by_cases dY:i1<mf.length
 ·have hw:=az dY (by omega);have Ri:=abC mf[i1].id;have KF:=MG mf[i1].id;have bx:=fun o=>o7 o _ (aqI dY);have cg:=fun a=>ay (p:=fun f:Fa=>findF mp f.id=none∧cM f.id≤1) dY hI a;cases he:findF mp mf[i1].id with
  |some f=>
   rw[he]at KF;simp only[qt,eT]at KF;simp[SE.den,dY,xM dY,af];refine⟨_,KF,?_⟩;simp[af];exact fun o=>by have:=(bx o).1;rw[he]at this;cases this
  |none=>
   rw[he]at KF;simp only[qt,eT]at KF;generalize cM mf[i1].id=n at Ri bx cg;simp[SE.den,dY,xM dY,af];refine⟨_,KF,?_⟩;simp[af,hw];refine⟨_,Ri,?_⟩;simp;by_cases z:1<n
   ·left;exact⟨by omega,fun o=>by have:=(bx o).2;omega⟩
   ·right;exact⟨by omega,.mk () rfl (by omega) (cg ⟨he,by omega⟩)⟩
 have hD:=aF dY hI;simp[SE.den,dY];unfold S2;refine ao mp.length (fun i (_:Unit)=>[iI i]) (fun i _=>∀f∈mp.take i,cG f.id=1∧cM f.id≤1) () ?_ (by simp) fun i0 _ Cg ig=>?_
 ·simp[SE.den]
 by_cases jH:i0<mp.length
 ·have hw:=az jH (by omega);have Ri:=ahU mp[i0].id;have ahV:=abC mp[i0].id;have bx:=fun o=>o8 o _ (aqI jH);have cg:=fun a=>ay (p:=fun f:Fa=>cG f.id=1∧cM f.id≤1) jH ig a;generalize cG mp[i0].id=n at Ri bx cg;generalize cM mp[i0].id=n2 at ahV bx cg;simp[SE.den,jH,xM jH,af];refine⟨_,Ri,?_⟩;simp[hw];by_cases z:n=1
  rotate_left
  ·left;exact⟨by omega,fun o=>z (bx o).1⟩
  right;refine⟨by omega,_,ahV,?_⟩;simp;by_cases z':1<n2
  ·left;exact⟨by omega,fun o=>by have:=(bx o).2;omega⟩
  ·right;exact⟨by omega,.mk () rfl (by omega) (cg ⟨z,by omega⟩)⟩
 ·simp[SE.den,jH];exact oo z0 (by omega) (by omega) (abA.1 rfl) (abB.1 rfl) hL hD (aF jH ig)
end Go.Proofs.YtggffkaadeagbaaGreat
namespace Go.Proofs.YtggffkaadeagbaaGreat
open Go Go.Ev
theorem ac2(ds:List (Int×IV))(k:Int):(∃i v,fa aqD 3 (ds.map Hi) (iI k)=some (some i)∧ds[i]?=some (k,v))∨(fa aqD 3 (ds.map Hi) (iI k)=some none∧k∉ds.map (·.1)):=by
 have h:fa aqD 3 (ds.map Hi) (iI k)=fa aqD 3 ((ds.map (·.1)).map mb) (iI k):=by
  unfold fa;rw[acT]
 rw[h];by_cases hm:k∈ds.map (·.1)
 ·left;obtain⟨i,g1,g2⟩:=(pn _ k).1 hm;rw[aqU]at g2;obtain⟨⟨a,v⟩,g3,g4⟩:=aqL.1 g2;simp only at g4;subst g4;exact⟨i,v,g1,g3⟩
 ·right;exact⟨(pn _ k).2 hm,hm⟩
theorem Jk(fs:List Fa)(k:Int):(∃i f,f∈fs∧fa aqD 3 (fs.map zw) (iI k)=some (some i)∧fs[i]?=some f∧f.id=k)∨(fa aqD 3 (fs.map zw) (iI k)=some none∧∀f∈fs,f.id≠k):=by
 have hm:fs.map zw=(fs.map fun f=>(f.id,eT f)).map Hi:=by rw[ato];rfl
 rw[hm];rcases ac2 (fs.map fun f=>(f.id,eT f)) k with⟨i,v,g1,g2⟩|⟨g,g'⟩
 ·left;rw[aqU]at g2;obtain⟨f,g3,g4⟩:=aqL.1 g2;exact⟨i,f,aqS g3,g1,g3,congrArg atp g4⟩
 ·refine .inr ⟨g,fun f hf e=>g' ?_⟩;rw[ato];exact aq5.2 ⟨f,hf,e⟩
structure fI(cs:List (Int×Int))(g:Int→Int):Prop where
 n:(cs.map (·.1)).Nodup
 v:∀c∈cs,c.2=g c.1
 k:∀k,k∉cs.map (·.1)→g k=0
theorem Wn{cs:List (Int×Int)}{g:Int→Int}(h:fI cs g)(k:Int):(∃i,fa aqD 3 (cs.map nw) (iI k)=some (some i)∧cs[i]?=some (k,g k))∨(fa aqD 3 (cs.map nw) (iI k)=some none∧k∉cs.map (·.1)∧g k=0):=by
 have hm:cs.map nw=(cs.map fun c=>(c.1,iI c.2)).map Hi:=by rw[ato];rfl
 rw[hm];rcases ac2 (cs.map fun c=>(c.1,iI c.2)) k with⟨i,v,g1,g2⟩|⟨g1,g2⟩
 ·left;rw[aqU]at g2;obtain⟨⟨a,c⟩,g3,g4⟩:=aqL.1 g2;have:a=k:=congrArg atp g4;subst this;have hv:=h.v _ (aqS g3);simp only at hv;exact⟨i,g1,hv▸g3⟩
 ·have g3:k∉cs.map (·.1):=by rw[ato]at g2;exact g2
  exact .inr ⟨g1,g3,h.k k g3⟩
theorem fI.set{cs:List (Int×Int)}{g g':Int→Int}(h:fI cs g){i:Nat}{k:Int}(hi:cs[i]?=some (k,g k))(hg:∀x,g' x=if x=k then g k+1 else g x):fI (cs.set i (k,g' k)) g':=by
 have cT:=List.getElem?_eq_some_iff.1 hi
 have ac3:(cs.set i (k,g' k)).map (·.1)=cs.map (·.1):=by
  rw[auK];refine List.ext_getElem (by simp) fun j h1 h2=>?_;rw[avs];split
  ·subst i;rw[List.getElem_map];rw[cT.2]
  ·rfl
 refine⟨by rw[ac3];exact h.n,fun c hc=>?_,fun x hx=>?_⟩
 ·obtain⟨j,hj,rfl⟩:=List.getElem_of_mem hc;rw[avs];split
  ·rfl
  ·rename_i aT;have fJ:j<cs.length:=by simpa using hj
   have hv:=h.v _ (aqI fJ);obtain⟨Cf,tL⟩:=cT
   have tJ:cs[j].1≠k:=fun e=>by
    have hp:=asM.1 h.n;rcases Nat.lt_or_gt_of_ne aT with aa|aa
    ·exact hp i j (by simpa using Cf) (by simpa using fJ) aa (by simp[tL,e])
    ·exact hp j i (by simpa using fJ) (by simpa using Cf) aa (by simp[tL,e])
   exact hv.trans (by rw[hg,if_neg tJ])
 ·rw[ac3]at hx;have hk:x≠k:=fun e=>hx (by rw[e];exact aq5.2 ⟨_,aqS hi,rfl⟩);rw[hg,if_neg hk];exact h.k x hx
theorem fI.add{cs:List (Int×Int)}{g g':Int→Int}(h:fI cs g){k:Int}(hk:k∉cs.map (·.1))(hg:∀x,g' x=if x=k then g k+1 else g x):fI (cs++[(k,g' k)]) g':=by
 refine⟨?_,fun c hc=>?_,fun x hx=>?_⟩
 ·rw[atI,asY];refine⟨h.n,by simp,fun a ha b hb e=>hk ?_⟩;simp at hb;subst hb;exact e▸ha
 ·rcases aqX.1 hc with hc|hc
  ·have:c.1≠k:=fun e=>hk (e▸aq5.2 ⟨c,hc,rfl⟩);rw[hg,if_neg this];exact h.v c hc
  ·simp at hc;subst hc;rfl
 ·rw[atI,aqX]at hx;have h1:x≠k:=fun e=>hx (.inr (by simp[e]));rw[hg,if_neg h1];exact h.k x fun h=>hx (.inl h)
theorem fI.nil:fI [] fun _=>0:=⟨by simp,by simp,fun _ _=>rfl⟩
theorem fI.ext{cs:List (Int×Int)}{g g':Int→Int}(h:fI cs g)(e:∀k,g k=g' k):fI cs g':=(funext e:g=g')▸h
theorem fI.le1{cs:List (Int×Int)}{g:Int→Int}(h:fI cs g):(∀c∈cs,c.2≤1)↔∀k,g k≤1:=by
 refine⟨fun h1 k=>?_,fun h1 c hc=>by rw[h.v c hc];exact h1 _⟩;by_cases hk:k∈cs.map (·.1)
 ·obtain⟨c,hc,rfl⟩:=aq5.1 hk;rw[←h.v c hc];exact h1 c hc
 ·rw[h.k k hk];omega
section
variable{K:List (List IV→Prop)}{x0 x1 x2 x3 x4 x5 x6 x7 x8 x9 eh iV iD kH kS qM pz qN y9 Eh D2 QM LV LU LS:IV}{Q':IV→Prop}
theorem al4(ks:List Int)(cs ds:List (Int×Int)){g:Int→Int}(hg:fI cs g){k0 k1 k2 k3:List IV→Prop}:QW.sat aqD CC (·=iB (decide (∀k∈ks,g k=1)&&decide (∀c∈ds,c.2≤1))) [k0,k1,k2,k3] [x0,x1,x2,x3,x4,x5,x6,x7,x8,x9,eh,iM ks,iD,oG cs,oG ds]:=by
 have hf:∀k:Int,(SE.ok (.rw (.get 3 (.var 1) (.var 0) (.k .i64 0)))).den aqD [iI k,oG cs]=some (iI (g k)):=by
  intro k;rcases Wn hg k with⟨i,g1,g2⟩|⟨g1,_,g0⟩
  ·simp[SE.den,g1,g2,nw,aw]
  ·simp[SE.den,g1,aw,g0]
 simp[SE.den]at hf;simp only[iI]at hf;by_cases bp:∀k∈ks,g k=1
 ·rw[decide_eq_true bp,Bool.true_and];refine wz (fun(a:List IV×List IV)=>[.av (iM ks::.av a.1::a.2)]) (fun a=>∀y∈a.1,∃k∈ks,y=mb k) (fun a=>a.1.length) (ks.map mb,[]) ?_ ?_ fun a hI=>?_
  ·simp[SE.den,ir]
  ·intro y hy;obtain⟨c,hc,rfl⟩:=aq5.1 hy;exact⟨c,hc,rfl⟩
  obtain⟨rem,r⟩:=a;refine⟨_,rem,rfl,⟨r,rfl⟩,fun he=>?_,fun i y hy=>?_⟩
  ·refine⟨⟨.int ds.length,by simp[SE.den,lL]⟩,_,rfl,alB ds⟩
  ·obtain⟨k,hk,rfl⟩:=hI y (aqS hy);have hle:=bp k hk;have SG:=hf k;rw[hle]at SG;refine⟨_,_,rfl,rfl,?_⟩;simp[SE.den,mb,aw,af];refine⟨_,SG,?_⟩;simp;exact .mk (rem.eraseIdx i,[.av [iI k,.agg []]]) (by simp) (fun y hy=>hI y (atx hy)) (I_ hy)
 ·rw[decide_eq_false bp,Bool.false_and];simp only[awo]at bp;obtain⟨b,hb,hbf⟩:=bp;refine wz (fun(a:List IV×List IV)=>[.av (iM ks::.av a.1::a.2)]) (fun a=>(∀y∈a.1,∃k∈ks,y=mb k)∧mb b∈a.1) (fun a=>a.1.length) (ks.map mb,[]) ?_ ?_ fun a hI=>?_
  ·simp[SE.den,ir]
  ·refine⟨fun y hy=>?_,aq5.2 ⟨b,hb,rfl⟩⟩;obtain⟨c,hc,rfl⟩:=aq5.1 hy;exact⟨c,hc,rfl⟩
  obtain⟨rem,r⟩:=a;obtain⟨hI,p4⟩:=hI;refine⟨_,rem,rfl,⟨r,rfl⟩,fun he=>?_,fun i y hy=>?_⟩
  ·simp only at p4;rw[he]at p4;simp at p4
  ·obtain⟨k,hk,rfl⟩:=hI y (aqS hy);have SG:=hf k;refine⟨_,_,rfl,rfl,?_⟩;simp[SE.den,mb,aw,af];refine⟨_,SG,?_⟩;simp;by_cases hle:g k=1
   ·right;refine⟨hle,.mk (rem.eraseIdx i,[.av [iI k,.agg []]]) (by simp) ⟨fun y hy=>hI y (atx hy),Zi hy p4 fun he=>?_⟩ (I_ hy)⟩;simp[mb]at he;subst he;exact hbf hle
   ·left;exact hle
variable{k0 k1 k2 k3 k4 k5:List IV→Prop}
theorem al5(i:Nat)(hi:i<1000)(ks:List Int)(n:Int){a b c:IV}(hk:∀q,(∀v,v∈q↔v∈ks∨v=n)→k2 [iI (i+1:Nat),iM q]):QN.sat aqD CC Q' [k0,k1,k2] [x0,x1,x2,x3,x4,x5,x6,x7,x8,x9,iI i,iM ks,.agg [iI n,a,b,c]]:=by
 have gd:=az hi (by omega);have ie:dx 1 (.tree 1 [iI n]) (iI 0)=some (iI n):=dC (l:=[n]) (i:=0) (by simp);refine ao 1 (fun j (q:List Int)=>[iI j,iM q]) (fun j q=>∀v,v∈q↔v∈ks∨(j=1∧v=n)) ks ?_ (by simp) fun j q hj hI=>?_
 ·simp[SE.den]
 by_cases aa:j<1
 ·have h0:j=0:=by omega
  subst h0;have rC:=Fq (ν:=[iM q,iI n]) (m:=.var 0) (key:=.var 1) (ks:=q) (k:=n) rfl rfl;simp[SE.den]at rC;simp only[iI]at rC;simp[SE.den,af,cellsOf,ie];refine⟨_,rC,?_⟩;have Pm:arc.wrap 1=1:=dL (by omega) (by omega);simp[Pm];refine .mk _ rfl (by omega) fun v=>?_;rw[Eu,hI];simp
 ·have h1:j=1:=by omega
  subst h1;simp[SE.den,af,cellsOf,gd];exact hk q fun v=>by rw[hI];simp
theorem Ub(l:List Int)(g:Int→Int){j:Nat}(h:j<l.length):∀x,g x+((l.take (j+1)).count x:Nat)=if x=l[j]then(g l[j]+((l.take j).count l[j]:Nat))+1 else g x+((l.take j).count x:Nat):=fun x=>by
 have:=Hp h x;rw[this];by_cases z:x=l[j]
 ·subst z;simp;omega
 ·rw[if_neg z,if_neg fun e=>z e.symm];simp
theorem al6(x:Ap)(hx:IY x)(i:Nat)(hi:i<1000)(cs ds:List (Int×Int)){g:Int→Int}(hg:fI ds g)(hb:∀k,0≤g k∧g k≤100000)(hk:∀q:List (Int×Int),fI q (fun k=>g k+(x.made.count k:Nat))→k3 [iI (i+1:Nat),oG cs,oG q]):
 QS.sat aqD CC Q' [k0,k1,k2,k3,k4] [x0,x1,x2,x3,x4,x5,x6,x7,x8,x9,eh,iV,iI i,kH,oG ds,aX x,pz,qN,oG cs]:=by
 have T_:=hx.m;have gd:=az hi (by omega);refine ao x.made.length (fun j (q:List (Int×Int))=>[iI j,oG q]) (fun j q=>fI q fun k=>g k+((x.made.take j).count k:Nat)) ds ?_ (by simpa using hg) fun j q hj hI=>?_
 ·simp[SE.den]
 by_cases aa:j<x.made.length
 ·have hw:=az aa (by omega);have yk:=Ub x.made g aa;have dU:=asF (a:=x.made[j]) (l:=x.made.take j);rw[ar9]at dU;have xH:=hb x.made[j];have Jl:arc.wrap ((g x.made[j]+((x.made.take j).count x.made[j]:Nat))+1)=(g x.made[j]+((x.made.take j).count x.made[j]:Nat))+1:=dL (by omega) (by omega);have aW:=yk x.made[j];rw[if_pos rfl]at aW;simp[SE.den,aa,hw,dC aa,af];rcases Wn hI x.made[j]with⟨p,g1,g2⟩|⟨g1,g2,g3⟩
  ·have rz:=hI.set g2 yk
   try simp only[iI]at g1
   try simp only at g2 rz
   rw[aW]at rz;generalize g x.made[j]+((x.made.take j).count x.made[j]:Nat)=cc at*
   simp[g1,g2,nw,aw];exact .mk (q.set p (x.made[j],cc+1)) (by simp[auK,nw,Jl]) (by omega) rz
  ·have B_:=hI.add g2 yk
   try simp only[iI]at g1
   try simp only at g3 B_
   rw[aW,g3]at B_;rw[g3]at Jl;simp[g1,aw];exact .mk (q++[(x.made[j],0+1)]) (by simp[nw,Jl];exact Jl) (by omega) B_
 ·rw[aqT (by omega)]at hI;simp[SE.den,aa,gd];exact hk q hI
theorem al7(x:Ap)(hx:IY x)(i:Nat)(hi:i<1000)(cs ds:List (Int×Int)){g g':Int→Int}(hg:fI cs g)(hb:∀k,0≤g k∧g k≤100000)(DW:fI ds g')(pY:∀k,0≤g' k∧g' k≤100000)(hk:∀p q:List (Int×Int),fI p (fun k=>g k+(x.gone.count k:Nat))→fI q (fun k=>g' k+(x.made.count k:Nat))→k3 [iI (i+1:Nat),oG p,oG q]):
 QT.sat aqD CC Q' [k0,k1,k2,k3] [x0,x1,x2,x3,x4,x5,x6,x7,x8,x9,eh,iV,iI i,oG cs,oG ds,aX x,pz]:=by
 have T_:=hx.g;refine ao x.gone.length (fun j (q:List (Int×Int))=>[iI j,oG q]) (fun j q=>fI q fun k=>g k+((x.gone.take j).count k:Nat)) cs ?_ (by simpa using hg) fun j q hj hI=>?_
 ·simp[SE.den]
 by_cases aa:j<x.gone.length
 ·have hw:=az aa (by omega);have yk:=Ub x.gone g aa;have dU:=asF (a:=x.gone[j]) (l:=x.gone.take j);rw[ar9]at dU;have xH:=hb x.gone[j];have Jl:arc.wrap ((g x.gone[j]+((x.gone.take j).count x.gone[j]:Nat))+1)=(g x.gone[j]+((x.gone.take j).count x.gone[j]:Nat))+1:=dL (by omega) (by omega);have aW:=yk x.gone[j];rw[if_pos rfl]at aW;simp[SE.den,aa,hw,dC aa,af];rcases Wn hI x.gone[j]with⟨p,g1,g2⟩|⟨g1,g2,g3⟩
  ·have rz:=hI.set g2 yk
   try simp only[iI]at g1
   try simp only at g2 rz
   rw[aW]at rz;generalize g x.gone[j]+((x.gone.take j).count x.gone[j]:Nat)=cc at*
   simp[g1,g2,nw,aw];exact .mk (q.set p (x.gone[j],cc+1)) (by simp[auK,nw,Jl]) (by omega) rz
  ·have B_:=hI.add g2 yk
   try simp only[iI]at g1
   try simp only at g3 B_
   rw[aW,g3]at B_;rw[g3]at Jl;simp[g1,aw];exact .mk (q++[(x.gone[j],0+1)]) (by simp[nw,Jl];exact Jl) (by omega) B_
 ·rw[aqT (by omega)]at hI;simp[SE.den,aa];exact al6 x hx i hi q ds DW pY (fun q' h=>hk q q' hI h)
end
end Go.Proofs.YtggffkaadeagbaaGreat
namespace Go.Proofs.YtggffkaadeagbaaGreat
open Go Go.Ev
theorem Wo(a b:List Int)(hl:Sm a):CC 78 true [iL a,iL b] (iB (a==b)):=by
 refine CC.gF alf n78 t78 (by simp) (by rfl) ?_;generalize hS:(a==b)=S;simp[Y_,SE.den];by_cases bT:a.length=b.length
 ·right;simp[bT];unfold Qm;refine ao a.length (fun i (_:Unit)=>[iI i]) (fun i _=>a.take i=b.take i) () ?_ (by simp) fun i _ hi hI=>?_
  ·simp[SE.den]
  by_cases aa:i<a.length
  ·have zE:i<b.length:=by omega
   have hw:=az aa hl;simp[SE.den,aa,hw,dC aa,dC zE,aw];by_cases h:a[i]=b[i]
   ·right;exact⟨h,.mk () rfl (by omega) (by rw[aqR aa,aqR zE,hI,h])⟩
   ·left;refine⟨h,?_⟩;subst S;simp;exact fun e=>h (by subst e;rfl)
  ·rw[aqT (by omega),aqT (by omega)]at hI;simp[SE.den,aa,aw];subst S;simp[hI]
 ·left;refine⟨by omega,?_⟩;simp[aw];subst S;simp;exact fun e=>bT (by rw[e])
structure Lk(m:Me)(fs:List Fa):Prop where
 s:∀f∈fs,cJ m f.id=some f
 n:∀k,(∀f∈fs,f.id≠k)→cJ m k=none
section
variable{x0 x1 x2 x3 x4 x5 x6 x7 x8 x9 eh iV iD kH kS qM pz qN y9 Eh D2 QM LV LU LS:IV}{Q':IV→Prop}{k0 k1 k2 k3 k4 k5:List IV→Prop}{O:Prop}{m:Me}{fs:List Fa}
theorem al8(hL:Lk m fs)(xA:∀f∈fs,Sm f.j)(x:Ap)(hm:Sm x.made)(hR:EM m x↔O)(hk:∀b,(b=true↔O)→k4 [iB b]):QO.sat aqD CC Q' [k0,k1,k2,k3,k4,k5] [x0,x1,x2,x3,x4,x5,x6,x7,x8,CB fs,eh,iV,iD,kH,kS,aX x,pz,qN,y9,Eh,D2,QM,LV,LU,LS]:=by
 refine ao x.made.length (fun j (_:Unit)=>[iI j]) (fun j _=>∀n∈x.made.take j,∃f,cJ m n=some f∧f.j=x.fV) () ?_ (by simp) fun j q hj hI=>?_
 ·simp[SE.den]
 by_cases aa:j<x.made.length
 ·have hw:=az aa hm;have iE:=aqI aa;have cg:=fun a=>ay (p:=fun n=>∃f,cJ m n=some f∧f.j=x.fV) aa hI a;have bx:¬O→k4 [iB false]:=fun h=>hk false ⟨fun h'=>(by cases h'),fun h'=>absurd h' h⟩;simp[SE.den,aa,hw,dC aa,af];rcases Jk fs x.made[j]with⟨q,f,hf,g1,g2,g3⟩|⟨g1,g2⟩
  ·have h78:=Wo f.j x.fV (xA f hf);have he:=hL.s f hf;rw[g3]at he;simp only[iI]at g1;simp[g1,g2,zw,eT,af];refine⟨_,h78,?_⟩;cases hb:(f.j==x.fV)<;>simp
   ·exact bx fun o=>by obtain⟨g,h,h'⟩:=hR.2 o _ iE;rw[he]at h;cases h;simp[h']at hb
   ·exact .mk () rfl (by omega) (cg ⟨f,he,by simpa using hb⟩)
  ·have he:=hL.n _ g2;simp only[iI]at g1;simp[g1,af];exact bx fun o=>by obtain⟨g,h,h'⟩:=hR.2 o _ iE;rw[he]at h;cases h
 ·simp[SE.den,aa];exact hk true ⟨fun _=>hR.1 (aF aa hI),fun _=>rfl⟩
theorem al9(hL:Lk m fs)(xA:∀f∈fs,Sm f.j)(x:Ap)(hm:Sm x.made)(hR:EM m x↔O)(hk:∀b,(b=true↔O)→k4 [iB b]):QP.sat aqD CC Q' [k0,k1,k2,k3,k4,k5] [x0,x1,x2,x3,x4,x5,x6,x7,x8,CB fs,eh,iV,iD,kH,kS,aX x,pz,qN,y9,Eh,D2,QM,LV,LU,LS]:=by
 refine ao x.made.length (fun j (_:Unit)=>[iI j]) (fun j _=>∀n∈x.made.take j,∃f,cJ m n=some f∧f.j=x.fV) () ?_ (by simp) fun j q hj hI=>?_
 ·simp[SE.den]
 by_cases aa:j<x.made.length
 ·have hw:=az aa hm;have iE:=aqI aa;have cg:=fun a=>ay (p:=fun n=>∃f,cJ m n=some f∧f.j=x.fV) aa hI a;have bx:¬O→k4 [iB false]:=fun h=>hk false ⟨fun h'=>(by cases h'),fun h'=>absurd h' h⟩;simp[SE.den,aa,hw,dC aa,af];rcases Jk fs x.made[j]with⟨q,f,hf,g1,g2,g3⟩|⟨g1,g2⟩
  ·have h78:=Wo f.j x.fV (xA f hf);have he:=hL.s f hf;rw[g3]at he;simp only[iI]at g1;simp[g1,g2,zw,eT,af];refine⟨_,h78,?_⟩;cases hb:(f.j==x.fV)<;>simp
   ·exact bx fun o=>by obtain⟨g,h,h'⟩:=hR.2 o _ iE;rw[he]at h;cases h;simp[h']at hb
   ·exact .mk () rfl (by omega) (cg ⟨f,he,by simpa using hb⟩)
  ·have he:=hL.n _ g2;simp only[iI]at g1;simp[g1,af];exact bx fun o=>by obtain⟨g,h,h'⟩:=hR.2 o _ iE;rw[he]at h;cases h
 ·simp[SE.den,aa];exact hk true ⟨fun _=>hR.1 (aF aa hI),fun _=>rfl⟩
theorem Rj{l:List Fa}{n:Int}:(∃f,findF l n=some f)↔∃f∈l,f.id=n:=by
 refine⟨fun⟨f,h⟩=>⟨f,mS h,?_⟩,fun⟨f,h1,h2⟩=>?_⟩
 ·have:=List.find?_some h;simpa using this
 ·cases he:findF l n with
  |some g=>exact⟨g,rfl⟩
  |none=>exact absurd h2 (IZ he f h1)
def Rk(m:Me)(x:Ap)(r:Rl):Prop:=x.gone=x.bw.drop r.keep.length∧(x.failed=true→x.made=[])∧x.made.length≤12∧Rg m x
theorem al_(hL:Lk m fs)(xA:∀f∈fs,Gd f)(x:Ap)(hx:IY x)(r:Rl)(hl:x.bw.length=r.keep.length+r.remove.length)(hp:0<x.bw.length)(oD:x.bw.Nodup)(ks:List Int)(d_:∀v,v∈ks↔∃f∈m.past,f.id=v)(hk:∀b,(b=true↔Rk m x r)→k4 [iB b]):
 QR.sat aqD CC Q' [k0,k1,k2,k3,k4] [x0,x1,x2,x3,x4,x5,x6,x7,x8,CB fs,eh,iM ks,iD,kH,kS,aX x,aR r,qN]:=by
 have hxh:=hx.h;have hxg:=hx.g;have T_:=hx.m;have hxj:=hx.j;have bx:¬Rk m x r→k4 [iB false]:=fun h=>hk false ⟨fun h'=>(by cases h'),fun h'=>absurd h' h⟩;refine ao x.bw.length (fun j (q:List Fa)=>[iI j,kb q]) (fun j q=>(q.length=j∧∀f∈q,Gd f)∧q=(x.bw.take j).filterMap (cJ m)∧∀n∈x.bw.take j,∃f,cJ m n=some f) [] ?_ (by simp) fun j q hj hq=>?_
 ·simp[SE.den]
 obtain⟨⟨hql,hqf⟩,ig,Rh⟩:=hq;by_cases aa:j<x.bw.length
 ·have hw:=az aa (by omega);have iE:=aqI aa;have cg:=fun a=>ay (p:=fun n=>∃f,cJ m n=some f) aa Rh a
  have hfm:∀f,cJ m x.bw[j]=some f→(x.bw.take (j+1)).filterMap (cJ m)=q++[f]:=fun f he=>by
   rw[aqR aa,auU,←ig];simp[he]
  simp[SE.den,aa,hw,dC aa,af];rcases Jk fs x.bw[j]with⟨p,f,hf,g1,g2,g3⟩|⟨g1,g2⟩
  ·have hc:=Ya (a:=q) f (by omega);have he:=hL.s f hf;rw[g3]at he;simp only[iI]at g1
   try simp only[eT]at hc
   simp[g1,g2,zw,eT,af,cellsOf,hc];refine .mk (q++[f]) rfl (by omega) ⟨⟨by simp;omega,fun g hg=>?_⟩,(hfm f he).symm,cg ⟨f,he⟩⟩;rcases aqX.1 hg with hg|hg
   ·exact hqf g hg
   ·simp at hg;subst hg;exact xA g hf
  ·have he:=hL.n _ g2;simp only[iI]at g1;simp[g1,af];exact bx fun o=>by obtain⟨f,h⟩:=o.2.2.2.hd _ iE;rw[he]at h;cases h
 ·rw[aqT (by omega)]at ig Rh;have eY:=YO (L:=x.bw) (k:=r.keep.length) (by omega);have h1:=Wo x.gone (x.bw.drop r.keep.length) (by unfold Sm;omega);obtain⟨t2,ht2,h2⟩:=Wk true ks x.gone (by unfold Sm;omega)
  have h3:=alA true q (by omega) (by
   have:=BY (f:=Fa.j) (l:=q) fun a ha=>(hqf a ha).2;have:q.length*20≤8*20:=Nat.mul_le_mul_right _ (by omega)
   omega) (by
    intro he;cases q with
    |nil=>simp at hql;omega
    |cons f q=>
     simp only[List.map_cons,List.flatten_cons,List.append_eq_nil_iff]at he;exact(hqf f (by simp)).1 he.1)
  have ama:(∀v∈x.gone,v∈ks)↔∀n∈x.gone,∃f,findF m.past n=some f:=by
   simp only[d_,Rj]
  rw[ama]at ht2
  have hC:Rk m x r↔(x.gone=x.bw.drop r.keep.length∧(∀n∈x.gone,∃f,findF m.past n=some f)∧x.fV=eJ (q.map Fa.j)∧(x.failed=true→x.made=[])∧x.made.length≤12∧EM m x):=by
   rw[ig];exact⟨fun⟨a,b,c,d⟩=>⟨a,d.g,d.j,b,c,d.m⟩,fun⟨a,b,c,d,e,f⟩=>⟨a,d,e,oD,Rh,c,b,f⟩⟩
  generalize eJ (q.map Fa.j)=u at h3 hC;generalize Rk m x r=O at hk bx hC;have h4:=Wo x.fV u (by unfold Sm;omega);generalize hdk:x.bw.drop r.keep.length=dk at*
  have hC:=hC.symm;simp only[iL,iI]at eY;simp only[iL]at h1 eY;simp[SE.den,aa,af,eY];refine⟨_,h1,?_⟩;cases b1:(x.gone==dk)<;>simp
  ·exact bx (cw hC fun e=>by simp[e]at b1)
  have hC:=cu hC (by simpa using b1);refine⟨_,h2,?_⟩;cases t2<;>simp
  ·exact bx (cw hC fun e=>by have:=ht2.2 e;cases this)
  have hC:=cu hC (ht2.1 rfl);refine⟨_,h3,_,h4,?_⟩;cases b3:(x.fV==u)<;>simp
  ·exact bx (cw hC fun e=>by simp[e]at b3)
  have hC:=cu hC (by simpa using b3);have r8:∀f∈fs,Sm f.j:=fun f hf=>by have:=(xA f hf).2;unfold Sm;omega
  by_cases vf:x.failed=true
  ·left;refine⟨vf,?_⟩;by_cases y1:0<x.made.length
   ·left;exact⟨y1,bx (cw hC fun e=>by simp[e vf]at y1)⟩
   have pX:x.made=[]:=List.eq_nil_of_length_eq_zero (by omega);right;refine⟨pX,?_⟩;have hC:=cu (cu hC fun _=>pX) (by omega);right;exact⟨by omega,al8 hL r8 x (by unfold Sm;omega) hC hk⟩
  ·right;refine⟨by simpa using vf,?_⟩;have hC:=cu hC fun h=>absurd h vf;by_cases y1:12<x.made.length
   ·left;exact⟨by omega,bx (cw hC (by omega))⟩
   ·right;exact⟨by omega,al9 hL r8 x (by unfold Sm;omega) (cu hC (by omega)) hk⟩
theorem Rm{l:List Int}:(Qq l).length=l.length↔l.Nodup:=by
 have key:∀n,n≤l.length→((l.take n).foldl tE []).length≤n∧(((l.take n).foldl tE []).length=n↔(l.take n).Nodup):=fun n=>by
  induction n with
  |zero=>simp
  |succ n ih=>
   intro hn;obtain⟨h1,h2⟩:=ih (by omega);have aa:n<l.length:=by omega
   have iJ:∀x,x∈(l.take n).foldl tE []↔x∈l.take n:=fun x=>by
    show x∈cK [] (l.take n)↔_;rw[nz];simp
   rw[aqR aa,List.foldl_append];generalize(l.take n).foldl tE []=q at*
   show(tE q l[n]).length≤_∧((tE q l[n]).length=_↔_);unfold tE;by_cases hm:l[n]∈q
   ·rw[if_pos hm];refine⟨by omega,fun e=>by omega,fun oD=>?_⟩;rw[asY]at oD;exact absurd rfl (oD.2.2 _ ((iJ _).1 hm) l[n] (by simp))
   ·rw[if_neg hm];refine⟨by simp;omega,fun e=>?_,fun oD=>?_⟩
    ·simp at e;exact Jj (h2.1 e) fun h=>hm ((iJ _).2 h)
    ·rw[asY]at oD;simp;exact h2.2 oD.1
 have:=(key l.length (aqK _)).2;rw[List.take_length]at this;exact this
theorem amb(p:Pg)(FU:p.rules.length≤8)(hr:∀r∈p.rules,r.keep.length+r.remove.length≤3∧0<r.keep.length+r.remove.length)(hL:Lk m fs)(xA:∀f∈fs,Gd f)(x:Ap)(hx:IY x)(ks:List Int)(d_:∀v,v∈ks↔∃f∈m.past,f.id=v)(i:Nat)(hi:i<1000)(cs ds:List (Int×Int)){g g':Int→Int}(hg:fI cs g)(hb:∀k,0≤g k∧g k≤100000)(DW:fI ds g')(pY:∀k,0≤g' k∧g' k≤100000)
 (hk:gw p m x→∀p q:List (Int×Int),fI p (fun k=>g k+(x.gone.count k:Nat))→fI q (fun k=>g' k+(x.made.count k:Nat))→k3 [iI (i+1:Nat),oG p,oG q])(hQ:¬gw p m x→Q' (iB false)):
 QU.sat aqD CC Q' [k0,k1,k2,k3] [aP p.decls p.rules,x1,x2,x3,x4,x5,x6,x7,x8,CB fs,eh,iM ks,iI i,oG cs,oG ds,aX x]:=by
 have hxh:=hx.h;refine pe (fun vs=>∃b:Bool,vs=[iB b]∧(b=true↔gw p m x)) ?_ ?_
 ·have bx:¬gw p m x→Px (fun vs=>vs=[iB false]∧¬gw p m x∨vs=[iB true]∧gw p m x) [IV.raw (Value.bool false)]:=fun h=>.inl ⟨rfl,h⟩;have zb:gw p m x↔gw p m x:=Iff.rfl
  conv at zb=>lhs;unfold gw
  generalize gw p m x=O at bx zb⊢;obtain⟨ds0,rs⟩:=p;simp only at zb hr FU⊢;simp[SE.den,af];by_cases y1:x.rule<0
  ·left;exact⟨y1,bx fun o=>by obtain⟨k,h,e,_⟩:=zb.2 o;omega⟩
  right;refine⟨by omega,?_⟩;by_cases y2:(rs.length:Int)≤x.rule
  ·left;exact⟨y2,bx fun o=>by obtain⟨k,h,e,_⟩:=zb.2 o;omega⟩
  right;refine⟨by omega,?_⟩;obtain⟨n,hn⟩:∃n:Nat,x.rule=n:=⟨x.rule.toNat,by omega⟩;have aa:n<rs.length:=by omega
  have hC:(x.bw.length=rs[n].keep.length+rs[n].remove.length∧Rk m x rs[n])↔O:=by
   rw[←zb];refine⟨fun h=>⟨n,aa,hn,h⟩,fun⟨k',h',e,h⟩=>?_⟩;have:k'=n:=by omega
   subst this;exact h
  clear zb;have si:=Ha aa;obtain⟨r1,r2⟩:=hr _ (aqI aa);generalize hrn:rs[n]=r at*
  have hw:arc.wrap ((r.keep.length:Int)+r.remove.length)=r.keep.length+r.remove.length:=dL (by omega) (by omega);simp only[iI]at si;rw[←hn]at si;refine⟨_,si,?_⟩;simp[af,hw];by_cases y3:x.bw.length=r.keep.length+r.remove.length
  rotate_left
  ·left;exact⟨by omega,bx (cw hC y3)⟩
  have hC:=cu hC y3;right;refine⟨by omega,_,als true x.bw (by unfold Sm;omega),?_⟩;simp[lL];by_cases y4:((Qq x.bw).length:Int)=x.bw.length
  rotate_left
  ·left;exact⟨y4,bx fun o=>y4 (by have:=Rm.2 (hC.2 o).2.2.2.nd;omega)⟩
  right;refine⟨y4,?_⟩;refine al_ hL xA x hx r y3 (by omega) (Rm.1 (by omega)) ks d_ fun b hb=>?_;rw[hC]at hb;cases b
  ·exact .inl ⟨rfl,fun o=>by have:=hb.2 o;cases this⟩
  ·exact .inr ⟨rfl,hb.1 rfl⟩
 ·rintro vs ⟨b,rfl,cD⟩;refine⟨rfl,?_⟩;cases b<;>simp[SE.den,af]
  ·exact hQ fun o=>by have:=cD.2 o;cases this
  ·exact al7 x hx i hi cs ds hg hb DW pY (hk (cD.1 rfl))
end
end Go.Proofs.YtggffkaadeagbaaGreat
