/- A part of the proof, no condition: the check of a program; justifications. -/
import Derived.Test.YtggffkaadeagbaaGreatRkG
import Derived.Test.YtggffkaadeagbaaGreatRgI
import Derived.Test.YtggffkaadeagbaaGreatRiM
import Derived.Test.YtggffkaadeagbaaGreatRiP
open Go.Proofs.Tryz renaming prog->asK
open List renaming getElem_mem->asO,length_append->atc,take_of_length_le->as0,mem_append_right->atx,drop_eq_getElem_cons->ata,map_cons->atJ,map_nil->aun,drop_of_length_le->atg,take_succ_eq_append_getElem->asX,mem_append->as8,mem_singleton->atF,take_append_drop->auv,pairwise_append->aum,singleton_append->awZ,pairwise_cons->av2,mem_cons->aty,nil_append->atO,mem_cons_of_mem->at6,pairwise_iff_getElem->auY
open Nat renaming lt_succ_iff_lt_or_eq->au7,le_of_lt->ayl
open Go.Lib renaming compactUpTo->avU,keeps->axR
open Classical renaming byContradiction->atA
open Option renaming some->aa
open Bool renaming true->ab,false->af
set_option linter.all false
namespace Go.Proofs.YtggffkaadeagbaaGreat
open Go Go.Ev
def nR(a:List Int):List Gl->Prop
 |[]=>True
 |g::l=>if g.op=3 then False else if g.op=0 then(∀v∈varsOf g.ts,v∈a)/\nR a l
  else if g.op=4 then∃t0 t1,g.ts=[t0,t1]/\t0.k=1/\t0.n∉a/\(∀v∈varsOf [t1],v∈a)/\nR (a++[t0.n]) l
  else nR a l
theorem BD:∀(l:List Gl) (a b:List Int),(∀v,v∈a↔v∈b)->(nR a l↔nR b l)
 |[],_,_,_=>Iff.rfl
 |g::l,a,b,h=>by
  unfold nR;split
  ·rfl
  split
  ·rw[BD l a b h];simp only[h]
  split
  ·refine exists_congr λt0=>exists_congr λt1=>?_;rw[BD l (a++[t0.n]) (b++[t0.n]) (λv=>by simp[h])];simp only[h]
  ·exact BD l a b h
def NU(r:Rl):Prop:=nR (fy (r.keep++r.remove)) r.body
theorem aeF{a:List Int}{g:Gl}{l:List Gl}(h:g.op=3):nR a (g::l)↔False:=by rw[nR,if_pos h]
theorem aeG{a:List Int}{g:Gl}{l:List Gl}(h:g.op=0):nR a (g::l)↔(∀v∈varsOf g.ts,v∈a)/\nR a l:=by rw[nR,if_neg (by omega),if_pos h]
theorem aeH{a:List Int}{g:Gl}{l:List Gl}{t0 t1:Tm}(h:g.op=4)(ht:g.ts=[t0,t1]):nR a (g::l)↔t0.k=1/\t0.n∉a/\(∀v∈varsOf [t1],v∈a)/\nR (a++[t0.n]) l:=by
 rw[nR,if_neg (by omega),if_neg (by omega),if_pos h];refine⟨λ⟨u0,u1,e,h⟩=>?_,λh=>⟨t0,t1,ht,h⟩⟩;rw[ht]at e;injection e with e1 e2;injection e2 with e2 _;subst e1;subst e2;exact h
theorem XU{a:List Int}{g:Gl}{l:List Gl}(h3:g.op≠3)(h0:g.op≠0)(h4:g.op≠4):nR a (g::l)↔nR a l:=by rw[nR,if_neg h3,if_neg h0,if_neg h4]
theorem v95(t:Tm)(h:WF t):CC 95 af [c7 t] (iL (varsOf [t])):=by
 refine CC.Dg aqu n95 t95 (by simpa using kU t) (by rfl) ?_;have hb:=ac4 t h.1 h.2 [] Vr.nil;have e:cS [] (gq t)=varsOf [t]:=by show _=cS [] (fL [t]);simp[fL]
 rw[e]at hb;rw[bU]at hb⊢;simp[ad8,SE.den,aj,aA,cellsOf];exact⟨_,hb,by simp⟩
section rule
variable{Q:IV->Prop}{k0 k1 k2 k3 k4 k5:List IV->Prop}
theorem anJ{x0 x1 x2 x3 x4 x6 x7 x8:IV}{kn:List Int}{n:Int}(hk:kn.length<=1000000000)(h:k4 [iB (decide (n∈kn))]):
 Ut.sat asK CC Q [k0,k1,k2,k3,k4] [x0,x1,x2,x3,x4,iL kn,x6,x7,x8,iI n]:=by
 refine aw kn.length (λi (_:Unit)=>[iI i]) (λi _=>∀x∈kn.take i,x≠n) () ?_ (by simp) λi _ hi hI=>?_
 ·simp[SE.den]
 by_cases ai:i<kn.length
 ·have hw:=aD ai (by omega);simp[SE.den,ai,hw,dN ai,cellsOf];by_cases he:kn[i]=n
  ·left;refine⟨he,?_⟩;rw[decide_eq_true (he▸asO ai)]at h;exact h
  ·right;exact⟨he,.mk () rfl (by omega) (aC ai hI he)⟩
 ·have:=aK ai hI;simp[SE.den,ai];rw[decide_eq_false (λhm=>this _ hm rfl)]at h;exact h
theorem ajw{x0 x1 x2 x3 x4 x6 x7 x8 x9 eD jv jg:IV}{kn:List Int}{n:Int}(hk:kn.length<=1000000000)(h:k4 [iB (decide (n∈kn))]):
 Q_.sat asK CC Q [k0,k1,k2,k3,k4] [x0,x1,x2,x3,x4,iL kn,x6,x7,x8,x9,eD,jv,jg,iI n]:=by
 refine aw kn.length (λi (_:Unit)=>[iI i]) (λi _=>∀x∈kn.take i,x≠n) () ?_ (by simp) λi _ hi hI=>?_
 ·simp[SE.den]
 by_cases ai:i<kn.length
 ·have hw:=aD ai (by omega);simp[SE.den,ai,hw,dN ai,cellsOf];by_cases he:kn[i]=n
  ·left;refine⟨he,?_⟩;rw[decide_eq_true (he▸asO ai)]at h;exact h
  ·right;exact⟨he,.mk () rfl (by omega) (aC ai hI he)⟩
 ·have:=aK ai hI;simp[SE.den,ai];rw[decide_eq_false (λhm=>this _ hm rfl)]at h;exact h
theorem ajx{x0 x1 x2 x3 x4 x6 x7 a c d:IV}{kn:List Int}{n:Int}(hk:kn.length<=1000000000)(h:k2 [iB (decide (n∈kn))]):
 Q8.sat asK CC Q [k0,k1,k2] [x0,x1,x2,x3,x4,iL kn,x6,x7,.agg [a,iI n,c,d]]:=by
 refine aw kn.length (λi (_:Unit)=>[iI i]) (λi _=>∀x∈kn.take i,x≠n) () ?_ (by simp) λi _ hi hI=>?_
 ·simp[SE.den]
 by_cases ai:i<kn.length
 ·have hw:=aD ai (by omega);simp[SE.den,ai,hw,dN ai,cellsOf];by_cases he:kn[i]=n
  ·left;refine⟨he,?_⟩;rw[decide_eq_true (he▸asO ai)]at h;exact h
  ·right;exact⟨he,.mk () rfl (by omega) (aC ai hI he)⟩
 ·have:=aK ai hI;simp[SE.den,ai];rw[decide_eq_false (λhm=>this _ hm rfl)]at h;exact h
theorem anK{x0 x1 x2 x3 x4 x6:IV}{kn l:List Int}(hk:kn.length<=1000000000)(hl:l.length<=1000000000)(h:∀b,(b=ab↔∀v∈l,v∈kn)->k2 [iB b]):
 Uu.sat asK CC Q [k0,k1,k2] [x0,x1,x2,x3,x4,iL kn,x6,iL l]:=by
 refine aw l.length (λi (_:Unit)=>[iI i]) (λi _=>∀v∈l.take i,v∈kn) () ?_ (by simp) λi _ hi hI=>?_
 ·simp[SE.den]
 by_cases ai:i<l.length
 ·have hw:=aD ai (by omega);simp[SE.den,ai,hw,dN ai];refine ot (λvs=>vs=[iB (decide (l[i]∈kn))]) (anJ hk rfl) ?_;rintro vs rfl;refine⟨rfl,?_⟩;by_cases hq:l[i]∈kn<;>simp[SE.den,hw,hq]
  ·exact .mk () rfl (by omega) (aC ai hI hq)
  ·exact h _ ⟨λh=>(by cases h),λh=>absurd (h _ (asO ai)) hq⟩
 ·simp[SE.den,ai];exact h _ ⟨λ_=>aK ai hI,λ_=>rfl⟩
theorem ajy{x0 x1 x2 x3 x4 x6 x7 x8 x9 eD:IV}{kn l:List Int}(hk:kn.length<=1000000000)(hl:l.length<=1000000000)(h:∀b,(b=ab↔∀v∈l,v∈kn)->k2 [iB b]):
 Ra.sat asK CC Q [k0,k1,k2] [x0,x1,x2,x3,x4,iL kn,x6,x7,x8,x9,eD,iL l]:=by
 refine aw l.length (λi (_:Unit)=>[iI i]) (λi _=>∀v∈l.take i,v∈kn) () ?_ (by simp) λi _ hi hI=>?_
 ·simp[SE.den]
 by_cases ai:i<l.length
 ·have hw:=aD ai (by omega);simp[SE.den,ai,hw,dN ai];refine ot (λvs=>vs=[iB (decide (l[i]∈kn))]) (ajw hk rfl) ?_;rintro vs rfl;refine⟨rfl,?_⟩;by_cases hq:l[i]∈kn<;>simp[SE.den,hw,hq]
  ·exact .mk () rfl (by omega) (aC ai hI hq)
  ·exact h _ ⟨λh=>(by cases h),λh=>absurd (h _ (asO ai)) hq⟩
 ·simp[SE.den,ai];exact h _ ⟨λ_=>aK ai hI,λ_=>rfl⟩
end rule
theorem Kh{l:List At}{i:Nat}(h:i<l.length):fy (l.take (i+1))=fy (l.take i)++varsOf l[i].ts:=wC (f:=λa:At=>varsOf a.ts) h
theorem v35(r:Rl)(h:JY r)(hF:Bt r):∃b,(b=ab↔NU r)/\CC 35 af [ph r] (iB b):=by
 refine CC.qP _ aqA n35 t35 (by simpa using jK r) (by rfl) ?_;have h91:=c91 r (by have:=h.h;omega);have hl:=h.h;have hb:=h.b;have h1:=h.hs;have h2:=hF.hs;have g1:=h.gs;have g2:=hF.gs;rw[<-atc]at hl;unfold NU;rw[js]at h91⊢;generalize r.keep++r.remove=hs at h91 hl h1 h2⊢;obtain⟨rn,rk,rr,rg,rb,rv⟩:=r;simp only at*
 simp[aeb,SE.den,aj];refine⟨_,h91,?_⟩;simp;unfold Rc;refine aw hs.length (λi (a:List Int)=>[iI i,iL a]) (λi a=>a=fy (hs.take i)/\a.length<=1048577*i) [] ?_ (by simp[fy]) λi a hi hI=>?_
 ·simp[SE.den]
 obtain⟨iU,hI⟩:=hI;by_cases ai:i<hs.length
 ·have hw:=aD ai (by omega);have hm:=asO ai;have hb:=v50 hs[i] (by have:=h1 _ hm;unfold Sm;omega) (h2 _ hm);have hll:=(qp λt ht=>(h2 _ hm t ht).2).len;have hva:=Kh ai;generalize varsOf hs[i].ts=l at hb hll hva;have hc:=oN (a:=a) (b:=l) (by omega);have hr:=aar l;simp[SE.den,ai,hw,ly ai,aj];refine⟨_,hb,?_⟩;simp[SE.den,hc,hr,hw];refine⟨?_,.mk (a++l) (by simp) (by omega) ⟨by rw[hva,iU],by simp;omega⟩⟩;simp[cellsOf,aA]
 rw[as0 (by omega)]at iU;rw[<-iU];clear iU;simp[SE.den,ai,aj];unfold Rb;refine aw rb.length (λi (a:List Int)=>[iI i,iL a]) (λi b=>b.length<=4000000+i/\(nR a rb↔nR b (rb.drop i))) a ?_ ⟨by omega,by simp⟩ λi b hi hI=>?_
 ·simp[SE.den]
 obtain⟨hI,hG⟩:=hI;by_cases eu:i<rb.length
 ·have hw:=aD eu (by omega);have hm:rb[i]∈rg++rb:=atx _ (asO eu);have tc:=g1 _ hm;obtain⟨har,jF⟩:=g2 _ hm;have hb:=v93 rb[i] (by unfold Sm;omega) jF;have hll:=(qp λt ht=>(jF t ht).2).len;rw[ata eu]at hG;generalize nR a rb=O at hG⊢;simp[SE.den,eu,mI eu,aj];by_cases o3:rb[i].op=3
  ·left;exact⟨o3,by rw[aeF o3]at hG;exact hG.1⟩
  right;refine⟨o3,?_⟩;by_cases o0:rb[i].op=0
  ·left;refine⟨o0,_,hb,?_⟩;rw[aeG o0]at hG;generalize varsOf rb[i].ts=l at*
   simp;refine ot (λvs=>∃c,vs=[iB c]/\(c=ab↔∀v∈l,v∈b)) (anK (by omega) (by omega) λc hc=>⟨c,rfl,hc⟩) ?_;rintro vs ⟨c,rfl,hc⟩;refine⟨rfl,?_⟩;cases c<;>simp[SE.den,o0,hw]
   ·intro o;have:=hc.2 (hG.1 o).1;cases this
   ·exact .mk b (by simp) (by omega) ⟨by omega,hG.trans ⟨λh=>h.2,λh=>⟨hc.1 rfl,h⟩⟩⟩
  right;refine⟨o0,?_⟩;by_cases o4:rb[i].op=4
  rotate_left
  ·right;refine⟨o4,?_⟩;simp[hw];rw[XU o3 o0 o4]at hG;exact .mk b (by simp) (by omega) ⟨by omega,hG⟩
  left;refine⟨o4,?_⟩
  have hlen:rb[i].ts.length=2:=by
   have:=har o0;rw[o4]at this;simp[gM]at this;omega
  obtain⟨t0,t1,q7⟩:∃t0 t1,rb[i].ts=[t0,t1]:=by
   match hq:rb[i].ts,hlen with
   |[a,b],_=>exact⟨a,b,rfl⟩
  rw[aeH o4 q7]at hG;have w1:WF t1:=jF _ (by rw[q7];simp);have h95:=v95 t1 w1;have rD:=(qp (ts:=[t1]) (by simpa using w1.2)).len;generalize varsOf [t1]=l1 at*
  rw[bU]at h95;have i0:dy 4 (iT rb[i].ts) (iI 0)=aa (c7 t0):=by rw[q7];exact vl (l:=[t0,t1]) (i:=0) (by simp)
  have i1:dy 4 (iT rb[i].ts) (iI 1)=aa (c7 t1):=by rw[q7];exact vl (l:=[t0,t1]) (i:=1) (by simp)
  rw[bU]at i0 i1;simp only[iT]at i0 i1;simp[SE.den,i0,aj];by_cases kk:t0.k=1
  rotate_left
  ·left;exact⟨kk,λo=>kk (hG.1 o).1⟩
  right;refine⟨kk,?_⟩;refine ot (λvs=>vs=[iB (decide (t0.n∈b))]) (ajx (by omega) rfl) ?_;rintro vs rfl;refine⟨rfl,?_⟩;by_cases hn:t0.n∈b
  ·simp[SE.den,i1,aj,hn];exactλo=>(hG.1 o).2.1 hn
  simp[SE.den,i1,aj,hn];refine⟨_,h95,?_⟩;simp;refine ot (λvs=>∃c,vs=[iB c]/\(c=ab↔∀v∈l1,v∈b)) (ajy (by omega) (by omega) λc hc=>⟨c,rfl,hc⟩) ?_;rintro vs ⟨c,rfl,pR⟩;refine⟨rfl,?_⟩;have hc:=oN (a:=b) (b:=[t0.n]) (by simp;omega);simp only[iL,atJ,aun]at hc;cases c<;>simp[SE.den,i0,aj,aA,cellsOf,hc,hw]
  ·intro o;have:=pR.2 (hG.1 o).2.2.1;cases this
  ·exact .mk (b++[t0.n]) (by simp) (by omega) ⟨by simp;omega,hG.trans ⟨λh=>h.2.2.2,λh=>⟨kk,hn,pR.1 rfl,h⟩⟩⟩
 ·rw[atg (by omega),nR]at hG;simp[SE.den,eu];exact hG.2 trivial
structure NV(p:Pg):Prop where
 o:pL p
 c:∀r∈p.rules,NU r
theorem uO.fo{ds:List De}{r:Rl}(h:uO ds r)(hn:JZ r):Bt r:=hn.for (λa ha=>lB (h.hs a ha)) (λa ha=>vo (h.gs a ha))
open Classical in
noncomputable def iZ(p:Pg):Int:=if pL p then(if NV p then 0 else 19)else 2
theorem Su{p:Pg}(h:NV p):iZ p=0:=by rw[iZ,if_pos h.o,if_pos h]
theorem LX{p:Pg}(h:pL p)(h':¬NV p):iZ p=19:=by rw[iZ,if_pos h,if_neg h']
theorem Sv{p:Pg}(h:¬pL p):iZ p=2:=by rw[iZ,if_neg h]
theorem y7{p:Pg}:iZ p=0↔NV p:=by
 refine⟨λh=>?_,Su⟩;by_cases h1:pL p
 ·by_cases h2:NV p
  ·exact h2
  ·rw[LX h1 h2]at h;omega
 ·rw[Sv h1]at h;omega
theorem CC.ada{n:Nat}{new:Bool}{f:FuncId}{cK:ak}{args:List IV}{cfg:a_}{s:Int}(he:aH asK cfg n new f=cK)(hl:(asK.funcs[f]?).map (·.params.size)=aa args.length)(ht:∀z,aO asK f z=ab)(hp:∀x∈args,Pure x)(hn:noTwo cK=ab)
 (hs:cK.sat asK CC (gW (·=s)) [] args):CC f new args (iI s):=by
 obtain⟨_,rfl,h⟩:=CC.LA (·=s) he hl ht hp hn hs;exact h
theorem v12(p:Pg)(h:yW p)(hz:∀r∈p.rules,SzR r):CC 12 af [dm p] (iI (iZ p)):=by
 refine CC.ada aql n12 t12 (by simpa using fx p) (by rfl) ?_;obtain⟨a34,n34,hF,h34⟩:=v34 p h hz;have e2:=λm:¬pL p=>Sv m;have Sw:=λ(a:pL p) (r) (hr:r∈p.rules) (m:¬NU r)=>LX a λo=>m (o.c r hr);have e0:=λa b=>Su (⟨a,b⟩:NV p);have hfo:pL p->∀r∈p.rules,Bt r:=λo r hr=>(o.r r hr).fo (h.rn r hr);generalize iZ p=N at e2 Sw e0⊢;generalize pL p=O' at e2 Sw e0 hF hfo;obtain⟨ds,rs⟩:=p;obtain⟨hd,hr,dn,wD,Eb⟩:=h;simp only at*
 change CC 34 af [.agg [eK ds,yV rs]] _ at h34;show Xu.sat _ _ _ _ [.agg [eK ds,yV rs]];simp[Xu,SE.den,aj];refine⟨_,h34,?_⟩;simp;by_cases z:n34=0
 rotate_left
 ·left;exact⟨z,(e2 λo=>z (hF.2 o)).symm⟩
 right;refine⟨z,?_⟩;unfold Ud;refine aw rs.length (λi (_:Unit)=>[iI i]) (λi _=>∀r∈rs.take i,NU r) () ?_ (by simp) λi _ hi hI=>?_
 ·simp[SE.den]
 by_cases ai:i<rs.length
 ·have hw:=aD ai (by omega);have hm:=asO ai;obtain⟨b,DT,hb⟩:=v35 rs[i] (wD _ hm) (hfo (hF.1 z) _ hm);rw[js]at hb;simp[SE.den,ai,hw,Ig ai,aj];refine⟨_,hb,?_⟩;cases b<;>simp
  ·exact(Sw (hF.1 z) _ hm λo=>by have:=DT.2 o;cases this).symm
  ·exact .mk () rfl (by omega) (aC ai hI (DT.1 rfl))
 ·simp[SE.den,ai];exact(e0 (hF.1 z) (aK ai hI)).symm
end Go.Proofs.YtggffkaadeagbaaGreat
namespace Go.Proofs.YtggffkaadeagbaaGreat
open Go Go.Ev
theorem af5(l:List Int)(x:Int):uL l x=ry l x:=rfl
theorem FD{v x:Int}{l:List Int}:v∈uL l x↔v∈l\/v=x:=by
 have:=oz (v:=v) [x] l;simpa[cS,af5]using this
section
variable{Q:IV->Prop}{k0:List IV->Prop}{D:Prop}
def Vh(ds:List De):Prop:=(∀d∈ds,gd d.s=ab/\0<=d.n/\d.n<=6)/\∀(i:Nat) (h:i<ds.length),br (ds.take i) ds[i].s ds[i].n=af
theorem Sx{ds:List De}{d:De}:br ds d.s d.n=ab↔d∈ds:=by
 rw[Fx];refine⟨λ⟨e,h1,h2,h3⟩=>?_,λh=>⟨d,h,rfl,rfl⟩⟩;cases d;cases e;simp only at h2 h3;subst h2;subst h3;exact h1
theorem anL(p:Pg)(h:yW p){x1:IV}(hk:∀n:Int,(n=0↔Vh p.decls)->k0 [iI n]):UG.sat asK CC Q [k0] [.agg [eK p.decls,yV p.rules],x1]:=by
 obtain⟨ds,rs⟩:=p;obtain⟨hd,hr,dn,wD,Eb⟩:=h;simp only at*
 refine aw ds.length (λj (dl:List De)=>[iI j,.az (dl.map Ac)]) (λj dl=>dl=ds.take j/\(∀d∈ds.take j,gd d.s=ab/\0<=d.n/\d.n<=6)/\∀(i:Nat) (h:i<ds.length),i<j->br (ds.take i) ds[i].s ds[i].n=af) [] ?_ ⟨rfl,by simp,λ_ _ h=>absurd h (by omega)⟩ λj dl hj hI=>?_
 ·simp[SE.den]
 obtain⟨D1,oT,iR⟩:=hI;by_cases ai:j<ds.length
 ·have hw:=aD ai (by omega);have gh:=asO ai;have h83:=v83 ds[j].s;have bC:∀n:Int,n≠0->¬Vh ds->k0 [iI n]:=λn h1 h2=>hk n ⟨λh=>absurd h h1,λh=>absurd h h2⟩;simp[SE.den,ai,hw,uM ai,aj,aA];refine⟨_,h83,?_⟩;cases b83:gd ds[j].s<;>simp[aA]
  ·exact bC 7 (by omega) λm=>by have:=(m.1 _ gh).1;simp[b83]at this
  by_cases z1:0<=ds[j].n
  rotate_left
  ·right;exact⟨by omega,bC 9 (by omega) λm=>z1 (m.1 _ gh).2.1⟩
  left;refine⟨z1,?_⟩;by_cases z2:ds[j].n<=6
  rotate_left
  ·left;exact⟨by omega,bC 9 (by omega) λm=>z2 (m.1 _ gh).2.2⟩
  right;refine⟨by omega,?_⟩;by_cases hm:ds[j]∈dl
  ·obtain⟨q,g1,g2⟩:=(Ux dl ds[j]).1 hm;simp only[iS,iI]at g1;simp[g1,g2,Ac,aA];exact bC 8 (by omega) λm=>by have:=m.2 j ai;rw[Sx.2 (D1▸hm)]at this;cases this
  ·have g1:=(Ux dl ds[j]).2 hm;simp only[iS,iI]at g1
   have hf:br (ds.take j) ds[j].s ds[j].n=af:=by
    cases hb:br (ds.take j) ds[j].s ds[j].n with
    |false=>rfl
    |true=>exact absurd (D1▸Sx.1 hb) hm
   simp[g1,aA];refine .mk (dl++[ds[j]]) (by simp[Ac]) (by omega) ⟨by rw[asX ai,D1],aC ai oT ⟨b83,z1,z2⟩,λi hi nI=>?_⟩;rcases au7.1 nI with nI|rfl
   ·exact iR i hi nI
   ·exact hf
 ·have hD:Vh ds:=⟨aK ai oT,λi hi=>iR i hi (by omega)⟩;simp[SE.den,ai,aA,aj];right;exact⟨by omega,hk 0 ⟨λ_=>hD,λ_=>rfl⟩⟩
theorem v32(p:Pg)(h:yW p):∃a n,(n=0↔pL p)/\CC 32 af [dm p] (.az [iI a,iI n]):=by
 refine CC.aic _ aq0 n32 t32 (by simpa using fx p) (by rfl) ?_;show XL.sat _ _ _ _ [.agg [eK p.decls,yV p.rules]];have hd:=h.d;have hr:=h.r;have DO:=λm:pL p=>(⟨m.d,m.u⟩:Vh p.decls);have DP:=λm:pL p=>m.r;have hO:=λ(a:Vh p.decls) b=>(⟨a.1,a.2,b⟩:pL p);generalize pL p=O at DO DP hO⊢;simp[XL,SE.den,aj];unfold UI;refine ot (λvs=>∃n:Int,vs=[iI n]/\(n=0↔Vh p.decls)) ?_ ?_
 ·simp[SE.den,aj];refine⟨_,aex ab (.az []),?_⟩;by_cases z:30<p.decls.length
  ·omega
  ·right;exact⟨by omega,anL p h λn hn=>⟨n,rfl,hn⟩⟩
 ·rintro vs ⟨n,rfl,hn⟩;refine⟨rfl,?_⟩;simp[SE.den,aj,ov];by_cases z:n=0
  rotate_left
  ·left;exact⟨z,by simp[z];exactλo=>z (hn.2 (DO o))⟩
  right;refine⟨z,?_⟩;unfold UH;refine aw p.rules.length (λi (_:Unit)=>[iI i]) (λi _=>∀r∈p.rules.take i,uO p.decls r) () ?_ (by simp) λi _ hi hI=>?_
  ·simp[SE.den]
  by_cases ai:i<p.rules.length
  ·have hw:=aD ai (by omega);have hm:=asO ai;obtain⟨m,hF,hb⟩:=v84 p.decls p.rules[i] ⟨by unfold Sm;omega,h.rs _ hm,h.rn _ hm⟩;rw[js]at hb;simp[SE.den,ai,hw,Ig ai,aj];refine⟨_,hb,?_⟩;simp[ov];by_cases z:m=0
   ·right;exact⟨z,.mk () rfl (by omega) (aC ai hI (hF.1 z))⟩
   ·left;exact⟨z,by simp[z];exactλo=>z (hF.2 (DP o _ hm))⟩
  ·simp[SE.den,ai];exact hO (hn.1 z) (aK ai hI)
end
theorem aru(ks l:List Int)(hl:Sm l):∃b,(b=ab↔∀v∈l,v∈ks)/\sg asK 86 (ks.map na) [iL l] (iB b):=by
 have hs:Rz.sat asK CC (ou λb=>b=ab↔∀v∈l,v∈ks) [] [iM ks,iL l]:=by
  simp[Rz,Ry,SE.den,aj];refine aw l.length (λi (_:Unit)=>[iI i]) (λi _=>∀v∈l.take i,v∈ks) () ?_ (by simp) λi _ hi hI=>?_
  ·simp[SE.den]
  by_cases ai:i<l.length
  ·have hw:=aD ai hl;have vn:=T_ (ν:=[iM ks,iI l[i]]) (m:=.var 0) (key:=.var 1) (ks:=ks) (k:=l[i]) rfl rfl;have Iv:=T9 (ν:=[iM ks,iI l[i]]) (m:=.var 0) (key:=.var 1) (ks:=ks) (k:=l[i]) rfl rfl;simp[SE.den]at vn Iv;simp only[iI]at vn Iv;simp[SE.den,ai,hw,dN ai,aj];obtain⟨hq,TZ,JB⟩:=Iv;refine⟨⟨_,vn⟩,iB (decide (l[i]∈ks)),⟨hq,TZ,by rw[JB]⟩,?_⟩;by_cases z:l[i]∈ks
   ·simp[z,aA];exact .mk () rfl (by omega) (aC ai hI z)
   ·simp[z,aA];exact⟨_,asO ai,z⟩
  ·simp[SE.den,ai,aA];exact aK ai hI
 obtain⟨z,⟨b,rfl,hb⟩,h2⟩:=yR (by rfl) hs;exact⟨b,hb,sg.oj mixed wM anc n86 (by simp) (J_ _) ⟨_,rfl,rfl⟩ h2⟩
theorem XV(new:Bool)(ks l:List Int)(hl:Sm l):∃b,(b=ab↔∀v∈l,v∈ks)/\CC 2222 new [iM ks,iL l] (iB b):=by
 obtain⟨b,h0,hb⟩:=aru ks l hl;have h:=nP.look (new:=new) (lx n86) hb;rw[dW]at h;refine⟨b,h0,?_⟩;unfold CC;rw[dW];exact h
section
variable{Q:IV->Prop}{k0 k1 k2:List IV->Prop}{x0 x1 x2 x3 x4 x5 x6 x7 x8 x9 eD jv:IV}
theorem anM(i:Nat)(hi:i<1000)(ks l:List Int)(hl:Sm l)(hk:∀q,(∀v,v∈q↔v∈ks\/v∈l)->k0 [iI (i+1:Nat),iM q]):UK.sat asK CC Q [k0] [x0,x1,iI i,iM ks,x4,iL l]:=by
 have gx:=aD hi (by omega);refine aw l.length (λj (q:List Int)=>[iI j,iM q]) (λj q=>∀v,v∈q↔v∈ks\/v∈l.take j) ks ?_ (by simp) λj q hj hI=>?_
 ·simp[SE.den]
 by_cases ai:j<l.length
 ·have hw:=aD ai hl;have sF:=Gw (ν:=[iM q,iI l[j]]) (m:=.var 0) (key:=.var 1) (ks:=q) (k:=l[j]) rfl rfl;simp[SE.den]at sF;simp only[iI]at sF;simp[SE.den,ai,hw,dN ai,aj];refine⟨_,sF,.mk _ rfl (by omega) λv=>?_⟩;rw[FD,hI,asX ai,as8,atF,or_assoc]
 ·simp[SE.den,ai,gx];rw[as0 (by omega)]at hI;exact hk q hI
theorem anN(i:Nat)(hi:i<1000)(ks:List Int)(a n:Int)(s t:IV)(hk:∀q,(∀v,v∈q↔v∈ks\/v=n)->k1 [iI (i+1:Nat),iM q]):UL.sat asK CC Q [k0,k1] [x0,x1,x2,x3,iI i,iM ks,x6,.agg [iI a,iI n,s,t],x8,x9,eD,jv]:=by
 have gx:=aD hi (by omega);have hx:∀j (hj:j<[n].length),dy 1 (iL [n]) (iI (j:Nat))=aa (iI [n][j]):=λj hj=>dN hj;refine aw 1 (λj (q:List Int)=>[iI j,iM q]) (λj q=>∀v,v∈q↔v∈ks\/(j=1/\v=n)) ks ?_ (by simp) λj q hj hI=>?_
 ·simp[SE.den]
 by_cases ai:j<1
 ·have hw:=aD ai (by omega);have h0:j=0:=by omega
  subst h0;have sF:=Gw (ν:=[iM q,iI n]) (m:=.var 0) (key:=.var 1) (ks:=q) (k:=n) rfl rfl;simp[SE.den]at sF;simp only[iI]at sF;have iP:dy 1 (.tree 1 [iI n]) (iI 0)=aa (iI n):=hx 0 (by simp);simp[SE.den,aj,cellsOf,iP];refine⟨_,sF,?_⟩;have Qv:IntKind.i64.wrap 1=1:=cQ (by omega) (by omega);simp[Qv];refine .mk _ rfl (by omega) λv=>?_;rw[FD,hI];simp
 ·have h1:j=1:=by omega
  subst h1;simp[SE.den,aj,cellsOf,gx];exact hk q λv=>by rw[hI];simp
theorem anO{O:Prop}(r:Rl)(hg:r.body.length<=6)(hb:∀g∈r.body,ta g/\wO g/\(g.op≠0->gM g.op=g.ts.length))(fH:∀g∈r.body,g.op=0\/g.op=1\/g.op=2\/g.op=3\/g.op=4)(ks:List Int)(hO:nR ks r.body↔O):UM.sat asK CC (ou λb=>b=ab↔O) [k0] [aR r,x1,x2,iM ks]:=by
 refine aw r.body.length (λj (q:List Int)=>[iI j,iM q]) (λj q=>O↔nR q (r.body.drop j)) ks ?_ (by simpa using hO.symm) λj q hj hG=>?_
 ·simp[SE.den,aj]
 by_cases ai:j<r.body.length
 ·have hw:=aD ai (by omega);obtain⟨h1,h2,h3⟩:=hb _ (asO ai);have ho:=fH _ (asO ai);have UT:=c87 af r.body[j] h1 h2;obtain⟨b,DT,h22⟩:=XV ab q (varsOf r.body[j].ts) (by have:=yY h2;unfold Sm;omega);rw[ata ai]at hG;simp[SE.den,ai,hw,mI ai,aj];by_cases z1:r.body[j].op=1
  ·rw[XU (by omega) (by omega) (by omega)]at hG;left;exact⟨z1,.mk _ rfl (by omega) hG⟩
  right;refine⟨z1,?_⟩;by_cases z2:r.body[j].op=2
  ·rw[XU (by omega) (by omega) (by omega)]at hG;left;exact⟨z2,.mk _ rfl (by omega) hG⟩
  right;refine⟨z2,?_⟩;by_cases z3:r.body[j].op=0
  ·left;refine⟨z3,_,UT,?_⟩;rw[aeG z3]at hG;simp;refine⟨_,h22,?_⟩;cases b<;>simp
   ·intro o;have:=DT.2 (hG.1 o).1;cases this
   exact .mk _ rfl (by omega) (hG.trans ⟨λh=>h.2,λh=>⟨DT.1 rfl,h⟩⟩)
  right;refine⟨z3,?_⟩;by_cases z4:r.body[j].op=4
  rotate_left
  ·rw[aeF (by omega)]at hG;right;exact⟨z4,hG.1⟩
  left;refine⟨z4,?_⟩;have hlen:r.body[j].ts.length=2:=by have:=h3 z3;rw[z4]at this;simp[gM]at this;omega
  have i0:=vl (l:=r.body[j].ts) (i:=0) (by omega);have i1:=vl (l:=r.body[j].ts) (i:=1) (by omega);have m0:=asO (l:=r.body[j].ts) (n:=0) (by omega);have m1:=asO (l:=r.body[j].ts) (n:=1) (by omega)
  have q7:r.body[j].ts=[r.body[j].ts[0],r.body[j].ts[1]]:=by
   apply List.ext_getElem
   ·simp[hlen]
   ·intro i g1 g2
    match i,g2 with
    |0,_=>rfl
    |1,_=>rfl
  rw[aeH z4 q7]at hG;have h88:=c88 af r.body[j].ts[1] (h1.2.2 _ m1) (h2 _ m1);have hv:(varsOf [r.body[j].ts[1]]).length<=1048577:=yY (by simpa using h2 _ m1);obtain⟨b',cN,g22⟩:=XV ab q (varsOf [r.body[j].ts[1]]) (by unfold Sm;omega);generalize varsOf [r.body[j].ts[1]]=l1 at*
  have vn:=T_ (ν:=[iM q,iI r.body[j].ts[0].n]) (m:=.var 0) (key:=.var 1) (ks:=q) (k:=r.body[j].ts[0].n) rfl rfl;have Iv:=T9 (ν:=[iM q,iI r.body[j].ts[0].n]) (m:=.var 0) (key:=.var 1) (ks:=q) (k:=r.body[j].ts[0].n) rfl rfl;simp[SE.den]at vn Iv;simp only[iI]at vn Iv;rw[bU]at i0 i1 h88;simp only[iI,Int.natCast_zero,Int.natCast_one]at i0 i1;generalize r.body[j].ts[0].n=tn at*
  refine⟨_,i0,?_⟩;simp[aj];by_cases y1:r.body[j].ts[0].k=1
  rotate_left
  ·left;exact⟨y1,λo=>y1 (hG.1 o).1⟩
  right;refine⟨y1,?_⟩;obtain⟨hq,TZ,JB⟩:=Iv;refine⟨⟨_,vn⟩,iB (decide (tn∈q)),⟨hq,TZ,by rw[JB]⟩,?_⟩;by_cases y2:tn∈q
  ·simp[y2];exactλo=>(hG.1 o).2.1 y2
  simp[y2];refine⟨_,i1,?_⟩;simp[aj];refine⟨_,h88,?_⟩;simp;refine⟨_,g22,?_⟩;cases b'<;>simp
  ·intro o;have:=cN.2 (hG.1 o).2.2.1;cases this
  exact⟨rfl,⟨_,rfl⟩,anN j (by omega) q _ _ _ _ λq' wo=>.mk q' rfl (by omega) (hG.trans (by
   rw[BD _ q' (q++[tn]) (λv=>by rw[wo];simp)];exact⟨λh=>h.2.2.2,λh=>⟨y1,y2,cN.1 rfl,h⟩⟩))⟩
 ·rw[atg (by omega),nR]at hG;simp[SE.den,ai];exact hG.2 trivial
theorem anP(r:Rl)(hg:r.body.length<=6)(hb:∀g∈r.body,ta g/\wO g/\(g.op≠0->gM g.op=g.ts.length))(fH:∀g∈r.body,g.op=0\/g.op=1\/g.op=2\/g.op=3\/g.op=4)(l:List At)(hl:l.length<=100)(hn:∀a∈l,nz a/\wN a):
 UN.sat asK CC (ou λb=>b=ab↔nR (fy l) r.body) [] [aR r,h_ l]:=by
 refine aw l.length (λj (q:List Int)=>[iI j,iM q]) (λj q=>∀v,v∈q↔v∈fy (l.take j)) [] ?_ (by simp[fy]) λj q hj hI=>?_
 ·simp[SE.den,aj]
 by_cases ai:j<l.length
 ·obtain⟨h1,h2⟩:=hn _ (asO ai);have DM:=US af l[j] h1 h2;have hva:=Kh ai;have GM:=yY h2;generalize varsOf l[j].ts=u at DM hva GM;simp[SE.den,ai,ly ai,aj];refine⟨_,DM,?_⟩;simp;exact anM j (by omega) q _ (by unfold Sm;omega) λq' wo=>.mk q' rfl (by omega) λv=>by rw[wo,hI,hva,as8]
 ·rw[as0 (by omega)]at hI;simp[SE.den,ai,aj];exact anO r hg hb fH q (BD _ _ _ hI)
end
theorem aa6{g:Gl}(h:er g=ab):0<=g.op/\g.op<=12:=by
 unfold er at h;split at h
 ·omega
 ·simp only[Bool.and_eq_true]at h;have h1:=of_decide_eq_true h.1.2;unfold gM at h1;split at h1
  ·omega
  split at h1
  ·omega
  split at h1<;>omega
theorem v33(ds:List De)(r:Rl)(h:NT ds r)(ho:uO ds r):∃b,(b=ab↔NU r)/\CC 33 af [ph r] (iB b):=by
 refine CC.qP _ aq2 n33 t33 (by simpa using jK r) (by rfl) ?_;have h3:=h.s.h;have hk:jM ds r:=⟨h.d,h.s,h.n,ho.fo h.n⟩;have h85:=c85 r (by omega);rw[js]at h85⊢;simp[aes,SE.den,aj];refine⟨_,h85,?_⟩;simp;refine anP r h.s.b (λg hg=>?_) (λg hg=>?_) (r.keep++r.remove) (by rw[atc];omega) λa ha=>?_
 ·exact⟨(hk.body.2 g hg).1,(hk.body.2 g hg).2,(hk.f.gs g (atx _ hg)).1⟩
 ·have h1:=aa6 (ho.gs g (atx _ hg));have h2:=ho.m.b g hg;simp[kK]at h2;omega
 ·rcases as8.1 ha with ha|ha
  ·exact hk.keep.2 a ha
  ·exact hk.remove.2 a ha
theorem v11(p:Pg)(h:yW p):CC 11 af [dm p] (iI (iZ p)):=by
 refine CC.ada aq1 n11 t11 (by simpa using fx p) (by rfl) ?_;obtain⟨a,n,hn,h32⟩:=v32 p h;have hd:=h.d;have hr:=h.r;have e2:=λm:¬pL p=>Sv m;have Sw:=λ(a:pL p) (r) (hr:r∈p.rules) (m:¬NU r)=>LX a λo=>m (o.c r hr);have e0:=λa b=>Su (⟨a,b⟩:NV p);have cF:pL p->∀r∈p.rules,uO p.decls r:=λo=>o.r;generalize iZ p=N at e2 Sw e0⊢;generalize pL p=O' at e2 Sw e0 hn cF;simp only[dm]at*
 simp[aer,SE.den,aj];refine⟨_,h32,?_⟩;simp[ov];by_cases z:n=0
 rotate_left
 ·left;exact⟨z,(e2 λo=>z (hn.2 o)).symm⟩
 right;refine⟨z,?_⟩;unfold UJ;refine aw p.rules.length (λi (_:Unit)=>[iI i]) (λi _=>∀r∈p.rules.take i,NU r) () ?_ (by simp) λi _ hi hI=>?_
 ·simp[SE.den]
 by_cases ai:i<p.rules.length
 ·have hw:=aD ai (by omega);have hm:=asO ai;obtain⟨b,DT,hb⟩:=v33 p.decls p.rules[i] ⟨by unfold Sm;omega,h.rs _ hm,h.rn _ hm⟩ (cF (hn.1 z) _ hm);rw[js]at hb;simp[SE.den,ai,hw,Ig ai,aj];refine⟨_,hb,?_⟩;cases b<;>simp
  ·exact(Sw (hn.1 z) _ hm λo=>by have:=DT.2 o;cases this).symm
  exact .mk () rfl (by omega) (aC ai hI (DT.1 rfl))
 ·simp[SE.den,ai];exact(e0 (hn.1 z) (aK ai hI)).symm
end Go.Proofs.YtggffkaadeagbaaGreat
namespace Go.Proofs.YtggffkaadeagbaaGreat
open Go Go.Ev
abbrev nA(l:List Int):Prop:=l.Pairwise (·<·)
theorem Vi{o:List Int}{n:Int}{k:Nat}(h:nA o)(h1:∀x∈o.take k,x<n)(h2:∀x∈o.drop k,n<x):nA (o.take k++[n]++o.drop k):=by
 have h0:nA (o.take k++o.drop k):=by rw[auv];exact h
 rw[nA,aum]at h0;rw[nA,List.append_assoc,aum];refine⟨h0.1,?_,?_⟩
 ·simp only[awZ,av2];exact⟨h2,h0.2.1⟩
 ·intro a ha b hb;simp only[awZ,aty]at hb;rcases hb with rfl|hb
  ·exact h1 a ha
  ·exact h0.2.2 a ha b hb
theorem Vj{o:List Int}{n:Int}(k:Nat)(x:Int):x∈o.take k++[n]++o.drop k↔x∈o\/x=n:=by
 have:x∈o↔x∈o.take k++o.drop k:=by rw[auv]
 rw[this];simp only[as8,atF];exact⟨λh=>by rcases h with(h|h)|h<;>simp[h],λh=>by rcases h with(h|h)|h<;>simp[h]⟩
theorem Vk{o:List Int}{n:Int}{k:Nat}(h:nA o)(hk:k<o.length)(hn:n<o[k]):∀x∈o.drop k,n<x:=by
 rw[ata hk];have h0:nA (o.take k++o.drop k):=by rw[auv];exact h
 rw[nA,aum,ata hk,av2]at h0;intro x hx;rcases aty.1 hx with rfl|hx
 ·exact hn
 ·have:=h0.2.1.1 x hx;omega
section
variable{Q:IV->Prop}{k0 k1 k2:List IV->Prop}
theorem ajz{x0 x1 x3:IV}{a o:List Int}{i:Nat}(hi:i<a.length)(ha:a.length<=1000000)(ho:o.length<=1000000)(hs:nA o)(h:∀o':List Int,o'.length<=o.length+1->nA o'->(∀x,x∈o'↔x∈o\/x=a[i])->k1 [iI (i+1:Nat),iL o']):
 Nh.sat asK CC Q [k0,k1] [x0,x1,iL a,x3,iI i,iL o]:=by
 have gx:=aD hi (by omega);refine aw o.length (λk (_:Unit)=>[iI k]) (λk _=>∀x∈o.take k,x<a[i]) () ?_ (by simp) λk _ hk hI=>?_
 ·simp[SE.den]
 have bE:=Rj (L:=o) (k:=k) hk;have dK:=Rk (L:=o) (k:=k) hk;have l0:(o.take k).length<=o.length:=by simp;omega
 have l1:(o.take k).length+(o.drop k).length=o.length:=by simp;omega
 have hA:=λ(h2:∀x∈o.drop k,a[i]<x)=>Vi (n:=a[i]) hs hI h2;have hM:=λx=>Vj (o:=o) (n:=a[i]) k x;have hD:(∀x∈o.drop k,a[i]<x)->nA (o.take k++[a[i]]++o.drop k):=hA;have re:¬k<o.length->∀x∈o.drop k,a[i]<x:=λh x hx=>by rw[atg (by omega)]at hx;cases hx
 have zi:=λ(h:k<o.length) (hn:a[i]<o[k])=>Vk hs h hn;have cw:=λ(h:k<o.length) (hn:o[k]<a[i])=>aC h hI hn;have tc:∀(h:k<o.length),o[k]=a[i]->∀x,x∈o↔x∈o\/x=a[i]:=λh e x=>⟨.inl,λq=>q.elim id λq=>by rw[q,<-e];exact asO h⟩;clear hA;generalize hP:(∀x∈o.drop k,a[i]<x)=PP at hD re zi;generalize hQ:(∀x∈o.take (k+1),x<a[i])=QQ at cw;generalize o.take k=tk at bE l0 l1 hM hD;generalize o.drop k=dk at dK l1 hM hD;have pR:=oN (a:=[]) (b:=tk) (by simp;omega);have bN:=oN (a:=tk) (b:=[a[i]]) (by simp;omega);have fa:(tk++[a[i]]).length=tk.length+1:=by simp
 generalize tk++[a[i]]=u1 at bN fa hM hD;have gG:=oN (a:=u1) (b:=dk) (by omega);have GS:(u1++dk).length=u1.length+dk.length:=by simp
 generalize u1++dk=u2 at gG GS hM hD;have sq:PP->k1 [iI (i+1:Nat),iL u2]:=λq=>h _ (by omega) (hD q) hM;have Ki:=λq=>h o (by omega) hs q;have hai:=dN hi;simp only[iL,aun,atJ,atO]at bE dK pR bN gG sq hai Ki;by_cases ai:k<o.length
 ·have hw:=aD ai (by omega);have bz:=dN ai;simp only[iL]at bz;simp[SE.den,ai,hw,gx,bz,hai,cellsOf,bE,dK,pR,bN,gG,aA];by_cases z:o[k]<a[i]
  ·left;exact⟨z,.mk () rfl (by omega) (hQ▸cw ai z)⟩
  right;refine⟨by omega,?_⟩;by_cases z2:o[k]=a[i]
  ·left;exact⟨z2,Ki (tc ai z2)⟩
  ·right;exact⟨z2,sq (zi ai (by omega))⟩
 ·simp[SE.den,ai,gx,hai,cellsOf,bE,dK,pR,bN,gG,aA];exact sq (re ai)
theorem ajA{x0 x1 x2 x3 x4 x5 x7:IV}{o:List Int}{n:Int}{i m:Nat}(hi:i<m)(ha:m<=1000000)(ho:o.length<=1000000)(hs:nA o)(h:∀o':List Int,o'.length<=o.length+1->nA o'->(∀x,x∈o'↔x∈o\/x=n)->k2 [iI (i+1:Nat),x7,iL o']):
 Ni.sat asK CC Q [k0,k1,k2] [x0,x1,x2,x3,x4,x5,iI i,x7,iL o,iI n]:=by
 have gx:=aD hi (by omega);refine aw o.length (λk (_:Unit)=>[iI k]) (λk _=>∀x∈o.take k,x<n) () ?_ (by simp) λk _ hk hI=>?_
 ·simp[SE.den]
 have bE:=Rj (L:=o) (k:=k) hk;have dK:=Rk (L:=o) (k:=k) hk;have l0:(o.take k).length<=o.length:=by simp;omega
 have l1:(o.take k).length+(o.drop k).length=o.length:=by simp;omega
 have hA:=λ(h2:∀x∈o.drop k,n<x)=>Vi (n:=n) hs hI h2;have hM:=λx=>Vj (o:=o) (n:=n) k x;have hD:(∀x∈o.drop k,n<x)->nA (o.take k++[n]++o.drop k):=hA;have re:¬k<o.length->∀x∈o.drop k,n<x:=λh x hx=>by rw[atg (by omega)]at hx;cases hx
 have zi:=λ(h:k<o.length) (hn:n<o[k])=>Vk hs h hn;have cw:=λ(h:k<o.length) (hn:o[k]<n)=>aC h hI hn;have tc:∀(h:k<o.length),o[k]=n->∀x,x∈o↔x∈o\/x=n:=λh e x=>⟨.inl,λq=>q.elim id λq=>by rw[q,<-e];exact asO h⟩;clear hA;generalize hP:(∀x∈o.drop k,n<x)=PP at hD re zi;generalize hQ:(∀x∈o.take (k+1),x<n)=QQ at cw;generalize o.take k=tk at bE l0 l1 hM hD;generalize o.drop k=dk at dK l1 hM hD;have pR:=oN (a:=[]) (b:=tk) (by simp;omega);have bN:=oN (a:=tk) (b:=[n]) (by simp;omega);have fa:(tk++[n]).length=tk.length+1:=by simp
 generalize tk++[n]=u1 at bN fa hM hD;have gG:=oN (a:=u1) (b:=dk) (by omega);have GS:(u1++dk).length=u1.length+dk.length:=by simp
 generalize u1++dk=u2 at gG GS hM hD;have sq:PP->k2 [iI (i+1:Nat),x7,iL u2]:=λq=>h _ (by omega) (hD q) hM;have Ki:=λq=>h o (by omega) hs q;simp only[iL,aun,atJ,atO]at bE dK pR bN gG sq Ki;by_cases ai:k<o.length
 ·have hw:=aD ai (by omega);have bz:=dN ai;simp only[iL]at bz;simp[SE.den,ai,hw,gx,bz,cellsOf,bE,dK,pR,bN,gG,aA];by_cases z:o[k]<n
  ·left;exact⟨z,.mk () rfl (by omega) (hQ▸cw ai z)⟩
  right;refine⟨by omega,?_⟩;by_cases z2:o[k]=n
  ·left;exact⟨z2,Ki (tc ai z2)⟩
  ·right;exact⟨z2,sq (zi ai (by omega))⟩
 ·simp[SE.den,ai,gx,cellsOf,bE,dK,pR,bN,gG,aA];exact sq (re ai)
end
theorem anQ(l:List Fa)(hl:l.length<=100)(hj:∀f∈l,f.j.length<=20):∃v:List Int,(v.length<=2000/\nA v/\∀x,x∈v↔∃f∈l,x∈f.j)/\CC 101 ab [gL l] (iL v):=by
 refine CC.ah_ (λv=>v.length<=2000/\nA v/\∀x,x∈v↔∃f∈l,x∈f.j) ail n101 t101 (by simp) (by rfl) ?_;simp[Uv,SE.den,aj];unfold Nl;refine aw l.length (λi (a:List Int)=>[iI i,iL a]) (λi a=>a.length<=20*i/\nA a/\∀x,x∈a↔∃f∈l.take i,x∈f.j) [] ?_ (by simp) λi a hi hI=>?_
 ·simp[SE.den]
 obtain⟨hI,hIa,hIm⟩:=hI;by_cases ai:i<l.length
 ·have hw:=aD ai (by omega);have Ds:=hj _ (asO ai);simp[SE.den,ai,yU ai,aj];unfold Nk;refine aw a.length (λi (o:List Int)=>[iI i,iL o]) (λi o=>o.length<=i/\nA o/\∀x,x∈o↔x∈a.take i) [] ?_ (by simp) λi1 o Pj oT=>?_
  ·simp[SE.den]
  obtain⟨oT,ajB,adb⟩:=oT;by_cases eu:i1<a.length
  ·simp[SE.den,eu,dN eu]
   exact ajz eu (by omega) (by omega) ajB λo' ho' ha hm=>.mk o' rfl (by omega) ⟨by omega,ha,λx=>by
    rw[hm,adb,asX eu,as8,atF]⟩
  rw[as0 (by omega)]at adb;simp[SE.den,eu];unfold Nj;refine aw l[i].j.length (λi (o:List Int)=>[iI i,iL a,iL o]) (λj o'=>o'.length<=o.length+j/\nA o'/\∀x,x∈o'↔x∈a\/x∈l[i].j.take j) o ?_ ⟨by omega,ajB,by simpa using adb⟩ λi2 o2 Ys iR=>?_
  ·simp[SE.den]
  obtain⟨iR,ajC,ade⟩:=iR;by_cases dZ:i2<l[i].j.length
  ·simp[SE.den,dZ,dN dZ]
   exact ajA dZ (by omega) (by omega) ajC λo' ho' ha hm=>.mk o' rfl (by omega) ⟨by omega,ha,λx=>by
    rw[hm,ade,asX dZ,as8,atF,or_assoc]⟩
  ·rw[as0 (by omega)]at ade;simp[SE.den,dZ,hw]
   exact .mk o2 (by simp) (by omega) ⟨by omega,ajC,λx=>by
    rw[ade,hIm,asX ai];simp only[as8,atF];exact⟨λh=>h.elim (λ⟨f,h1,h2⟩=>⟨f,.inl h1,h2⟩) λh=>⟨_,.inr rfl,h⟩,λ⟨f,h1,h2⟩=>h1.elim (λh=>.inl ⟨f,h,h2⟩) λh=>.inr (h▸h2)⟩⟩
 ·rw[as0 (by omega)]at hIm;simp[SE.den,ai];exact⟨by omega,hIa,hIm⟩
end Go.Proofs.YtggffkaadeagbaaGreat
namespace Go.Proofs.YtggffkaadeagbaaGreat
open Go Go.Ev
theorem Kj:∀{a b:List Int},nA a->nA b->(∀x,x∈a↔x∈b)->a=b
 |[],[],_,_,_=>rfl
 |[],y::b,_,_,h=>absurd ((h y).2 (by simp)) (by simp)
 |x::a,[],_,_,h=>absurd ((h x).1 (by simp)) (by simp)
 |x::a,y::b,ha,hb,h=>by
  rw[nA,av2]at ha hb
  have e:x=y:=by
   have h1:=(h x).1 (by simp);have h2:=(h y).2 (by simp);rcases aty.1 h1 with h1|h1
   ·exact h1
   ·rcases aty.1 h2 with h2|h2
    ·exact h2.symm
    ·have:=ha.1 y h2;have:=hb.1 x h1;omega
  subst e
  congr 1
  refine Kj ha.2 hb.2 λz=>⟨λhz=>?_,λhz=>?_⟩
  ·rcases aty.1 ((h z).1 (at6 _ hz))with e|e
   ·subst e;have:=ha.1 z hz;omega
   ·exact e
  ·rcases aty.1 ((h z).2 (at6 _ hz))with e|e
   ·subst e;have:=hb.1 z hz;omega
   ·exact e
theorem Hm(d:Array Int)(hs:∀i j,i<=j->j<d.size->d[i]! <=d[j]!):∀m,m<=d.size->nA (avU d m)/\∀x,x∈avU d m↔∃j,j<m/\d[j]! =x
 |0,_=>by simp[avU]
 |m+1,h=>by
  obtain⟨h1,h2⟩:=Hm d hs m (by omega);rw[Go.Lib.compactUpTo_succ];by_cases hk:m=0\/d[m]! ≠d[m- 1]!
  ·have nw:axR d m=ab:=by
    by_cases h0:m=0
    ·exact Go.Lib.keeps_lt_one d m (by omega)
    ·exact Go.Lib.keeps_pos (hk.resolve_left h0)
   rw[if_pos nw];refine⟨?_,λx=>?_⟩
   ·rw[nA,aum];refine⟨h1,by simp,λa ha b hb=>?_⟩;obtain⟨j,hj,rfl⟩:=(h2 a).1 ha;simp at hb;subst hb;have hm:=hk.resolve_left (by omega);have g1:=hs j (m- 1) (by omega) (by omega);have g2:=hs (m- 1) m (by omega) (by omega);omega
   ·rw[as8,h2,atF];exact⟨λh=>h.elim (λ⟨j,hj,e⟩=>⟨j,by omega,e⟩) λe=>⟨m,by omega,e.symm⟩,λ⟨j,hj,e⟩=>(au7.1 hj).elim (λh=>.inl ⟨j,h,e⟩) λh=>.inr (by rw[<-e,h])⟩
  ·have hm:0<m:=by omega
   have he:d[m]! =d[m- 1]! :=atA λh=>hk (.inr h);have hkn:axR d m=af:=Go.Lib.keeps_neg hm he;rw[hkn];refine⟨by simpa using h1,λx=>?_⟩;simp only[Bool.false_eq_true,if_false,List.append_nil];rw[h2];exact⟨λ⟨j,hj,e⟩=>⟨j,by omega,e⟩,λ⟨j,hj,e⟩=>(au7.1 hj).elim (λh=>⟨j,h,e⟩) λh=>⟨m- 1,by omega,by rw[<-e,h,he]⟩⟩
theorem XW(ls:List (List Int)):nA (eW ls)/\∀x,x∈eW ls↔x∈ls.flatten:=by
 have hp:=List.mergeSort_perm ls.flatten λx y=>decide (x<=y);have ajD:=List.pairwise_mergeSort (le:=λ(x y:Int)=>decide (x<=y)) (λa b c=>by simp;omega) (λa b=>by simp;omega) ls.flatten;unfold eW;generalize ls.flatten.mergeSort (λx y=>decide (x<=y))=s at hp ajD;unfold Go.Lib.compact;have hg:∀i (h:i<s.length),s.toArray[i]! =s[i]:=λi h=>by simp[h]
 obtain⟨h1,h2⟩:=Hm s.toArray (λi j nI hj=>by
  have fZ:j<s.length:=by simpa using hj
  rw[hg i (by omega),hg j fZ];by_cases e:i=j
  ·subst e;omega
  ·have:=auY.1 ajD i j (by omega) fZ (by omega);simpa using this) s.length (by simp)
 refine⟨h1,λx=>?_⟩;rw[h2,<-hp.mem_iff];constructor
 ·rintro⟨j,hj,e⟩;rw[hg j hj]at e;exact e▸asO hj
 ·intro hx;obtain⟨j,hj,e⟩:=List.getElem_of_mem hx;exact⟨j,hj,by rw[hg j hj,e]⟩
theorem anR(l:List Fa)(hl:l.length<=100)(hj:∀f∈l,f.j.length<=20):(eW (l.map Fa.j)).length<=2000/\CC 101 ab [gL l] (iL (eW (l.map Fa.j))):=by
 obtain⟨v,⟨h0,h1,h2⟩,h⟩:=anQ l hl hj;obtain⟨g1,g2⟩:=XW (l.map Fa.j)
 have e:v=eW (l.map Fa.j):=Kj h1 g1 λx=>by
  rw[h2,g2];simp only[List.mem_flatten,List.mem_map];exact⟨λ⟨f,a,b⟩=>⟨_,⟨f,a,rfl⟩,b⟩,λ⟨_,⟨f,a,e⟩,b⟩=>⟨f,a,e▸b⟩⟩
 subst e;exact⟨h0,h⟩
def JOk(l:List Int):Prop:=(∀x∈l,1<=x/\x<=64)/\nA l
theorem aa7{l:List Int}{i:Nat}(h:i<l.length)(h0:0<i)(hk:l[i]<=l[i- 1]):¬nA l:=λha=>by
 have:=auY.1 ha (i- 1) i (by omega) h (by omega);omega
theorem v99(l:List Int)(hl:Sm l):∃b,(b=ab↔JOk l)/\CC 99 af [iL l] (iB b):=by
 refine CC.qP _ aqw n99 t99 (by simp) (by rfl) ?_;simp[ad9,Ul,SE.den,aj];refine aw l.length (λi (_:Unit)=>[iI i]) (λi _=>(∀x∈l.take i,1<=x/\x<=64)/\(l.take i).Pairwise (·<·)) () ?_ (by simp) λi _ hi hI=>?_
 ·simp[SE.den]
 obtain⟨iU,hI⟩:=hI;by_cases ai:i<l.length
 ·have hw:=aD ai hl;have hm:=asO ai;simp[SE.den,ai,hw,dN ai,aj];by_cases z1:l[i]<1
  ·left;exact⟨z1,λo=>by have:=o.1 _ hm;omega⟩
  right;refine⟨by omega,?_⟩;by_cases z2:64<l[i]
  ·left;exact⟨z2,λo=>by have:=o.1 _ hm;omega⟩
  right;refine⟨by omega,?_⟩;have cw:=aC (p:=λx:Int=>1<=x/\x<=64) ai iU ⟨by omega,by omega⟩;by_cases z3:0<i
  ·left;refine⟨z3,?_⟩;have hm:=Gy z3 (ayl ai) hl;have gk:i- 1<l.length:=by omega
   have hx:=dN gk;simp only[iL]at hx;simp[hm,hx];by_cases z4:l[i]<=l[i- 1]
   ·left;exact⟨z4,λo=>aa7 ai z3 z4 o.2⟩
   ·right;exact⟨by omega,.mk () rfl (by omega) ⟨cw,C_ ai hI λ_ _=>by omega⟩⟩
  ·right;exact⟨by omega,.mk () rfl (by omega) ⟨cw,C_ ai hI λh=>absurd h z3⟩⟩
 ·simp[SE.den,ai];rw[as0 (by omega)]at hI iU;exact⟨iU,hI⟩
theorem v96(l:List Int)(hl:Sm l):∃b,(b=ab↔JOk l)/\CC 96 af [iL l] (iB b):=by
 refine CC.qP _ aqY n96 t96 (by simp) (by rfl) ?_;simp[aep,UD,SE.den,aj];refine aw l.length (λi (_:Unit)=>[iI i]) (λi _=>(∀x∈l.take i,1<=x/\x<=64)/\(l.take i).Pairwise (·<·)) () ?_ (by simp) λi _ hi hI=>?_
 ·simp[SE.den]
 obtain⟨iU,hI⟩:=hI;by_cases ai:i<l.length
 ·have hw:=aD ai hl;have hm:=asO ai;simp[SE.den,ai,hw,dN ai,aj];by_cases z1:l[i]<1
  ·left;exact⟨z1,λo=>by have:=o.1 _ hm;omega⟩
  right;refine⟨by omega,?_⟩;by_cases z2:64<l[i]
  ·left;exact⟨z2,λo=>by have:=o.1 _ hm;omega⟩
  right;refine⟨by omega,?_⟩;have cw:=aC (p:=λx:Int=>1<=x/\x<=64) ai iU ⟨by omega,by omega⟩;by_cases z3:0<i
  ·left;refine⟨z3,?_⟩;have hm:=Gy z3 (ayl ai) hl;have gk:i- 1<l.length:=by omega
   have hx:=dN gk;simp only[iL]at hx;simp[hm,hx];by_cases z4:l[i]<=l[i- 1]
   ·left;exact⟨z4,λo=>aa7 ai z3 z4 o.2⟩
   ·right;exact⟨by omega,.mk () rfl (by omega) ⟨cw,C_ ai hI λ_ _=>by omega⟩⟩
  ·right;exact⟨by omega,.mk () rfl (by omega) ⟨cw,C_ ai hI λh=>absurd h z3⟩⟩
 ·simp[SE.den,ai];rw[as0 (by omega)]at hI iU;exact⟨iU,hI⟩
end Go.Proofs.YtggffkaadeagbaaGreat
