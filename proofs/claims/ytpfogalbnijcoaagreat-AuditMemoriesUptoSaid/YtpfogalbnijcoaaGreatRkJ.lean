/- A part of the proof, no condition: the check of a program; justifications. -/
import Derived.Test.YtpfogalbnijcoaaGreatRkG
import Derived.Test.YtpfogalbnijcoaaGreatRgI
import Derived.Test.YtpfogalbnijcoaaGreatRiM
import Derived.Test.YtpfogalbnijcoaaGreatRiP
open Go.Proofs.Tryz renaming prog->ar1
open List renaming getElem_mem->ar5,length_append->ass,take_of_length_le->asf,mem_append_right->asM,drop_eq_getElem_cons->asH,map_cons->asZ,map_nil->auA,drop_of_length_le->asJ,take_succ_eq_append_getElem->ase,mem_append->asn,mem_singleton->asU,take_append_drop->atI,pairwise_append->atB,singleton_append->awe,pairwise_cons->avi,mem_cons->asS,nil_append->as8,mem_cons_of_mem->atm,pairwise_iff_getElem->aue
open Nat renaming lt_succ_iff_lt_or_eq->aun,le_of_lt->axD
open Go.Lib renaming compactUpTo->ava,keeps->aw9
open Classical renaming byContradiction->asO
open Option renaming some->aa
open Bool renaming true->ab,false->af
set_option linter.all false
namespace Go.Proofs.YtpfogalbnijcoaaGreat
open Go Go.Ev
def nq(a:List Int):List Gl->Prop
 |[]=>True
 |g::l=>if g.op=3 then False else if g.op=0 then(∀v∈varsOf g.ts,v∈a)/\nq a l
  else if g.op=4 then∃t0 t1,g.ts=[t0,t1]/\t0.k=1/\t0.n∉a/\(∀v∈varsOf [t1],v∈a)/\nq (a++[t0.n]) l
  else nq a l
theorem Bt:∀(l:List Gl) (a b:List Int),(∀v,v∈a↔v∈b)->(nq a l↔nq b l)
 |[],_,_,_=>Iff.rfl
 |g::l,a,b,h=>by
  unfold nq;split
  ·rfl
  split
  ·rw[Bt l a b h];simp only[h]
  split
  ·refine exists_congr λt0=>exists_congr λt1=>?_;rw[Bt l (a++[t0.n]) (b++[t0.n]) (λv=>by simp[h])];simp only[h]
  ·exact Bt l a b h
def Nc(r:Rl):Prop:=nq (fa (r.keep++r.remove)) r.body
theorem adS{a:List Int}{g:Gl}{l:List Gl}(h:g.op=3):nq a (g::l)↔False:=by rw[nq,if_pos h]
theorem adT{a:List Int}{g:Gl}{l:List Gl}(h:g.op=0):nq a (g::l)↔(∀v∈varsOf g.ts,v∈a)/\nq a l:=by rw[nq,if_neg (by omega),if_pos h]
theorem adU{a:List Int}{g:Gl}{l:List Gl}{t0 t1:Tm}(h:g.op=4)(ht:g.ts=[t0,t1]):nq a (g::l)↔t0.k=1/\t0.n∉a/\(∀v∈varsOf [t1],v∈a)/\nq (a++[t0.n]) l:=by
 rw[nq,if_neg (by omega),if_neg (by omega),if_pos h];refine⟨λ⟨u0,u1,e,h⟩=>?_,λh=>⟨t0,t1,ht,h⟩⟩;rw[ht]at e;injection e with e1 e2;injection e2 with e2 _;subst e1;subst e2;exact h
theorem Xe{a:List Int}{g:Gl}{l:List Gl}(h3:g.op≠3)(h0:g.op≠0)(h4:g.op≠4):nq a (g::l)↔nq a l:=by rw[nq,if_neg h3,if_neg h0,if_neg h4]
theorem v95(t:Tm)(h:WF t):CC 123 af [dH t] (iL (varsOf [t])):=by
 refine CC.CV aps n95 t95 (by simpa using ng t) (by rfl) ?_;have hb:=ach t h.1 h.2 [] Vr.nil;have e:cO [] (gd t)=varsOf [t]:=by show _=cO [] (fy [t]);simp[fy]
 rw[e]at hb;rw[cL]at hb⊢;simp[adm,SE.den,aj,aA,cellsOf];exact⟨_,hb,by simp⟩
section rule
variable{Q:IV->Prop}{k0 k1 k2 k3 k4 k5:List IV->Prop}
theorem amF{x0 x1 x2 x3 x4 x6 x7 x8:IV}{kn:List Int}{n:Int}(hk:kn.length<=1000000000)(h:k4 [iB (decide (n∈kn))]):
 T5.sat ar1 CC Q [k0,k1,k2,k3,k4] [x0,x1,x2,x3,x4,iL kn,x6,x7,x8,iI n]:=by
 refine aw kn.length (λi (_:Unit)=>[iI i]) (λi _=>∀x∈kn.take i,x≠n) () ?_ (by simp) λi _ hi hI=>?_
 ·simp[SE.den]
 by_cases ai:i<kn.length
 ·have hw:=aD ai (by omega);simp[SE.den,ai,hw,dI ai,cellsOf];by_cases he:kn[i]=n
  ·left;refine⟨he,?_⟩;rw[decide_eq_true (he▸ar5 ai)]at h;exact h
  ·right;exact⟨he,.mk () rfl (by omega) (aB ai hI he)⟩
 ·have:=aI ai hI;simp[SE.den,ai];rw[decide_eq_false (λhm=>this _ hm rfl)]at h;exact h
theorem aiG{x0 x1 x2 x3 x4 x6 x7 x8 x9 ek jf iU:IV}{kn:List Int}{n:Int}(hk:kn.length<=1000000000)(h:k4 [iB (decide (n∈kn))]):
 QE.sat ar1 CC Q [k0,k1,k2,k3,k4] [x0,x1,x2,x3,x4,iL kn,x6,x7,x8,x9,ek,jf,iU,iI n]:=by
 refine aw kn.length (λi (_:Unit)=>[iI i]) (λi _=>∀x∈kn.take i,x≠n) () ?_ (by simp) λi _ hi hI=>?_
 ·simp[SE.den]
 by_cases ai:i<kn.length
 ·have hw:=aD ai (by omega);simp[SE.den,ai,hw,dI ai,cellsOf];by_cases he:kn[i]=n
  ·left;refine⟨he,?_⟩;rw[decide_eq_true (he▸ar5 ai)]at h;exact h
  ·right;exact⟨he,.mk () rfl (by omega) (aB ai hI he)⟩
 ·have:=aI ai hI;simp[SE.den,ai];rw[decide_eq_false (λhm=>this _ hm rfl)]at h;exact h
theorem aiH{x0 x1 x2 x3 x4 x6 x7 a c d:IV}{kn:List Int}{n:Int}(hk:kn.length<=1000000000)(h:k2 [iB (decide (n∈kn))]):
 QD.sat ar1 CC Q [k0,k1,k2] [x0,x1,x2,x3,x4,iL kn,x6,x7,.agg [a,iI n,c,d]]:=by
 refine aw kn.length (λi (_:Unit)=>[iI i]) (λi _=>∀x∈kn.take i,x≠n) () ?_ (by simp) λi _ hi hI=>?_
 ·simp[SE.den]
 by_cases ai:i<kn.length
 ·have hw:=aD ai (by omega);simp[SE.den,ai,hw,dI ai,cellsOf];by_cases he:kn[i]=n
  ·left;refine⟨he,?_⟩;rw[decide_eq_true (he▸ar5 ai)]at h;exact h
  ·right;exact⟨he,.mk () rfl (by omega) (aB ai hI he)⟩
 ·have:=aI ai hI;simp[SE.den,ai];rw[decide_eq_false (λhm=>this _ hm rfl)]at h;exact h
theorem amG{x0 x1 x2 x3 x4 x6:IV}{kn l:List Int}(hk:kn.length<=1000000000)(hl:l.length<=1000000000)(h:∀b,(b=ab↔∀v∈l,v∈kn)->k2 [iB b]):
 T6.sat ar1 CC Q [k0,k1,k2] [x0,x1,x2,x3,x4,iL kn,x6,iL l]:=by
 refine aw l.length (λi (_:Unit)=>[iI i]) (λi _=>∀v∈l.take i,v∈kn) () ?_ (by simp) λi _ hi hI=>?_
 ·simp[SE.den]
 by_cases ai:i<l.length
 ·have hw:=aD ai (by omega);simp[SE.den,ai,hw,dI ai];refine gr (λvs=>vs=[iB (decide (l[i]∈kn))]) (amF hk rfl) ?_;rintro vs rfl;refine⟨rfl,?_⟩;by_cases hq:l[i]∈kn<;>simp[SE.den,hw,hq]
  ·exact .mk () rfl (by omega) (aB ai hI hq)
  ·exact h _ ⟨λh=>(by cases h),λh=>absurd (h _ (ar5 ai)) hq⟩
 ·simp[SE.den,ai];exact h _ ⟨λ_=>aI ai hI,λ_=>rfl⟩
theorem aiI{x0 x1 x2 x3 x4 x6 x7 x8 x9 ek:IV}{kn l:List Int}(hk:kn.length<=1000000000)(hl:l.length<=1000000000)(h:∀b,(b=ab↔∀v∈l,v∈kn)->k2 [iB b]):
 QF.sat ar1 CC Q [k0,k1,k2] [x0,x1,x2,x3,x4,iL kn,x6,x7,x8,x9,ek,iL l]:=by
 refine aw l.length (λi (_:Unit)=>[iI i]) (λi _=>∀v∈l.take i,v∈kn) () ?_ (by simp) λi _ hi hI=>?_
 ·simp[SE.den]
 by_cases ai:i<l.length
 ·have hw:=aD ai (by omega);simp[SE.den,ai,hw,dI ai];refine gr (λvs=>vs=[iB (decide (l[i]∈kn))]) (aiG hk rfl) ?_;rintro vs rfl;refine⟨rfl,?_⟩;by_cases hq:l[i]∈kn<;>simp[SE.den,hw,hq]
  ·exact .mk () rfl (by omega) (aB ai hI hq)
  ·exact h _ ⟨λh=>(by cases h),λh=>absurd (h _ (ar5 ai)) hq⟩
 ·simp[SE.den,ai];exact h _ ⟨λ_=>aI ai hI,λ_=>rfl⟩
end rule
theorem JQ{l:List At}{i:Nat}(h:i<l.length):fa (l.take (i+1))=fa (l.take i)++varsOf l[i].ts:=wa (f:=λa:At=>varsOf a.ts) h
theorem v35(r:Rl)(h:Ju r)(hF:Bm r):∃b,(b=ab↔Nc r)/\CC 60 af [gO r] (iB b):=by
 refine CC.qq _ apy n35 t35 (by simpa using fx r) (by rfl) ?_;have h91:=c91 r (by have:=h.h;omega);have hl:=h.h;have hb:=h.b;have h1:=h.hs;have h2:=hF.hs;have g1:=h.gs;have g2:=hF.gs;rw[<-ass]at hl;unfold Nc;rw[jc]at h91⊢;generalize r.keep++r.remove=hs at h91 hl h1 h2⊢;obtain⟨rn,rk,rr,rg,rb,rv⟩:=r;simp only at*
 simp[adq,SE.den,aj];refine⟨_,h91,?_⟩;simp;unfold QH;refine aw hs.length (λi (a:List Int)=>[iI i,iL a]) (λi a=>a=fa (hs.take i)/\a.length<=1048577*i) [] ?_ (by simp[fa]) λi a hi hI=>?_
 ·simp[SE.den]
 obtain⟨iz,hI⟩:=hI;by_cases ai:i<hs.length
 ·have hw:=aD ai (by omega);have hm:=ar5 ai;have hb:=v50 hs[i] (by have:=h1 _ hm;unfold Sm;omega) (h2 _ hm);have Z_:=(pW λt ht=>(h2 _ hm t ht).2).len;have hva:=JQ ai;generalize varsOf hs[i].ts=l at hb Z_ hva;have hc:=oh (a:=a) (b:=l) (by omega);have hr:=Zx l;simp[SE.den,ai,hw,r9 ai,aj];refine⟨_,hb,?_⟩;simp[SE.den,hc,hr,hw];refine⟨?_,.mk (a++l) (by simp) (by omega) ⟨by rw[hva,iz],by simp;omega⟩⟩;simp[cellsOf,aA]
 rw[asf (by omega)]at iz;rw[<-iz];clear iz;simp[SE.den,ai,aj];unfold QG;refine aw rb.length (λi (a:List Int)=>[iI i,iL a]) (λi b=>b.length<=4000000+i/\(nq a rb↔nq b (rb.drop i))) a ?_ ⟨by omega,by simp⟩ λi b hi hI=>?_
 ·simp[SE.den]
 obtain⟨hI,hG⟩:=hI;by_cases dZ:i<rb.length
 ·have hw:=aD dZ (by omega);have hm:rb[i]∈rg++rb:=asM _ (ar5 dZ);have sO:=g1 _ hm;obtain⟨har,jr⟩:=g2 _ hm;have hb:=v93 rb[i] (by unfold Sm;omega) jr;have Z_:=(pW λt ht=>(jr t ht).2).len;rw[asH dZ]at hG;generalize nq a rb=O at hG⊢;simp[SE.den,dZ,kU dZ,aj];by_cases o3:rb[i].op=3
  ·left;exact⟨o3,by rw[adS o3]at hG;exact hG.1⟩
  right;refine⟨o3,?_⟩;by_cases o0:rb[i].op=0
  ·left;refine⟨o0,_,hb,?_⟩;rw[adT o0]at hG;generalize varsOf rb[i].ts=l at*
   simp;refine gr (λvs=>∃c,vs=[iB c]/\(c=ab↔∀v∈l,v∈b)) (amG (by omega) (by omega) λc hc=>⟨c,rfl,hc⟩) ?_;rintro vs ⟨c,rfl,hc⟩;refine⟨rfl,?_⟩;cases c<;>simp[SE.den,o0,hw]
   ·intro o;have:=hc.2 (hG.1 o).1;cases this
   ·exact .mk b (by simp) (by omega) ⟨by omega,hG.trans ⟨λh=>h.2,λh=>⟨hc.1 rfl,h⟩⟩⟩
  right;refine⟨o0,?_⟩;by_cases o4:rb[i].op=4
  rotate_left
  ·right;refine⟨o4,?_⟩;simp[hw];rw[Xe o3 o0 o4]at hG;exact .mk b (by simp) (by omega) ⟨by omega,hG⟩
  left;refine⟨o4,?_⟩
  have hlen:rb[i].ts.length=2:=by
   have:=har o0;rw[o4]at this;simp[gF]at this;omega
  obtain⟨t0,t1,qD⟩:∃t0 t1,rb[i].ts=[t0,t1]:=by
   match hq:rb[i].ts,hlen with
   |[a,b],_=>exact⟨a,b,rfl⟩
  rw[adU o4 qD]at hG;have w1:WF t1:=jr _ (by rw[qD];simp);have h95:=v95 t1 w1;have qY:=(pW (ts:=[t1]) (by simpa using w1.2)).len;generalize varsOf [t1]=l1 at*
  rw[cL]at h95;have i0:dD 4 (iT rb[i].ts) (iI 0)=aa (dH t0):=by rw[qD];exact uS (l:=[t0,t1]) (i:=0) (by simp)
  have i1:dD 4 (iT rb[i].ts) (iI 1)=aa (dH t1):=by rw[qD];exact uS (l:=[t0,t1]) (i:=1) (by simp)
  rw[cL]at i0 i1;simp only[iT]at i0 i1;simp[SE.den,i0,aj];by_cases kk:t0.k=1
  rotate_left
  ·left;exact⟨kk,λo=>kk (hG.1 o).1⟩
  right;refine⟨kk,?_⟩;refine gr (λvs=>vs=[iB (decide (t0.n∈b))]) (aiH (by omega) rfl) ?_;rintro vs rfl;refine⟨rfl,?_⟩;by_cases hn:t0.n∈b
  ·simp[SE.den,i1,aj,hn];exactλo=>(hG.1 o).2.1 hn
  simp[SE.den,i1,aj,hn];refine⟨_,h95,?_⟩;simp;refine gr (λvs=>∃c,vs=[iB c]/\(c=ab↔∀v∈l1,v∈b)) (aiI (by omega) (by omega) λc hc=>⟨c,rfl,hc⟩) ?_;rintro vs ⟨c,rfl,pj⟩;refine⟨rfl,?_⟩;have hc:=oh (a:=b) (b:=[t0.n]) (by simp;omega);simp only[iL,asZ,auA]at hc;cases c<;>simp[SE.den,i0,aj,aA,cellsOf,hc,hw]
  ·intro o;have:=pj.2 (hG.1 o).2.2.1;cases this
  ·exact .mk (b++[t0.n]) (by simp) (by omega) ⟨by simp;omega,hG.trans ⟨λh=>h.2.2.2,λh=>⟨kk,hn,pj.1 rfl,h⟩⟩⟩
 ·rw[asJ (by omega),nq]at hG;simp[SE.den,dZ];exact hG.2 trivial
structure Nd(p:Pg):Prop where
 o:o_ p
 c:∀r∈p.rules,Nc r
theorem uc.fo{ds:List De}{r:Rl}(h:uc ds r)(hn:Jv r):Bm r:=hn.for (λa ha=>nS (h.hs a ha)) (λa ha=>uV (h.gs a ha))
open Classical in
noncomputable def qT(p:Pg):Int:=if o_ p then(if Nd p then 0 else 19)else 2
theorem RP{p:Pg}(h:Nd p):qT p=0:=by rw[qT,if_pos h.o,if_pos h]
theorem Li{p:Pg}(h:o_ p)(h':¬Nd p):qT p=19:=by rw[qT,if_pos h,if_neg h']
theorem RQ{p:Pg}(h:¬o_ p):qT p=2:=by rw[qT,if_neg h]
theorem yV{p:Pg}:qT p=0↔Nd p:=by
 refine⟨λh=>?_,RP⟩;by_cases h1:o_ p
 ·by_cases h2:Nd p
  ·exact h2
  ·rw[Li h1 h2]at h;omega
 ·rw[RQ h1]at h;omega
theorem CC.acp{n:Nat}{new:Bool}{f:FuncId}{cF:ak}{args:List IV}{cfg:bg}{s:Int}(he:aK ar1 cfg n new f=cF)(hl:(ar1.funcs[f]?).map (·.params.size)=aa args.length)(ht:∀z,aQ ar1 f z=ab)(hp:∀x∈args,Pure x)(hn:noTwo cF=ab)
 (hs:cF.sat ar1 CC (gP (·=s)) [] args):CC f new args (iI s):=by
 obtain⟨_,rfl,h⟩:=CC.KV (·=s) he hl ht hp hn hs;exact h
theorem v12(p:Pg)(h:wI p)(hz:∀r∈p.rules,SzR r):CC 33 af [eI p] (iI (qT p)):=by
 refine CC.acp api n12 t12 (by simpa using eJ p) (by rfl) ?_;obtain⟨a34,n34,hF,h34⟩:=v34 p h hz;have e2:=λm:¬o_ p=>RQ m;have RR:=λ(a:o_ p) (r) (hr:r∈p.rules) (m:¬Nc r)=>Li a λo=>m (o.c r hr);have e0:=λa b=>RP (⟨a,b⟩:Nd p);have hfo:o_ p->∀r∈p.rules,Bm r:=λo r hr=>(o.r r hr).fo (h.rn r hr);generalize qT p=N at e2 RR e0⊢;generalize o_ p=O' at e2 RR e0 hF hfo;obtain⟨ds,rs⟩:=p;obtain⟨hd,hr,dn,wb,DP⟩:=h;simp only at*
 change CC 59 af [.agg [eo ds,nj rs]] _ at h34;show WM.sat _ _ _ _ [.agg [eo ds,nj rs]];simp[WM,SE.den,aj];refine⟨_,h34,?_⟩;simp;by_cases z:n34=0
 rotate_left
 ·left;exact⟨z,(e2 λo=>z (hF.2 o)).symm⟩
 right;refine⟨z,?_⟩;unfold TO;refine aw rs.length (λi (_:Unit)=>[iI i]) (λi _=>∀r∈rs.take i,Nc r) () ?_ (by simp) λi _ hi hI=>?_
 ·simp[SE.den]
 by_cases ai:i<rs.length
 ·have hw:=aD ai (by omega);have hm:=ar5 ai;obtain⟨b,Dr,hb⟩:=v35 rs[i] (wb _ hm) (hfo (hF.1 z) _ hm);rw[jc]at hb;simp[SE.den,ai,hw,yM ai,aj];refine⟨_,hb,?_⟩;cases b<;>simp
  ·exact(RR (hF.1 z) _ hm λo=>by have:=Dr.2 o;cases this).symm
  ·exact .mk () rfl (by omega) (aB ai hI (Dr.1 rfl))
 ·simp[SE.den,ai];exact(e0 (hF.1 z) (aI ai hI)).symm
end Go.Proofs.YtpfogalbnijcoaaGreat
namespace Go.Proofs.YtpfogalbnijcoaaGreat
open Go Go.Ev
theorem afl(l:List Int)(x:Int):t_ l x=qS l x:=rfl
theorem Fe{v x:Int}{l:List Int}:v∈t_ l x↔v∈l\/v=x:=by
 have:=nT (v:=v) [x] l;simpa[cO,afl]using this
section
variable{Q:IV->Prop}{k0:List IV->Prop}{D:Prop}
def UN(ds:List De):Prop:=(∀d∈ds,fT d.s=ab/\0<=d.n/\d.n<=6)/\∀(i:Nat) (h:i<ds.length),bB (ds.take i) ds[i].s ds[i].n=af
theorem RS{ds:List De}{d:De}:bB ds d.s d.n=ab↔d∈ds:=by
 rw[E8];refine⟨λ⟨e,h1,h2,h3⟩=>?_,λh=>⟨d,h,rfl,rfl⟩⟩;cases d;cases e;simp only at h2 h3;subst h2;subst h3;exact h1
theorem amH(p:Pg)(h:wI p){x1:IV}(hk:∀n:Int,(n=0↔UN p.decls)->k0 [iI n]):Uh.sat ar1 CC Q [k0] [.agg [eo p.decls,nj p.rules],x1]:=by
 obtain⟨ds,rs⟩:=p;obtain⟨hd,hr,dn,wb,DP⟩:=h;simp only at*
 refine aw ds.length (λj (dl:List De)=>[iI j,.az (dl.map z7)]) (λj dl=>dl=ds.take j/\(∀d∈ds.take j,fT d.s=ab/\0<=d.n/\d.n<=6)/\∀(i:Nat) (h:i<ds.length),i<j->bB (ds.take i) ds[i].s ds[i].n=af) [] ?_ ⟨rfl,by simp,λ_ _ h=>absurd h (by omega)⟩ λj dl hj hI=>?_
 ·simp[SE.den]
 obtain⟨DA,oj,iw⟩:=hI;by_cases ai:j<ds.length
 ·have hw:=aD ai (by omega);have iV:=ar5 ai;have h83:=v83 ds[j].s;have bw:∀n:Int,n≠0->¬UN ds->k0 [iI n]:=λn h1 h2=>hk n ⟨λh=>absurd h h1,λh=>absurd h h2⟩;simp[SE.den,ai,hw,ua ai,aj,aA];refine⟨_,h83,?_⟩;cases b83:fT ds[j].s<;>simp[aA]
  ·exact bw 7 (by omega) λm=>by have:=(m.1 _ iV).1;simp[b83]at this
  by_cases z1:0<=ds[j].n
  rotate_left
  ·right;exact⟨by omega,bw 9 (by omega) λm=>z1 (m.1 _ iV).2.1⟩
  left;refine⟨z1,?_⟩;by_cases z2:ds[j].n<=6
  rotate_left
  ·left;exact⟨by omega,bw 9 (by omega) λm=>z2 (m.1 _ iV).2.2⟩
  right;refine⟨by omega,?_⟩;by_cases hm:ds[j]∈dl
  ·obtain⟨q,g1,g2⟩:=(T9 dl ds[j]).1 hm;simp only[iS,iI]at g1;simp[g1,g2,z7,aA];exact bw 8 (by omega) λm=>by have:=m.2 j ai;rw[RS.2 (DA▸hm)]at this;cases this
  ·have g1:=(T9 dl ds[j]).2 hm;simp only[iS,iI]at g1
   have hf:bB (ds.take j) ds[j].s ds[j].n=af:=by
    cases hb:bB (ds.take j) ds[j].s ds[j].n with
    |false=>rfl
    |true=>exact absurd (DA▸RS.1 hb) hm
   simp[g1,aA];refine .mk (dl++[ds[j]]) (by simp[z7]) (by omega) ⟨by rw[ase ai,DA],aB ai oj ⟨b83,z1,z2⟩,λi hi mX=>?_⟩;rcases aun.1 mX with mX|rfl
   ·exact iw i hi mX
   ·exact hf
 ·have hD:UN ds:=⟨aI ai oj,λi hi=>iw i hi (by omega)⟩;simp[SE.den,ai,aA,aj];right;exact⟨by omega,hk 0 ⟨λ_=>hD,λ_=>rfl⟩⟩
theorem v32(p:Pg)(h:wI p):∃a n,(n=0↔o_ p)/\CC 50 af [eI p] (.az [iI a,iI n]):=by
 refine CC.ahm _ apW n32 t32 (by simpa using eJ p) (by rfl) ?_;show W7.sat _ _ _ _ [.agg [eo p.decls,nj p.rules]];have hd:=h.d;have hr:=h.r;have Dm:=λm:o_ p=>(⟨m.d,m.u⟩:UN p.decls);have Dn:=λm:o_ p=>m.r;have hO:=λ(a:UN p.decls) b=>(⟨a.1,a.2,b⟩:o_ p);generalize o_ p=O at Dm Dn hO⊢;simp[W7,SE.den,aj];unfold Uj;refine gr (λvs=>∃n:Int,vs=[iI n]/\(n=0↔UN p.decls)) ?_ ?_
 ·simp[SE.den,aj];refine⟨_,adK ab (.az []),?_⟩;by_cases z:30<p.decls.length
  ·omega
  ·right;exact⟨by omega,amH p h λn hn=>⟨n,rfl,hn⟩⟩
 ·rintro vs ⟨n,rfl,hn⟩;refine⟨rfl,?_⟩;simp[SE.den,aj,yN];by_cases z:n=0
  rotate_left
  ·left;exact⟨z,by simp[z];exactλo=>z (hn.2 (Dm o))⟩
  right;refine⟨z,?_⟩;unfold Ui;refine aw p.rules.length (λi (_:Unit)=>[iI i]) (λi _=>∀r∈p.rules.take i,uc p.decls r) () ?_ (by simp) λi _ hi hI=>?_
  ·simp[SE.den]
  by_cases ai:i<p.rules.length
  ·have hw:=aD ai (by omega);have hm:=ar5 ai;obtain⟨m,hF,hb⟩:=v84 p.decls p.rules[i] ⟨by unfold Sm;omega,h.rs _ hm,h.rn _ hm⟩;rw[jc]at hb;simp[SE.den,ai,hw,yM ai,aj];refine⟨_,hb,?_⟩;simp[yN];by_cases z:m=0
   ·right;exact⟨z,.mk () rfl (by omega) (aB ai hI (hF.1 z))⟩
   ·left;exact⟨z,by simp[z];exactλo=>z (hF.2 (Dn o _ hm))⟩
  ·simp[SE.den,ai];exact hO (hn.1 z) (aI ai hI)
end
theorem aqm(ks l:List Int)(hl:Sm l):∃b,(b=ab↔∀v∈l,v∈ks)/\rN ar1 57 (ks.map mF) [iL l] (iB b):=by
 have hs:Q1.sat ar1 CC (nQ λb=>b=ab↔∀v∈l,v∈ks) [] [iM ks,iL l]:=by
  simp[Q1,Q0,SE.den,aj];refine aw l.length (λi (_:Unit)=>[iI i]) (λi _=>∀v∈l.take i,v∈ks) () ?_ (by simp) λi _ hi hI=>?_
  ·simp[SE.den]
  by_cases ai:i<l.length
  ·have hw:=aD ai hl;have uU:=TK (ν:=[iM ks,iI l[i]]) (m:=.var 0) (key:=.var 1) (ks:=ks) (k:=l[i]) rfl rfl;have HY:=TJ (ν:=[iM ks,iI l[i]]) (m:=.var 0) (key:=.var 1) (ks:=ks) (k:=l[i]) rfl rfl;simp[SE.den]at uU HY;simp only[iI]at uU HY;simp[SE.den,ai,hw,dI ai,aj];obtain⟨hq,TB,I_⟩:=HY;refine⟨⟨_,uU⟩,iB (decide (l[i]∈ks)),⟨hq,TB,by rw[I_]⟩,?_⟩;by_cases z:l[i]∈ks
   ·simp[z,aA];exact .mk () rfl (by omega) (aB ai hI z)
   ·simp[z,aA];exact⟨_,ar5 ai,z⟩
  ·simp[SE.den,ai,aA];exact aI ai hI
 obtain⟨z,⟨b,rfl,hb⟩,h2⟩:=yJ (by rfl) hs;exact⟨b,hb,rN.nN mixed wu amb n86 (by simp) (JH _) ⟨_,rfl,rfl⟩ h2⟩
theorem Xf(new:Bool)(ks l:List Int)(hl:Sm l):∃b,(b=ab↔∀v∈l,v∈ks)/\CC 2319 new [iM ks,iL l] (iB b):=by
 obtain⟨b,h0,hb⟩:=aqm ks l hl;have h:=ni.look (new:=new) (kT n86) hb;rw[dP]at h;refine⟨b,h0,?_⟩;unfold CC;rw[dP];exact h
section
variable{Q:IV->Prop}{k0 k1 k2:List IV->Prop}{x0 x1 x2 x3 x4 x5 x6 x7 x8 x9 ek jf:IV}
theorem amI(i:Nat)(hi:i<1000)(ks l:List Int)(hl:Sm l)(hk:∀q,(∀v,v∈q↔v∈ks\/v∈l)->k0 [iI (i+1:Nat),iM q]):Ul.sat ar1 CC Q [k0] [x0,x1,iI i,iM ks,x4,iL l]:=by
 have fS:=aD hi (by omega);refine aw l.length (λj (q:List Int)=>[iI j,iM q]) (λj q=>∀v,v∈q↔v∈ks\/v∈l.take j) ks ?_ (by simp) λj q hj hI=>?_
 ·simp[SE.den]
 by_cases ai:j<l.length
 ·have hw:=aD ai hl;have r_:=F6 (ν:=[iM q,iI l[j]]) (m:=.var 0) (key:=.var 1) (ks:=q) (k:=l[j]) rfl rfl;simp[SE.den]at r_;simp only[iI]at r_;simp[SE.den,ai,hw,dI ai,aj];refine⟨_,r_,.mk _ rfl (by omega) λv=>?_⟩;rw[Fe,hI,ase ai,asn,asU,or_assoc]
 ·simp[SE.den,ai,fS];rw[asf (by omega)]at hI;exact hk q hI
theorem amJ(i:Nat)(hi:i<1000)(ks:List Int)(a n:Int)(s t:IV)(hk:∀q,(∀v,v∈q↔v∈ks\/v=n)->k1 [iI (i+1:Nat),iM q]):Um.sat ar1 CC Q [k0,k1] [x0,x1,x2,x3,iI i,iM ks,x6,.agg [iI a,iI n,s,t],x8,x9,ek,jf]:=by
 have fS:=aD hi (by omega);have hx:∀j (hj:j<[n].length),dD 1 (iL [n]) (iI (j:Nat))=aa (iI [n][j]):=λj hj=>dI hj;refine aw 1 (λj (q:List Int)=>[iI j,iM q]) (λj q=>∀v,v∈q↔v∈ks\/(j=1/\v=n)) ks ?_ (by simp) λj q hj hI=>?_
 ·simp[SE.den]
 by_cases ai:j<1
 ·have hw:=aD ai (by omega);have h0:j=0:=by omega
  subst h0;have r_:=F6 (ν:=[iM q,iI n]) (m:=.var 0) (key:=.var 1) (ks:=q) (k:=n) rfl rfl;simp[SE.den]at r_;simp only[iI]at r_;have iu:dD 1 (.tree 1 [iI n]) (iI 0)=aa (iI n):=hx 0 (by simp);simp[SE.den,aj,cellsOf,iu];refine⟨_,r_,?_⟩;have P0:IntKind.i64.wrap 1=1:=dQ (by omega) (by omega);simp[P0];refine .mk _ rfl (by omega) λv=>?_;rw[Fe,hI];simp
 ·have h1:j=1:=by omega
  subst h1;simp[SE.den,aj,cellsOf,fS];exact hk q λv=>by rw[hI];simp
theorem amK{O:Prop}(r:Rl)(hg:r.body.length<=6)(hb:∀g∈r.body,sM g/\wv g/\(g.op≠0->gF g.op=g.ts.length))(fq:∀g∈r.body,g.op=0\/g.op=1\/g.op=2\/g.op=3\/g.op=4)(ks:List Int)(hO:nq ks r.body↔O):Un.sat ar1 CC (nQ λb=>b=ab↔O) [k0] [aR r,x1,x2,iM ks]:=by
 refine aw r.body.length (λj (q:List Int)=>[iI j,iM q]) (λj q=>O↔nq q (r.body.drop j)) ks ?_ (by simpa using hO.symm) λj q hj hG=>?_
 ·simp[SE.den,aj]
 by_cases ai:j<r.body.length
 ·have hw:=aD ai (by omega);obtain⟨h1,h2,h3⟩:=hb _ (ar5 ai);have ho:=fq _ (ar5 ai);have Uq:=c87 af r.body[j] h1 h2;obtain⟨b,Dr,h22⟩:=Xf ab q (varsOf r.body[j].ts) (by have:=yQ h2;unfold Sm;omega);rw[asH ai]at hG;simp[SE.den,ai,hw,kU ai,aj];by_cases z1:r.body[j].op=1
  ·rw[Xe (by omega) (by omega) (by omega)]at hG;left;exact⟨z1,.mk _ rfl (by omega) hG⟩
  right;refine⟨z1,?_⟩;by_cases z2:r.body[j].op=2
  ·rw[Xe (by omega) (by omega) (by omega)]at hG;left;exact⟨z2,.mk _ rfl (by omega) hG⟩
  right;refine⟨z2,?_⟩;by_cases z3:r.body[j].op=0
  ·left;refine⟨z3,_,Uq,?_⟩;rw[adT z3]at hG;simp;refine⟨_,h22,?_⟩;cases b<;>simp
   ·intro o;have:=Dr.2 (hG.1 o).1;cases this
   exact .mk _ rfl (by omega) (hG.trans ⟨λh=>h.2,λh=>⟨Dr.1 rfl,h⟩⟩)
  right;refine⟨z3,?_⟩;by_cases z4:r.body[j].op=4
  rotate_left
  ·rw[adS (by omega)]at hG;right;exact⟨z4,hG.1⟩
  left;refine⟨z4,?_⟩;have hlen:r.body[j].ts.length=2:=by have:=h3 z3;rw[z4]at this;simp[gF]at this;omega
  have i0:=uS (l:=r.body[j].ts) (i:=0) (by omega);have i1:=uS (l:=r.body[j].ts) (i:=1) (by omega);have m0:=ar5 (l:=r.body[j].ts) (n:=0) (by omega);have m1:=ar5 (l:=r.body[j].ts) (n:=1) (by omega)
  have qD:r.body[j].ts=[r.body[j].ts[0],r.body[j].ts[1]]:=by
   apply List.ext_getElem
   ·simp[hlen]
   ·intro i g1 g2
    match i,g2 with
    |0,_=>rfl
    |1,_=>rfl
  rw[adU z4 qD]at hG;have h88:=c88 af r.body[j].ts[1] (h1.2.2 _ m1) (h2 _ m1);have hv:(varsOf [r.body[j].ts[1]]).length<=1048577:=yQ (by simpa using h2 _ m1);obtain⟨b',cI,g22⟩:=Xf ab q (varsOf [r.body[j].ts[1]]) (by unfold Sm;omega);generalize varsOf [r.body[j].ts[1]]=l1 at*
  have uU:=TK (ν:=[iM q,iI r.body[j].ts[0].n]) (m:=.var 0) (key:=.var 1) (ks:=q) (k:=r.body[j].ts[0].n) rfl rfl;have HY:=TJ (ν:=[iM q,iI r.body[j].ts[0].n]) (m:=.var 0) (key:=.var 1) (ks:=q) (k:=r.body[j].ts[0].n) rfl rfl;simp[SE.den]at uU HY;simp only[iI]at uU HY;rw[cL]at i0 i1 h88;simp only[iI,Int.natCast_zero,Int.natCast_one]at i0 i1;generalize r.body[j].ts[0].n=tn at*
  refine⟨_,i0,?_⟩;simp[aj];by_cases y1:r.body[j].ts[0].k=1
  rotate_left
  ·left;exact⟨y1,λo=>y1 (hG.1 o).1⟩
  right;refine⟨y1,?_⟩;obtain⟨hq,TB,I_⟩:=HY;refine⟨⟨_,uU⟩,iB (decide (tn∈q)),⟨hq,TB,by rw[I_]⟩,?_⟩;by_cases y2:tn∈q
  ·simp[y2];exactλo=>(hG.1 o).2.1 y2
  simp[y2];refine⟨_,i1,?_⟩;simp[aj];refine⟨_,h88,?_⟩;simp;refine⟨_,g22,?_⟩;cases b'<;>simp
  ·intro o;have:=cI.2 (hG.1 o).2.2.1;cases this
  exact⟨rfl,⟨_,rfl⟩,amJ j (by omega) q _ _ _ _ λq' vS=>.mk q' rfl (by omega) (hG.trans (by
   rw[Bt _ q' (q++[tn]) (λv=>by rw[vS];simp)];exact⟨λh=>h.2.2.2,λh=>⟨y1,y2,cI.1 rfl,h⟩⟩))⟩
 ·rw[asJ (by omega),nq]at hG;simp[SE.den,ai];exact hG.2 trivial
theorem amL(r:Rl)(hg:r.body.length<=6)(hb:∀g∈r.body,sM g/\wv g/\(g.op≠0->gF g.op=g.ts.length))(fq:∀g∈r.body,g.op=0\/g.op=1\/g.op=2\/g.op=3\/g.op=4)(l:List At)(hl:l.length<=100)(hn:∀a∈l,sL a/\yR a):
 Uo.sat ar1 CC (nQ λb=>b=ab↔nq (fa l) r.body) [] [aR r,nf l]:=by
 refine aw l.length (λj (q:List Int)=>[iI j,iM q]) (λj q=>∀v,v∈q↔v∈fa (l.take j)) [] ?_ (by simp[fa]) λj q hj hI=>?_
 ·simp[SE.den,aj]
 by_cases ai:j<l.length
 ·obtain⟨h1,h2⟩:=hn _ (ar5 ai);have Q6:=c46 af l[j] h1 h2;have hva:=JQ ai;have Gk:=yQ h2;generalize varsOf l[j].ts=u at Q6 hva Gk;simp[SE.den,ai,r9 ai,aj];refine⟨_,Q6,?_⟩;simp;exact amI j (by omega) q _ (by unfold Sm;omega) λq' vS=>.mk q' rfl (by omega) λv=>by rw[vS,hI,hva,asn]
 ·rw[asf (by omega)]at hI;simp[SE.den,ai,aj];exact amK r hg hb fq q (Bt _ _ _ hI)
end
theorem aai{g:Gl}(h:dX g=ab):0<=g.op/\g.op<=12:=by
 unfold dX at h;split at h
 ·omega
 ·simp only[Bool.and_eq_true]at h;have h1:=of_decide_eq_true h.1.2;unfold gF at h1;split at h1
  ·omega
  split at h1
  ·omega
  split at h1<;>omega
theorem v33(ds:List De)(r:Rl)(h:Nb ds r)(ho:uc ds r):∃b,(b=ab↔Nc r)/\CC 51 af [gO r] (iB b):=by
 refine CC.qq _ apY n33 t33 (by simpa using fx r) (by rfl) ?_;have h3:=h.s.h;have hk:jx ds r:=⟨h.d,h.s,h.n,ho.fo h.n⟩;have h85:=c85 r (by omega);rw[jc]at h85⊢;simp[adF,SE.den,aj];refine⟨_,h85,?_⟩;simp;refine amL r h.s.b (λg hg=>?_) (λg hg=>?_) (r.keep++r.remove) (by rw[ass];omega) λa ha=>?_
 ·exact⟨(hk.body.2 g hg).1,(hk.body.2 g hg).2,(hk.f.gs g (asM _ hg)).1⟩
 ·have h1:=aai (ho.gs g (asM _ hg));have h2:=ho.m.b g hg;simp[kq]at h2;omega
 ·rcases asn.1 ha with ha|ha
  ·exact hk.keep.2 a ha
  ·exact hk.remove.2 a ha
theorem v11(p:Pg)(h:wI p):CC 24 af [eI p] (iI (qT p)):=by
 refine CC.acp apX n11 t11 (by simpa using eJ p) (by rfl) ?_;obtain⟨a,n,hn,h32⟩:=v32 p h;have hd:=h.d;have hr:=h.r;have e2:=λm:¬o_ p=>RQ m;have RR:=λ(a:o_ p) (r) (hr:r∈p.rules) (m:¬Nc r)=>Li a λo=>m (o.c r hr);have e0:=λa b=>RP (⟨a,b⟩:Nd p);have cB:o_ p->∀r∈p.rules,uc p.decls r:=λo=>o.r;generalize qT p=N at e2 RR e0⊢;generalize o_ p=O' at e2 RR e0 hn cB;simp only[eI]at*
 simp[adE,SE.den,aj];refine⟨_,h32,?_⟩;simp[yN];by_cases z:n=0
 rotate_left
 ·left;exact⟨z,(e2 λo=>z (hn.2 o)).symm⟩
 right;refine⟨z,?_⟩;unfold Uk;refine aw p.rules.length (λi (_:Unit)=>[iI i]) (λi _=>∀r∈p.rules.take i,Nc r) () ?_ (by simp) λi _ hi hI=>?_
 ·simp[SE.den]
 by_cases ai:i<p.rules.length
 ·have hw:=aD ai (by omega);have hm:=ar5 ai;obtain⟨b,Dr,hb⟩:=v33 p.decls p.rules[i] ⟨by unfold Sm;omega,h.rs _ hm,h.rn _ hm⟩ (cB (hn.1 z) _ hm);rw[jc]at hb;simp[SE.den,ai,hw,yM ai,aj];refine⟨_,hb,?_⟩;cases b<;>simp
  ·exact(RR (hn.1 z) _ hm λo=>by have:=Dr.2 o;cases this).symm
  exact .mk () rfl (by omega) (aB ai hI (Dr.1 rfl))
 ·simp[SE.den,ai];exact(e0 (hn.1 z) (aI ai hI)).symm
end Go.Proofs.YtpfogalbnijcoaaGreat
namespace Go.Proofs.YtpfogalbnijcoaaGreat
open Go Go.Ev
abbrev mS(l:List Int):Prop:=l.Pairwise (·<·)
theorem UO{o:List Int}{n:Int}{k:Nat}(h:mS o)(h1:∀x∈o.take k,x<n)(h2:∀x∈o.drop k,n<x):mS (o.take k++[n]++o.drop k):=by
 have h0:mS (o.take k++o.drop k):=by rw[atI];exact h
 rw[mS,atB]at h0;rw[mS,List.append_assoc,atB];refine⟨h0.1,?_,?_⟩
 ·simp only[awe,avi];exact⟨h2,h0.2.1⟩
 ·intro a ha b hb;simp only[awe,asS]at hb;rcases hb with rfl|hb
  ·exact h1 a ha
  ·exact h0.2.2 a ha b hb
theorem UP{o:List Int}{n:Int}(k:Nat)(x:Int):x∈o.take k++[n]++o.drop k↔x∈o\/x=n:=by
 have:x∈o↔x∈o.take k++o.drop k:=by rw[atI]
 rw[this];simp only[asn,asU];exact⟨λh=>by rcases h with(h|h)|h<;>simp[h],λh=>by rcases h with(h|h)|h<;>simp[h]⟩
theorem UQ{o:List Int}{n:Int}{k:Nat}(h:mS o)(hk:k<o.length)(hn:n<o[k]):∀x∈o.drop k,n<x:=by
 rw[asH hk];have h0:mS (o.take k++o.drop k):=by rw[atI];exact h
 rw[mS,atB,asH hk,avi]at h0;intro x hx;rcases asS.1 hx with rfl|hx
 ·exact hn
 ·have:=h0.2.1.1 x hx;omega
section
variable{Q:IV->Prop}{k0 k1 k2:List IV->Prop}
theorem aiJ{x0 x1 x3:IV}{a o:List Int}{i:Nat}(hi:i<a.length)(ha:a.length<=1000000)(ho:o.length<=1000000)(hs:mS o)(h:∀o':List Int,o'.length<=o.length+1->mS o'->(∀x,x∈o'↔x∈o\/x=a[i])->k1 [iI (i+1:Nat),iL o']):
 MC.sat ar1 CC Q [k0,k1] [x0,x1,iL a,x3,iI i,iL o]:=by
 have fS:=aD hi (by omega);refine aw o.length (λk (_:Unit)=>[iI k]) (λk _=>∀x∈o.take k,x<a[i]) () ?_ (by simp) λk _ hk hI=>?_
 ·simp[SE.den]
 have bE:=QN (L:=o) (k:=k) hk;have dC:=QO (L:=o) (k:=k) hk;have l0:(o.take k).length<=o.length:=by simp;omega
 have l1:(o.take k).length+(o.drop k).length=o.length:=by simp;omega
 have hA:=λ(h2:∀x∈o.drop k,a[i]<x)=>UO (n:=a[i]) hs hI h2;have hM:=λx=>UP (o:=o) (n:=a[i]) k x;have hD:(∀x∈o.drop k,a[i]<x)->mS (o.take k++[a[i]]++o.drop k):=hA;have qG:¬k<o.length->∀x∈o.drop k,a[i]<x:=λh x hx=>by rw[asJ (by omega)]at hx;cases hx
 have za:=λ(h:k<o.length) (hn:a[i]<o[k])=>UQ hs h hn;have ct:=λ(h:k<o.length) (hn:o[k]<a[i])=>aB h hI hn;have sO:∀(h:k<o.length),o[k]=a[i]->∀x,x∈o↔x∈o\/x=a[i]:=λh e x=>⟨.inl,λq=>q.elim id λq=>by rw[q,<-e];exact ar5 h⟩;clear hA;generalize hP:(∀x∈o.drop k,a[i]<x)=PP at hD qG za;generalize hQ:(∀x∈o.take (k+1),x<a[i])=QQ at ct;generalize o.take k=tk at bE l0 l1 hM hD;generalize o.drop k=dk at dC l1 hM hD;have pj:=oh (a:=[]) (b:=tk) (by simp;omega);have bL:=oh (a:=tk) (b:=[a[i]]) (by simp;omega);have eR:(tk++[a[i]]).length=tk.length+1:=by simp
 generalize tk++[a[i]]=u1 at bL eR hM hD;have gy:=oh (a:=u1) (b:=dk) (by omega);have Gu:(u1++dk).length=u1.length+dk.length:=by simp
 generalize u1++dk=u2 at gy Gu hM hD;have rT:PP->k1 [iI (i+1:Nat),iL u2]:=λq=>h _ (by omega) (hD q) hM;have JR:=λq=>h o (by omega) hs q;have hai:=dI hi;simp only[iL,auA,asZ,as8]at bE dC pj bL gy rT hai JR;by_cases ai:k<o.length
 ·have hw:=aD ai (by omega);have bp:=dI ai;simp only[iL]at bp;simp[SE.den,ai,hw,fS,bp,hai,cellsOf,bE,dC,pj,bL,gy,aA];by_cases z:o[k]<a[i]
  ·left;exact⟨z,.mk () rfl (by omega) (hQ▸ct ai z)⟩
  right;refine⟨by omega,?_⟩;by_cases z2:o[k]=a[i]
  ·left;exact⟨z2,JR (sO ai z2)⟩
  ·right;exact⟨z2,rT (za ai (by omega))⟩
 ·simp[SE.den,ai,fS,hai,cellsOf,bE,dC,pj,bL,gy,aA];exact rT (qG ai)
theorem aiK{x0 x1 x2 x3 x4 x5 x7:IV}{o:List Int}{n:Int}{i m:Nat}(hi:i<m)(ha:m<=1000000)(ho:o.length<=1000000)(hs:mS o)(h:∀o':List Int,o'.length<=o.length+1->mS o'->(∀x,x∈o'↔x∈o\/x=n)->k2 [iI (i+1:Nat),x7,iL o']):
 MD.sat ar1 CC Q [k0,k1,k2] [x0,x1,x2,x3,x4,x5,iI i,x7,iL o,iI n]:=by
 have fS:=aD hi (by omega);refine aw o.length (λk (_:Unit)=>[iI k]) (λk _=>∀x∈o.take k,x<n) () ?_ (by simp) λk _ hk hI=>?_
 ·simp[SE.den]
 have bE:=QN (L:=o) (k:=k) hk;have dC:=QO (L:=o) (k:=k) hk;have l0:(o.take k).length<=o.length:=by simp;omega
 have l1:(o.take k).length+(o.drop k).length=o.length:=by simp;omega
 have hA:=λ(h2:∀x∈o.drop k,n<x)=>UO (n:=n) hs hI h2;have hM:=λx=>UP (o:=o) (n:=n) k x;have hD:(∀x∈o.drop k,n<x)->mS (o.take k++[n]++o.drop k):=hA;have qG:¬k<o.length->∀x∈o.drop k,n<x:=λh x hx=>by rw[asJ (by omega)]at hx;cases hx
 have za:=λ(h:k<o.length) (hn:n<o[k])=>UQ hs h hn;have ct:=λ(h:k<o.length) (hn:o[k]<n)=>aB h hI hn;have sO:∀(h:k<o.length),o[k]=n->∀x,x∈o↔x∈o\/x=n:=λh e x=>⟨.inl,λq=>q.elim id λq=>by rw[q,<-e];exact ar5 h⟩;clear hA;generalize hP:(∀x∈o.drop k,n<x)=PP at hD qG za;generalize hQ:(∀x∈o.take (k+1),x<n)=QQ at ct;generalize o.take k=tk at bE l0 l1 hM hD;generalize o.drop k=dk at dC l1 hM hD;have pj:=oh (a:=[]) (b:=tk) (by simp;omega);have bL:=oh (a:=tk) (b:=[n]) (by simp;omega);have eR:(tk++[n]).length=tk.length+1:=by simp
 generalize tk++[n]=u1 at bL eR hM hD;have gy:=oh (a:=u1) (b:=dk) (by omega);have Gu:(u1++dk).length=u1.length+dk.length:=by simp
 generalize u1++dk=u2 at gy Gu hM hD;have rT:PP->k2 [iI (i+1:Nat),x7,iL u2]:=λq=>h _ (by omega) (hD q) hM;have JR:=λq=>h o (by omega) hs q;simp only[iL,auA,asZ,as8]at bE dC pj bL gy rT JR;by_cases ai:k<o.length
 ·have hw:=aD ai (by omega);have bp:=dI ai;simp only[iL]at bp;simp[SE.den,ai,hw,fS,bp,cellsOf,bE,dC,pj,bL,gy,aA];by_cases z:o[k]<n
  ·left;exact⟨z,.mk () rfl (by omega) (hQ▸ct ai z)⟩
  right;refine⟨by omega,?_⟩;by_cases z2:o[k]=n
  ·left;exact⟨z2,JR (sO ai z2)⟩
  ·right;exact⟨z2,rT (za ai (by omega))⟩
 ·simp[SE.den,ai,fS,cellsOf,bE,dC,pj,bL,gy,aA];exact rT (qG ai)
end
theorem amM(l:List Fa)(hl:l.length<=100)(hj:∀f∈l,f.j.length<=20):∃v:List Int,(v.length<=2000/\mS v/\∀x,x∈v↔∃f∈l,x∈f.j)/\CC 68 ab [iv l] (iL v):=by
 refine CC.ahj (λv=>v.length<=2000/\mS v/\∀x,x∈v↔∃f∈l,x∈f.j) ahu n101 t101 (by simp) (by rfl) ?_;simp[T7,SE.den,aj];unfold MG;refine aw l.length (λi (a:List Int)=>[iI i,iL a]) (λi a=>a.length<=20*i/\mS a/\∀x,x∈a↔∃f∈l.take i,x∈f.j) [] ?_ (by simp) λi a hi hI=>?_
 ·simp[SE.den]
 obtain⟨hI,hIa,hIm⟩:=hI;by_cases ai:i<l.length
 ·have hw:=aD ai (by omega);have vP:=hj _ (ar5 ai);simp[SE.den,ai,yL ai,aj];unfold MF;refine aw a.length (λi (o:List Int)=>[iI i,iL o]) (λi o=>o.length<=i/\mS o/\∀x,x∈o↔x∈a.take i) [] ?_ (by simp) λi1 o OF oj=>?_
  ·simp[SE.den]
  obtain⟨oj,aiL,acq⟩:=oj;by_cases dZ:i1<a.length
  ·simp[SE.den,dZ,dI dZ]
   exact aiJ dZ (by omega) (by omega) aiL λo' ho' ha hm=>.mk o' rfl (by omega) ⟨by omega,ha,λx=>by
    rw[hm,acq,ase dZ,asn,asU]⟩
  rw[asf (by omega)]at acq;simp[SE.den,dZ];unfold ME;refine aw l[i].j.length (λi (o:List Int)=>[iI i,iL a,iL o]) (λj o'=>o'.length<=o.length+j/\mS o'/\∀x,x∈o'↔x∈a\/x∈l[i].j.take j) o ?_ ⟨by omega,aiL,by simpa using acq⟩ λi2 o2 XK iw=>?_
  ·simp[SE.den]
  obtain⟨iw,aiM,acr⟩:=iw;by_cases dY:i2<l[i].j.length
  ·simp[SE.den,dY,dI dY]
   exact aiK dY (by omega) (by omega) aiM λo' ho' ha hm=>.mk o' rfl (by omega) ⟨by omega,ha,λx=>by
    rw[hm,acr,ase dY,asn,asU,or_assoc]⟩
  ·rw[asf (by omega)]at acr;simp[SE.den,dY,hw]
   exact .mk o2 (by simp) (by omega) ⟨by omega,aiM,λx=>by
    rw[acr,hIm,ase ai];simp only[asn,asU];exact⟨λh=>h.elim (λ⟨f,h1,h2⟩=>⟨f,.inl h1,h2⟩) λh=>⟨_,.inr rfl,h⟩,λ⟨f,h1,h2⟩=>h1.elim (λh=>.inl ⟨f,h,h2⟩) λh=>.inr (h▸h2)⟩⟩
 ·rw[asf (by omega)]at hIm;simp[SE.den,ai];exact⟨by omega,hIa,hIm⟩
end Go.Proofs.YtpfogalbnijcoaaGreat
namespace Go.Proofs.YtpfogalbnijcoaaGreat
open Go Go.Ev
theorem JS:∀{a b:List Int},mS a->mS b->(∀x,x∈a↔x∈b)->a=b
 |[],[],_,_,_=>rfl
 |[],y::b,_,_,h=>absurd ((h y).2 (by simp)) (by simp)
 |x::a,[],_,_,h=>absurd ((h x).1 (by simp)) (by simp)
 |x::a,y::b,ha,hb,h=>by
  rw[mS,avi]at ha hb
  have e:x=y:=by
   have h1:=(h x).1 (by simp);have h2:=(h y).2 (by simp);rcases asS.1 h1 with h1|h1
   ·exact h1
   ·rcases asS.1 h2 with h2|h2
    ·exact h2.symm
    ·have:=ha.1 y h2;have:=hb.1 x h1;omega
  subst e
  congr 1
  refine JS ha.2 hb.2 λz=>⟨λhz=>?_,λhz=>?_⟩
  ·rcases asS.1 ((h z).1 (atm _ hz))with e|e
   ·subst e;have:=ha.1 z hz;omega
   ·exact e
  ·rcases asS.1 ((h z).2 (atm _ hz))with e|e
   ·subst e;have:=hb.1 z hz;omega
   ·exact e
theorem GW(d:Array Int)(hs:∀i j,i<=j->j<d.size->d[i]! <=d[j]!):∀m,m<=d.size->mS (ava d m)/\∀x,x∈ava d m↔∃j,j<m/\d[j]! =x
 |0,_=>by simp[ava]
 |m+1,h=>by
  obtain⟨h1,h2⟩:=GW d hs m (by omega);rw[Go.Lib.compactUpTo_succ];by_cases hk:m=0\/d[m]! ≠d[m- 1]!
  ·have mQ:aw9 d m=ab:=by
    by_cases h0:m=0
    ·exact Go.Lib.keeps_lt_one d m (by omega)
    ·exact Go.Lib.keeps_pos (hk.resolve_left h0)
   rw[if_pos mQ];refine⟨?_,λx=>?_⟩
   ·rw[mS,atB];refine⟨h1,by simp,λa ha b hb=>?_⟩;obtain⟨j,hj,rfl⟩:=(h2 a).1 ha;simp at hb;subst hb;have hm:=hk.resolve_left (by omega);have g1:=hs j (m- 1) (by omega) (by omega);have g2:=hs (m- 1) m (by omega) (by omega);omega
   ·rw[asn,h2,asU];exact⟨λh=>h.elim (λ⟨j,hj,e⟩=>⟨j,by omega,e⟩) λe=>⟨m,by omega,e.symm⟩,λ⟨j,hj,e⟩=>(aun.1 hj).elim (λh=>.inl ⟨j,h,e⟩) λh=>.inr (by rw[<-e,h])⟩
  ·have hm:0<m:=by omega
   have he:d[m]! =d[m- 1]! :=asO λh=>hk (.inr h);have hkn:aw9 d m=af:=Go.Lib.keeps_neg hm he;rw[hkn];refine⟨by simpa using h1,λx=>?_⟩;simp only[Bool.false_eq_true,if_false,List.append_nil];rw[h2];exact⟨λ⟨j,hj,e⟩=>⟨j,by omega,e⟩,λ⟨j,hj,e⟩=>(aun.1 hj).elim (λh=>⟨j,h,e⟩) λh=>⟨m- 1,by omega,by rw[<-e,h,he]⟩⟩
theorem Xg(ls:List (List Int)):mS (eO ls)/\∀x,x∈eO ls↔x∈ls.flatten:=by
 have hp:=List.mergeSort_perm ls.flatten λx y=>decide (x<=y);have aiN:=List.pairwise_mergeSort (le:=λ(x y:Int)=>decide (x<=y)) (λa b c=>by simp;omega) (λa b=>by simp;omega) ls.flatten;unfold eO;generalize ls.flatten.mergeSort (λx y=>decide (x<=y))=s at hp aiN;unfold Go.Lib.compact;have hg:∀i (h:i<s.length),s.toArray[i]! =s[i]:=λi h=>by simp[h]
 obtain⟨h1,h2⟩:=GW s.toArray (λi j mX hj=>by
  have fO:j<s.length:=by simpa using hj
  rw[hg i (by omega),hg j fO];by_cases e:i=j
  ·subst e;omega
  ·have:=aue.1 aiN i j (by omega) fO (by omega);simpa using this) s.length (by simp)
 refine⟨h1,λx=>?_⟩;rw[h2,<-hp.mem_iff];constructor
 ·rintro⟨j,hj,e⟩;rw[hg j hj]at e;exact e▸ar5 hj
 ·intro hx;obtain⟨j,hj,e⟩:=List.getElem_of_mem hx;exact⟨j,hj,by rw[hg j hj,e]⟩
theorem amN(l:List Fa)(hl:l.length<=100)(hj:∀f∈l,f.j.length<=20):(eO (l.map Fa.j)).length<=2000/\CC 68 ab [iv l] (iL (eO (l.map Fa.j))):=by
 obtain⟨v,⟨h0,h1,h2⟩,h⟩:=amM l hl hj;obtain⟨g1,g2⟩:=Xg (l.map Fa.j)
 have e:v=eO (l.map Fa.j):=JS h1 g1 λx=>by
  rw[h2,g2];simp only[List.mem_flatten,List.mem_map];exact⟨λ⟨f,a,b⟩=>⟨_,⟨f,a,rfl⟩,b⟩,λ⟨_,⟨f,a,e⟩,b⟩=>⟨f,a,e▸b⟩⟩
 subst e;exact⟨h0,h⟩
def JOk(l:List Int):Prop:=(∀x∈l,1<=x/\x<=64)/\mS l
theorem aaj{l:List Int}{i:Nat}(h:i<l.length)(h0:0<i)(hk:l[i]<=l[i- 1]):¬mS l:=λha=>by
 have:=aue.1 ha (i- 1) i (by omega) h (by omega);omega
theorem v99(l:List Int)(hl:Sm l):∃b,(b=ab↔JOk l)/\CC 64 af [iL l] (iB b):=by
 refine CC.qq _ apu n99 t99 (by simp) (by rfl) ?_;simp[adn,TX,SE.den,aj];refine aw l.length (λi (_:Unit)=>[iI i]) (λi _=>(∀x∈l.take i,1<=x/\x<=64)/\(l.take i).Pairwise (·<·)) () ?_ (by simp) λi _ hi hI=>?_
 ·simp[SE.den]
 obtain⟨iz,hI⟩:=hI;by_cases ai:i<l.length
 ·have hw:=aD ai hl;have hm:=ar5 ai;simp[SE.den,ai,hw,dI ai,aj];by_cases z1:l[i]<1
  ·left;exact⟨z1,λo=>by have:=o.1 _ hm;omega⟩
  right;refine⟨by omega,?_⟩;by_cases z2:64<l[i]
  ·left;exact⟨z2,λo=>by have:=o.1 _ hm;omega⟩
  right;refine⟨by omega,?_⟩;have ct:=aB (p:=λx:Int=>1<=x/\x<=64) ai iz ⟨by omega,by omega⟩;by_cases z3:0<i
  ·left;refine⟨z3,?_⟩;have hm:=CO z3 (axD ai) hl;have fX:i- 1<l.length:=by omega
   have hx:=dI fX;simp only[iL]at hx;simp[hm,hx];by_cases z4:l[i]<=l[i- 1]
   ·left;exact⟨z4,λo=>aaj ai z3 z4 o.2⟩
   ·right;exact⟨by omega,.mk () rfl (by omega) ⟨ct,CP ai hI λ_ _=>by omega⟩⟩
  ·right;exact⟨by omega,.mk () rfl (by omega) ⟨ct,CP ai hI λh=>absurd h z3⟩⟩
 ·simp[SE.den,ai];rw[asf (by omega)]at hI iz;exact⟨iz,hI⟩
theorem v96(l:List Int)(hl:Sm l):∃b,(b=ab↔JOk l)/\CC 55 af [iL l] (iB b):=by
 refine CC.qq _ apU n96 t96 (by simp) (by rfl) ?_;simp[adC,Ue,SE.den,aj];refine aw l.length (λi (_:Unit)=>[iI i]) (λi _=>(∀x∈l.take i,1<=x/\x<=64)/\(l.take i).Pairwise (·<·)) () ?_ (by simp) λi _ hi hI=>?_
 ·simp[SE.den]
 obtain⟨iz,hI⟩:=hI;by_cases ai:i<l.length
 ·have hw:=aD ai hl;have hm:=ar5 ai;simp[SE.den,ai,hw,dI ai,aj];by_cases z1:l[i]<1
  ·left;exact⟨z1,λo=>by have:=o.1 _ hm;omega⟩
  right;refine⟨by omega,?_⟩;by_cases z2:64<l[i]
  ·left;exact⟨z2,λo=>by have:=o.1 _ hm;omega⟩
  right;refine⟨by omega,?_⟩;have ct:=aB (p:=λx:Int=>1<=x/\x<=64) ai iz ⟨by omega,by omega⟩;by_cases z3:0<i
  ·left;refine⟨z3,?_⟩;have hm:=CO z3 (axD ai) hl;have fX:i- 1<l.length:=by omega
   have hx:=dI fX;simp only[iL]at hx;simp[hm,hx];by_cases z4:l[i]<=l[i- 1]
   ·left;exact⟨z4,λo=>aaj ai z3 z4 o.2⟩
   ·right;exact⟨by omega,.mk () rfl (by omega) ⟨ct,CP ai hI λ_ _=>by omega⟩⟩
  ·right;exact⟨by omega,.mk () rfl (by omega) ⟨ct,CP ai hI λh=>absurd h z3⟩⟩
 ·simp[SE.den,ai];rw[asf (by omega)]at hI iz;exact⟨iz,hI⟩
end Go.Proofs.YtpfogalbnijcoaaGreat
