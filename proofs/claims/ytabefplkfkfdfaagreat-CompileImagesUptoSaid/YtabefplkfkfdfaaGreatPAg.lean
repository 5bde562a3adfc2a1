/- Lemmas, a part of the proof; no conditions. -/
import Derived.Test.YtabefplkfkfdfaaGreatPAf
import Derived.RowKit3
import Derived.Below
open Go.Ev.SE renaming den->UU
open List renaming range->YF,flatMap_append->aIY,getElem?_eq_none->Yb,getElem_cons_zero->aJJ,take_append_drop->JP,pairwise_append->aJW
open Go.Proofs.Tryz renaming prog->Z2
open Nat renaming add_assoc->P9,beq->ZW,ble->ZK,blt_eq->aLe,beq_eq->ZT
open Go.IntKind renaming i64->QY,u64->aKM
open Go.Value renaming int->P3
open Go.Instr renaming sameNow->Uz
open Option renaming bind_some->Z8
open Eq renaming symm->Ym
open List.Pairwise renaming map->XZ
open List.Perm renaming eq_of_pairwise->aLq
open Option renaming some->aa,none->ah
open Bool renaming true->ab,false->af
set_option linter.all false
def XJ:=@List.mem_zipIdx_iff_getElem?
def VI:=@List.append_of_mem
def Ts:=@Bool.eq_iff_iff
namespace Go.Proofs.YtabefplkfkfdfaaGreat
open Go Go.Ev
def Ly(a:Int):aj Int->aF Int
 |[]=>aa a
 |v::l=>if v<=a then Ly (if v=a then a+1 else a) l else ah
def S0(u:aj Int):Prop:=∀(i:Nat) (h:i<u.length),u[i]=(i:Int)
def lN(n:Nat):aj Int:=(YF n).map λ(i:Nat)=>(i:Int)
theorem nD(n:Nat):(lN n).length=n:=by simp[lN]
def OD(n:Nat):lN (n+1)=lN n++[(n:Int)]:=by simp[lN,List.range_succ]
variable{n:Nat}{v:Int}
def nG:v∈lN n↔0<=v/\v<n:=by
 simp only[lN,Z6,List.mem_range];exact⟨λ⟨i,h1,h2⟩=>ak,λ⟨h1,h2⟩=>⟨v.toNat,ak,ak⟩⟩
def ahi(n:Nat):S0 (lN n):=λi h=>by simp[lN]
def aHk:∀(w l:aj Int),∃t,dY l w=l++t
 |[],l=>⟨[],by simp[dY]⟩
 |v::w,l=>by
  obtain⟨t,h⟩:=aHk w (vV l v);show∃t,dY (vV l v) w=l++t;rw[h];unfold vV;split
  .exact⟨t,rfl⟩
  .exact⟨[v]++t,az⟩
def Sp:∀(w:aj Int) (a:Nat) (n:Int),(∀v∈w,0<=v)->(Ly a w=aa n↔S0 (dY (lN a) w)/\n=((dY (lN a) w).length:Int))
 |[],a,n,_=>by
  have:dY (lN a) []=lN a:=rfl;rw[this,nD];simp only[Ly,ZY];exact⟨λh=>⟨ahi a,h.symm⟩,λh=>h.2.symm⟩
 |v::w,a,n,h=>by
  have h0:=h v az;have hw:=λu hu=>h u (List.mem_cons_of_mem _ hu);show _↔S0 (dY (vV (lN a) v) w)/\n=((dY (vV (lN a) v) w).length:Int);unfold Ly vV;by_cases h1:v<a
  .rw[aW ak,aY ak,aW (nG.2 ⟨h0,h1⟩)];exact Sp w a n hw
  .rw[aY λhm=>h1 (nG.1 hm).2];by_cases h2:v=a
   .subst h2;rw[aW ak,aW rfl,<-OD];exact Sp w (a+1) n hw
   .rw[aY ak];obtain⟨t,ht⟩:=aHk w (lN a++[v]);refine⟨λh=>(by cases h),λ⟨hr,_⟩=>?_⟩;rw[ht]at hr;have:=hr a (by simp[nD]);simp[nD,List.getElem_append]at this;exact bH this h2
def uR:∀(w l:aj Int),v∈dY l w↔v∈l\/v∈w
 |[],l=>by simp[dY]
 |x::w,l=>by
  show v∈dY (vV l x) w↔_;rw[uR w];unfold vV;split
  .rename_i hx;simp only[ZP];exact⟨λh=>h.elim .inl λh=>.inr (.inr h),λh=>h.elim .inl λh=>h.elim (λe=>.inl (e▸hx)) .inr⟩
  .simp only[ZV,ZP,List.not_mem_nil,or_false,or_assoc]
def Lz(l xs:aj Int)(x:Int):dY l (xs++[x])=vV (dY l xs) x:=by simp[dY,List.foldl_append]
def abp(l xs:aj Int):dY l (Ew xs)=dY l xs:=by
 have key:∀n,dY l (Ew (xs.take n))=dY l (xs.take n):=λn=>by
  induction n with
  |zero=>rfl
  |succ n ih=>
   by_cases hn:n<xs.length
   .rw[ZN hn];generalize xs.take n=ys at ih;generalize xs[n]=x;rw[<-Ey,Lz,Lz,Ey];have hm:x∈Ew ys↔x∈ys:=by rw[<-Ey,uR];simp
    unfold vV;by_cases hx:x∈ys
    .rw[aW (hm.2 hx),aW ((uR _ _).2 (.inr hx)),ih]
    .rw[aY λh=>hx (hm.1 h),Lz,ih];rfl
   .rw[Wg ak]at ih⊢;exact ih
 have:=key xs.length;rwa[List.take_length]at this
def ahj(m:aj Int):∀l:aj At,dY m (mO l)=dY m (fm (gz l)):=λl=>by
 induction l generalizing m with
 |nil=>rfl
 |cons a l ih=>
  have h1:mO (a::l)=bg a.ts++mO l:=by simp[mO]
  have h2:fm (gz (a::l))=fm a.ts++fm (gz l):=by simp[gz,fm]
  rw[h1,h2,oN,oN,ih];show dY (dY m (Ew (fm a.ts))) _=_;rw[abp]
def asX(m:aj Int):∀l:aj Gl,dY m (oC l)=dY m (fm (qd l)):=λl=>by
 induction l generalizing m with
 |nil=>rfl
 |cons a l ih=>
  have h1:oC (a::l)=bg a.ts++oC l:=by simp[oC]
  have h2:fm (qd (a::l))=fm a.ts++fm (qd l):=by simp[qd,fm]
  rw[h1,h2,oN,oN,ih];show dY (dY m (Ew (fm a.ts))) _=_;rw[abp]
def oO(a b:aj Tm):fm (a++b)=fm a++fm b:=by simp[fm]
def acZ(a b:aj At):gz (a++b)=gz a++gz b:=by simp[gz]
def apG(a b:aj Gl):qd (a++b)=qd a++qd b:=by simp[qd]
def ada(r:Rl):dY [] (eN [r.aA,r.aC]++d_ [r.aL,r.bC])=bg (sq r):=by
 have e1:eN [r.aA,r.aC]=mO r.aA++mO r.aC:=by simp[eN]
 have e2:d_ [r.aL,r.bC]=oC r.aL++oC r.bC:=by simp[d_]
 show _=dY [] (fm (sq r));rw[e1,e2,sq,oO,acZ,apG,oO,oO];simp only[oN,ahj,asX]
variable{r:Rl}
def aoI{n:Int}(h:∀v∈eN [r.aA,r.aC]++d_ [r.aL,r.bC],0<=v):okV (sq r) n↔Ly 0 (eN [r.aA,r.aC]++d_ [r.aL,r.bC])=aa n:=by
 have:=Sp _ 0 n h;have e:lN 0=[]:=rfl;rw[e,ada]at this;exact this.symm
variable{ts:aj Tm}
def lJ:v∈bg ts↔v∈fm ts:=by
 show v∈Ew (fm ts)↔_;rw[<-Ey,uR];simp
def aGP(l:aj At):v∈mO l↔v∈fm (gz l):=by
 have:=uR (v:=v) (mO l) [];rw[ahj,uR]at this;simpa using this.symm
def aeL(r:Rl)(v:Int):v∈eN [r.aA,r.aC]↔v∈bg (gz (r.aA++r.aC)):=by
 have e1:eN [r.aA,r.aC]=mO r.aA++mO r.aC:=by simp[eN]
 rw[e1,ZV,aGP,aGP,lJ,acZ,oO,ZV]
def ahk(r:Rl)(p:Int->Prop):(∀v∈d_ [r.aL],p v)↔∀g∈r.aL,∀v∈bg g.ts,p v:=by
 have e1:d_ [r.aL]=oC r.aL:=by simp[d_]
 rw[e1];simp only[oC,List.mem_flatten,Z6];exact⟨λh g hg v hv=>h v ⟨_,⟨g,hg,rfl⟩,hv⟩,λh v ⟨_,⟨g,hg,e⟩,hv⟩=>h g hg v (e▸hv)⟩
def aGu(h1:∀a∈r.aA++r.aC,∀t∈a.ts,eH t)(h2:∀a∈r.aL++r.bC,∀t∈a.ts,eH t):∀v∈eN [r.aA,r.aC]++d_ [r.aL,r.bC],0<=v:=λv hv=>by
 have hv:v∈dY [] (eN [r.aA,r.aC]++d_ [r.aL,r.bC]):=(uR _ _).2 (.inr hv);rw[ada]at hv;refine((jQ λt ht=>?_).2 v hv).1;rcases ZV.1 ht with ht|ht
 .obtain⟨a,ha,ht⟩:=F7.1 ht;exact h1 a ha t ht
 .obtain⟨a,ha,ht⟩:=aHW.1 ht;exact h2 a ha t ht
def v47(ds:aj De)(s:aj UInt8)(n:Int)(hl:Sm ds):CC 233 af [rC ds,iS s,iI n] (iB (ie ds s n)):=by
 refine CC.dB aCC kr (λ_=>kr) az cE ?_;simp[amo,UU];refine aJ ds.length (λi (_:Unit)=>[iI i]) (λi _=>∀d∈ds.take i,d.s=s->¬d.n=n) () ?_ az λi _ hi hI=>?_
 .rfl
 by_cases aq:i<ds.length
 .have hw:=aS aq hl;simp[UU,aq,hw,R_ aq,aw,ag0];by_cases h1:s=ds[i].s/\n=ds[i].n
  .left;exact⟨h1,Lt (Z4 aq) ⟨h1.1.symm,h1.2.symm⟩⟩
  .right;exact⟨λh=>λh'=>h1 ⟨h,h'⟩,.mk () rfl ak (bN (p:=λd:De=>d.s=s->¬d.n=n) aq hI λh h'=>h1 ⟨h.symm,h'.symm⟩)⟩
 .simp[UU,aq];exact Jr (cb aq hI)
def v143(n:Int):CC 199 af [iI n] (iB (mz n)):=by
 refine CC.dB ayI kr (λ_=>kr) az cE ?_;simp[ag5,UU,mz];omega
variable{O l:aj IV}{i k:Nat}{z:IV}
def wo{I:aj IV}(h:O[i]?=aa z):(O++I)[i]?=aa z:=aI
def EB(h:i<l.length)(e:l[i]?=aa z):l[i]=z:=aI
def F8:(O++l)[O.length+k]?=l[k]? :=aI
variable{K K0:aj (aj IV->Prop)}
def apK{k k1:aj IV->Prop}(h:K[i]?=aa k):(K++[k1])[i]?=aa k:=aI
def YY:(O++l)[O.length]?=l[0]? :=F8 (k:=0)
section
variable{k0 k1 k2 k3 k4 k5 k6 k7 k8 k9 k10:aj IV->Prop}
def An(F:Prop)(Q:IV->Prop):Prop:=∀n:Int,(n=0↔F)->Q (iI n)
variable{F:Prop}{Q:IV->Prop}
def An.no(h:An F Q)(n:Int)(hn:n≠0)(g:¬F):Q (iI n):=h n ⟨λe=>bH e hn,λf=>bH f g⟩
theorem An.ok(h:An F Q)(f:F):Q (iI 0):=h 0 ⟨λ_=>f,λ_=>rfl⟩
def An.go{σ:Prop}(h:An (σ/\F) Q)(g:σ):An F Q:=λn e=>h n (e.trans ⟨λf=>⟨g,f⟩,λf=>f.2⟩)
variable{K:au}{d q:Nat}{φ:SE}
def wq{S:SE}{α:au}(L:aj IV)(μ:Nat->aj IV->Prop)(w0:aj IV)(hn:O.length=n)(hX:lA Z2 O φ=aa w0)(h0:μ 0 w0)
 (hS:∀I,S.den Z2 (O++I)=aa (.tree q L))(hq:∀z∈L,(aD z).length=q/\∃cs,z=.agg cs/\cs.length=q/\∀x∈cs,aw x=ab)(hd:∀j w,μ j w->n+1+w.length=d)
 (hB:∀j w (h:j<L.length),μ j w->StQ α Q (K0++[qJ L.length (λj w=>iI j::w) μ j]) (O++(iI j::w++[L[j]])))
 (hK:∀w k,μ L.length w->StQ K Q (K0++[k]) (O++(iI L.length::w))):(QA S q n φ d α K).sat Z2 CC Q K0 O:=by
 subst hn;refine aJ L.length (λj w=>iI j::w) μ w0 (by simp[UU,hX]) h0 λj w hj hI=>?_;have e1:=hS (iI j::w);have e2:(SE.var O.length).den Z2 (O++iI j::w)=aa (iI j):=by simp[UU]
 have hdj:=hd j w hI;by_cases aq:j<L.length
 .have⟨g1,cs,g2,g3,g4⟩:=hq _ (Z4 aq);have e3:cu q (.tree q L) (iI j)=aa L[j]:=cM (UN aq) g1
  have e4:(SE.var d).den Z2 (O++(iI j::w++[L[j]]))=aa (.agg cs):=by
   rw[UU,<-hdj,P9,F8,Nat.add_comm,List.cons_append,List.getElem?_cons_succ,List.getElem?_append_right ak]
   grind
  have hy:=hB j w aq hI
  simp_all[UU]
 .have:j=L.length:=ak
  simp_all[UU]
variable{ds:aj De}{ρ:SE}
def UH(hd:Sm ds){s:aj UInt8}(hb:ie ds s ts.length=af->∀n:Int,n≠0->Q (iI n)){m j:Nat}{A:IV}{k':aj IV->Prop}{w:aj IV}(hm:O.length=m)(h0:O[0]?=aa (rC ds))(hi:O[i]?=aa (iI j))(hj:j<1000)
 (hA:A=.agg [iS s,iT ts]/\q=0\/∃op:Int,A=.agg [iI op,iS s,iT ts]/\q=1)(lO:K0.length=k+1)(hk:K0[k]?=aa k')(hY:∀I,lA Z2 (O++I) ρ=aa w)(DO:ie ds s ts.length=ab->k' (iI (j+1:Nat)::w)):(dF q m i k ρ).sat Z2 CC Q K0 (O++[A]):=by
 subst hm;have mU:=aS hj ak;have h47:=v47 ds s ts.length hd;have a0:=λI=>wo (I:=I) h0;have ai:=λI=>wo (I:=I) hi;have g0:=λI (h:0<(O++I).length)=>EB h (a0 I);have gi:=λI (h:i<(O++I).length)=>EB h (ai I);have q8:=λk1=>apK (k1:=k1) hk;have eL:rC ds=.tree 2 (ds.map uM):=rfl;refine wq (ds.map uM) (λj w=>w=[]/\∀d∈ds.take j,¬d.s=s) [] az az az (λI=>by simp[UU,a0]) (by simp[uM,aw];exactλ_ _=>rfl) (by rintro j w ⟨rfl,_⟩;rfl) ?_ ?_
 .rintro j _ aq ⟨rfl,hI⟩;rw[Ki]at aq;have hw:=aS aq hd;have wm:∀x,(K0++[x])[k+1]?=aa x:=λx=>by rw[<-lO];simp
  rcases hA with⟨rfl,rfl⟩|⟨op,rfl,rfl⟩
  all_goals
   simp[UU,ai,g0,aZ,uM,hY,q8,wm,mU,hw];by_cases h1:ds[j].s=s
   .refine .inl ⟨h1,_,h47,?_⟩;cases O5:ie ds s ts.length with
    |false=>simp;exact hb O5 9 ak
    |true=>simp;exact DO O5
   .exact .inr ⟨h1,.mk [] rfl aq ⟨rfl,bN (p:=λd:De=>¬d.s=s) aq hI h1⟩⟩
 .rintro w k ⟨rfl,hI⟩;simp[UU,aZ];exact hb (Jr λd hd h=>bH h (cb az hI d hd)) 7 ak
structure En(O:aj IV)(ds:aj De)(r:Rl):Prop where
 d:O[0]?=aa (rC ds)
 r:O[1]?=aa (aR r)
def En.ap(h:En O ds r)(I:aj IV):En (O++I) ds r:=⟨wo h.d,wo h.r⟩
def aj2(l u:aj Int)(hl:Sm l)(hu:Sm u)(hQ:An (∀v∈u,v∈l) Q):(amt O.length).sat Z2 CC Q [k0,k1,k2,k3,k4,k5,k6,k7,k8,k9,k10] (O++[iL l,iL u]):=by
 refine aJ u.length (λj (_:Unit)=>[iL l,iI j]) (λj _=>∀v∈u.take j,v∈l) () ?_ az λj _ hj hI=>?_
 .simp[UU]
 by_cases aq:j<u.length
 .have hw:=aS aq hu;have aCT:=Vz l u[j] hl;simp[UU,aq,hw,aZ,aD];exists _,aCT;by_cases e:u[j]∈l
  .simp[e];exact .mk () rfl ak (bN (p:=(·∈l)) aq hI e)
  .simp[e];exact hQ.no 17 ak λh=>e (h _ (Z4 aq))
 .simp[UU,aq];exact hQ.ok (cb aq hI)
def aj3(e:En O ds r)(h:tf ds r)(hQ:An ((∀g∈r.bC,mz g.op=af)/\∀v∈d_ [r.aL],v∈eN [r.aA,r.aC]) Q):(amu O.length).sat Z2 CC Q [k0,k1,k2,k3,k4,k5,k6,k7,k8,k9] O:=by
 have hl:=h.bC.1;have a1:=λI=>wo (I:=I) e.r;have g1:=λI (h:1<(O++I).length)=>EB h (a1 I);refine wq (r.bC.map il) (λj w=>w=[]/\∀g∈r.bC.take j,mz g.op=af) [] rfl az az (λI=>by simp[UU,a1]) (by simp[il,aw];exactλ_ _=>rfl) (by rintro j _ ⟨rfl,_⟩;rfl) ?_ ?_
 .rintro j _ aq ⟨rfl,hI⟩;rw[Ki]at aq;have hw:=aS aq ak;have aj4:=v143 r.bC[j].op;simp[UU,aZ,il,hw];exists _,aj4;cases hb:mz r.bC[j].op<;>simp
  .exact .mk [] rfl aq ⟨rfl,bN (p:=λg:Gl=>mz g.op=af) aq hI hb⟩
  .exact hQ.no 10 ak λh=>by have:=h.1 _ (Z4 aq);simp[hb]at this
 .rintro _ k ⟨rfl,hI⟩;have⟨g2,g3⟩:=abo h;have⟨g4,g5⟩:=aoG h;have hQ:=hQ.go (cb (i:=(r.bC.map il).length) az hI);generalize eN [r.aA,r.aC]=u at*
  generalize d_ [r.aL]=v at*
  have hy:=aj2 (O:=O++[iI r.bC.length]) (k0:=k0) (k1:=k1) (k2:=k2) (k3:=k3) (k4:=k4) (k5:=k5) (k6:=k6) (k7:=k7) (k8:=k8) (k9:=k9) (k10:=k) u v ak ak hQ;simp[UU,a1,g1,aD];exact⟨_,g3,_,g5,⟨_,rfl⟩,by simpa using hy⟩
def aj5(e:En O ds r)(h:tf ds r)(hQ:An ((∀g∈r.aL,mz g.op=ab\/g.op=1)/\(∀g∈r.bC,mz g.op=af)/\∀v∈d_ [r.aL],v∈eN [r.aA,r.aC]) Q):(aes O.length).sat Z2 CC Q [k0,k1,k2,k3,k4,k5,k6,k7,k8] O:=by
 have hl:=h.aL.1;have a1:=λI=>wo (I:=I) e.r;have g1:=λI (h:1<(O++I).length)=>EB h (a1 I);refine wq (r.aL.map il) (λj w=>w=[]/\∀g∈r.aL.take j,mz g.op=ab\/g.op=1) [] rfl az az (λI=>by simp[UU,a1]) (by simp[il,aw];exactλ_ _=>rfl) (by rintro j _ ⟨rfl,_⟩;rfl) ?_ ?_
 .rintro j _ aq ⟨rfl,hI⟩;rw[Ki]at aq;have hw:=aS aq ak;have aj4:=v143 r.aL[j].op;have hs:=bN (p:=λg:Gl=>mz g.op=ab\/g.op=1) aq hI;simp[UU,aZ,il,hw];exists _,aj4;cases hb:mz r.aL[j].op<;>simp
  .by_cases z:r.aL[j].op=1
   .right;exact⟨z,.mk [] rfl aq ⟨rfl,hs (.inr z)⟩⟩
   .left;exact⟨z,hQ.no 10 ak λh=>by have:=h.1 _ (Z4 aq);simp[hb,z]at this⟩
  .exact .mk [] rfl aq ⟨rfl,hs (.inl hb)⟩
 .rintro _ k ⟨rfl,hI⟩;have hy:=aj3 (k0:=k0) (k1:=k1) (k2:=k2) (k3:=k3) (k4:=k4) (k5:=k5) (k6:=k6) (k7:=k7) (k8:=k8) (k9:=k) (e.ap [iI (r.aL.map il).length]) h (hQ.go (cb (i:=(r.aL.map il).length) az hI));simp[UU,a1]at hy⊢;exact hy
variable{L:aj Gl}{l:Nat}{x2:IV}
def amz(e:En O ds r)(hd:Sm ds)(hL:L.length<=6)(hS:∀I,(SE.bt (.var 1) l).den Z2 (O++I)=aa (gw L))(hk:K0.length=k)(dw:¬BB ds L->∀n:Int,n≠0->Q (iI n))(hK:BB ds L->∀k',StQ K Q (K0++[k']) (O++[iI L.length])):(cF l O.length k K).sat Z2 CC Q K0 O:=by
 have a0:=λI=>wo (I:=I) e.d;have g0:=λI (h:0<(O++I).length)=>EB h (a0 I);refine wq (L.map il) (λj w=>w=[]/\∀g∈L.take j,g.op=0->ie ds g.s g.ts.length=ab) [] rfl az az hS (by simp[il,aw];exactλ_ _=>rfl) (by rintro j _ ⟨rfl,_⟩;rfl) ?_ ?_
 .rintro j _ aq ⟨rfl,hI⟩;rw[Ki]at aq;have hw:=aS aq ak;have wm:∀x,(K0++[x])[k]?=aa x:=λx=>by rw[<-hk];simp
  have hy:=λ(hb:_=af->_) (k':aj IV->Prop) (er:_->k' _)=>UH (Q:=Q) hd (s:=L[j].s) (ts:=L[j].ts) hb (q:=1) (m:=O.length+1) (i:=O.length) (k:=k) (j:=j) (ρ:=.an) (O:=O++[iI j]) (A:=il L[j]) (K0:=K0++[k']) (k':=k') (w:=[]) az (wo e.d) az ak (.inr ⟨_,rfl,rfl⟩) (by simp[hk]) (wm _) (λI=>az) er;have hs:=bN (p:=λg:Gl=>g.op=0->ie ds g.s g.ts.length=ab) aq hI;simp[UU,g0,il,hw,wm]at hy⊢;by_cases z:L[j].op=0
  .exact .inl ⟨z,hy (λhb=>dw λh=>by have:=h _ (Z4 aq) z;simp[hb]at this) _ λhb=>.mk [] rfl aq ⟨rfl,hs λ_=>hb⟩⟩
  .exact .inr ⟨z,.mk [] rfl aq ⟨rfl,hs λh=>bH h z⟩⟩
 .rintro _ k ⟨rfl,hI⟩;have:=hK (cb (i:=(L.map il).length) az hI) k;simpa using this
def aj6(e:En O ds r)(h:tf ds r)(hQ:An (BB ds r.aL/\BB ds r.bC/\(∀g∈r.aL,mz g.op=ab\/g.op=1)/\(∀g∈r.bC,mz g.op=af)/\∀v∈d_ [r.aL],v∈eN [r.aA,r.aC]) Q):(amv O.length).sat Z2 CC Q [k0,k1,k2,k3,k4,k5,k6] O:=by
 have a1:=λI=>wo (I:=I) e.r;have g1:=λI (h:1<(O++I).length)=>EB h (a1 I);refine amz e h.d h.aL.1 (λI=>by simp[UU,a1]) rfl (λhb n hn=>hQ.no n hn λh=>hb h.1) λhc k=>⟨by simp[UU,a1],?_⟩;have hQ:=hQ.go hc
 have hy:=amz (l:=4) (k:=8) (K0:=[k0,k1,k2,k3,k4,k5,k6,k]) (K:=.aQ (.len (.bt (.var 1) 3)) (aes (O.length+2))) (Q:=Q) (e.ap [iI r.aL.length]) h.d h.bC.1 (λI=>by simp[UU,a1]) rfl (λhb n hn=>hQ.no n hn λh=>hb h.1) λhc k'=>⟨by simp[UU,g1],by
  have hy:=aj5 (k0:=k0) (k1:=k1) (k2:=k2) (k3:=k3) (k4:=k4) (k5:=k5) (k6:=k6) (k7:=k) (k8:=k') (e.ap ([iI r.aL.length]++[iI r.bC.length])) h (hQ.go hc)
  grind⟩
 grind
def Af(ds:aj De)(r:Rl):Prop:=BB ds r.aL/\BB ds r.bC/\(∀g∈r.aL,mz g.op=ab\/g.op=1)/\(∀g∈r.bC,mz g.op=af)/\∀v∈d_ [r.aL],v∈eN [r.aA,r.aC]
def LB(ds:aj De)(a:At):Prop:=ie ds a.s a.ts.length=ab
def aj7(e:En O ds r)(h:tf ds r)(hQ:An ((∀a∈r.aC,LB ds a)/\Af ds r) Q):(amw O.length).sat Z2 CC Q [k0,k1,k2,k3,k4,k5] O:=by
 have hl:=h.aC.1;have a0:=λI=>wo (I:=I) e.d;have g0:=λI (h:0<(O++I).length)=>EB h (a0 I);have a1:=λI=>wo (I:=I) e.r;have g1:=λI (h:1<(O++I).length)=>EB h (a1 I);refine wq (r.aC.map c_) (λj w=>(∃b,w=[iB b])/\∀a∈r.aC.take j,LB ds a) [iB af] rfl (by simp[UU]) az (λI=>by simp[UU,a1]) (by simp[c_,aw];exactλ_ _=>rfl) (by rintro j _ ⟨⟨b,rfl⟩,_⟩;rfl) ?_ ?_
 .rintro j _ aq ⟨⟨b,rfl⟩,hI⟩;rw[Ki]at aq;have hy:=λ(k':aj IV->Prop) (er:_->k' _)=>UH (Q:=Q) h.d (s:=r.aC[j].s) (ts:=r.aC[j].ts) (λhb n hn=>hQ.no n hn λh=>by have:=h.1 _ (Z4 aq);unfold LB at this;simp[hb]at this) (q:=0) (m:=O.length+2) (i:=O.length) (k:=6) (j:=j) (ρ:=.ac (.b ab) .an) (O:=O++[iI j,iB b]) (A:=c_ r.aC[j]) (K0:=[k0,k1,k2,k3,k4,k5,k']) (k':=k') (w:=[iB ab]) az (wo e.d) az ak (.inl ⟨rfl,rfl⟩) rfl rfl (λI=>by simp[UU]) er;simp[UU,g0,c_]at hy⊢;exact hy _ λhb=>.mk [iB ab] rfl aq ⟨.inr rfl,bN aq hI hb⟩
 .rintro _ k ⟨⟨b,rfl⟩,hI⟩;have hy:=aj6 (k0:=k0) (k1:=k1) (k2:=k2) (k3:=k3) (k4:=k4) (k5:=k5) (k6:=k) (e.ap [iI r.aC.length,iB b]) h (hQ.go (cb (i:=(r.aC.map c_).length) az hI));simp[UU,g1]at hy⊢;exact hy
def aIN(hn:O.length=n)(e:En O ds r)(h:tf ds r)(hQ:An ((∀a∈r.aA,LB ds a)/\(∀a∈r.aC,LB ds a)/\Af ds r) Q):(YO n).sat Z2 CC Q [k0,k1,k2,k3,k4] O:=by
 subst hn;have hl:=h.aA.1;have a0:=λI=>wo (I:=I) e.d;have g0:=λI (h:0<(O++I).length)=>EB h (a0 I);have a1:=λI=>wo (I:=I) e.r;have g1:=λI (h:1<(O++I).length)=>EB h (a1 I);refine wq (r.aA.map c_) (λj w=>w=[]/\∀a∈r.aA.take j,LB ds a) [] rfl az az (λI=>by simp[UU,a1]) (by simp[c_,aw];exactλ_ _=>rfl) (by rintro j _ ⟨rfl,_⟩;rfl) ?_ ?_
 .rintro j _ aq ⟨rfl,hI⟩;rw[Ki]at aq;have hy:=λ(k':aj IV->Prop) (er:_->k' _)=>UH (Q:=Q) h.d (s:=r.aA[j].s) (ts:=r.aA[j].ts) (λhb n hn=>hQ.no n hn λh=>by have:=h.1 _ (Z4 aq);unfold LB at this;simp[hb]at this) (q:=0) (m:=O.length+1) (i:=O.length) (k:=5) (j:=j) (ρ:=.an) (O:=O++[iI j]) (A:=c_ r.aA[j]) (K0:=[k0,k1,k2,k3,k4,k']) (k':=k') (w:=[]) az (wo e.d) az ak (.inl ⟨rfl,rfl⟩) rfl rfl (λI=>az) er;simp[UU,g0,c_]at hy⊢;exact hy _ λhb=>.mk [] rfl aq ⟨rfl,bN aq hI hb⟩
 .rintro _ k ⟨rfl,hI⟩;have hy:=aj7 (k0:=k0) (k1:=k1) (k2:=k2) (k3:=k3) (k4:=k4) (k5:=k) (e.ap [iI r.aA.length]) h (hQ.go (cb (i:=(r.aA.map c_).length) az hI));simp[UU,a1]at hy⊢;exact hy
def asY{x3 x4 x5 x6 x7 x8 x9 ey:IV}(h:tf ds r)(l:aj Int)(hl:l.length<=1000000000)(hQ:An (Ly 0 l=aa r.vars/\(r.name=[]\/ic r.name=ab)/\(∀a∈r.aA,LB ds a)/\(∀a∈r.aC,LB ds a)/\Af ds r) Q):StQ aI5 Q [k0,k1,k2,k3] [rC ds,aR r,x2,x3,x4,x5,x6,x7,x8,x9,ey,iL l]:=by
 have h83:=v83 r.name;refine aJ l.length (λj (a:Int)=>[iI j,iI a]) (λj a=>0<=a/\a<=j/\Ly 0 l=Ly a (l.drop j)) 0 ?_ ⟨ak,ak,rfl⟩ λj a hj hI=>?_
 .simp[UU]
 have⟨iE,gx,sU⟩:=hI;by_cases aq:j<l.length
 .have hw:=aS aq ak;have hwa:QY.wrap (a+1)=a+1:=eU ak ak;rw[UQ aq,Ly]at sU;simp[UU,aq,hw,aD,aZ];by_cases z1:l[j]<=a
  .rw[aW z1]at sU;right;exists z1;by_cases z2:l[j]=a
   .rw[aW z2]at sU;exact .inl ⟨z2,.mk (a+1) (by rw[hwa];rfl) ak ⟨ak,ak,sU⟩⟩
   .rw[aY z2]at sU;exact .inr ⟨z2,.mk a rfl ak ⟨ak,ak,sU⟩⟩
  .rw[aY z1]at sU;left;exact⟨ak,hQ.no 2 ak λh=>by rw[sU]at h;cases h.1⟩
 .rw[ZX ak,Ly]at sU;simp[UU,aq,aZ];by_cases z0:r.vars=a
  rotate_left
  .left;exact⟨z0,hQ.no 2 ak λh=>by rw[sU]at h;exact z0 (Nr h.1).symm⟩
  subst z0;right;exists rfl;have hQ:=hQ.go sU;by_cases z2:r.name=[]
  .exact .inl ⟨z2,aIN (O:=[rC ds,aR r,x2,x3,x4,x5,x6,x7,x8,x9,ey,iL l,iI j,iI r.vars]) rfl ⟨rfl,rfl⟩ h (hQ.go (.inl z2))⟩
  .refine .inr ⟨z2,_,h83,?_⟩;cases hb:ic r.name with
   |false=>simp;exact hQ.no 7 ak λh=>by simp[hb,z2]at h
   |true=>simp;exact aIN (O:=[rC ds,aR r,x2,x3,x4,x5,x6,x7,x8,x9,ey,iL l,iI j,iI r.vars,iB ab]) rfl ⟨rfl,rfl⟩ h (hQ.go (.inr hb))
def XY(n d:Nat)(φ ρ:SE):Prop:=φ=.an/\ρ=.an/\d=n+1\/φ=.ac (.b af) .an/\ρ=.ac (.b ab) .an/\d=n+2
def ahl{L:aj At}(e:En O ds r)(hn:O.length=n)(hL:L.length<=6)(hS:∀I,(SE.bt (.var 1) l).den Z2 (O++I)=aa (db L))(hk:K0.length=k)(hXY:XY n d φ ρ)(hc:∀a∈L,vI a)(dw:¬(∀a∈L,kJ a=ab)->Q (iI 2))(hK:(∀a∈L,kJ a=ab)->∀w k',n+1+w.length=d->StQ K Q (K0++[k']) (O++(iI L.length::w))):(atF l n k φ ρ d K).sat Z2 CC Q K0 O:=by
 subst hn;have wm:∀x,(K0++[x])[k]?=aa x:=λx=>by rw[<-hk];simp
 rcases hXY with⟨rfl,rfl,rfl⟩|⟨rfl,rfl,rfl⟩
 .refine wq (L.map c_) (λj w=>w=[]/\∀a∈L.take j,kJ a=ab) [] rfl az az hS (by simp[c_,aw];exactλ_ _=>rfl) (by rintro j _ ⟨rfl,_⟩;rfl) ?_ (by rintro _ k ⟨rfl,hI⟩;simpa using hK (cb (i:=(L.map c_).length) az hI) [] k rfl);rintro j _ aq ⟨rfl,hI⟩;rw[Ki]at aq;have hw:=aS aq ak;have h1:=hc _ (Z4 aq);have YZ:=v45 L[j] h1;simp[UU,P9,aZ,c_,hw,wm];exists _,YZ;cases hb:kJ L[j]with
  |false=>simp;exact dw λh=>by have:=h _ (Z4 aq);simp[hb]at this
  |true=>simp;exact .mk [] rfl aq ⟨rfl,bN aq hI hb⟩
 .refine wq (L.map c_) (λj w=>(∃b,w=[iB b])/\∀a∈L.take j,kJ a=ab) [iB af] rfl (by simp[UU]) az hS (by simp[c_,aw];exactλ_ _=>rfl) (by rintro j _ ⟨⟨b,rfl⟩,_⟩;rfl) ?_ (by rintro _ k ⟨⟨b,rfl⟩,hI⟩;simpa using hK (cb (i:=(L.map c_).length) az hI) [iB b] k rfl);rintro j _ aq ⟨⟨b,rfl⟩,hI⟩;rw[Ki]at aq;have hw:=aS aq ak;have h1:=hc _ (Z4 aq);have YZ:=v45 L[j] h1;simp[UU,P9,aZ,c_,hw,wm];exists _,YZ;cases hb:kJ L[j]with
  |false=>simp;exact dw λh=>by have:=h _ (Z4 aq);simp[hb]at this
  |true=>simp;exact .mk [iB ab] rfl aq ⟨.inr rfl,bN aq hI hb⟩
def ahm(e:En O ds r)(hn:O.length=n)(hL:L.length<=6)(hS:∀I,(SE.bt (.var 1) l).den Z2 (O++I)=aa (gw L))(hk:K0.length=k)(hXY:XY n d φ ρ)(hc:∀a∈L,tR a)(dw:¬(∀a∈L,fF a=ab)->Q (iI 2))(hK:(∀a∈L,fF a=ab)->∀w k',n+1+w.length=d->StQ K Q (K0++[k']) (O++(iI L.length::w))):(goF l n k φ ρ d K).sat Z2 CC Q K0 O:=by
 subst hn;have wm:∀x,(K0++[x])[k]?=aa x:=λx=>by rw[<-hk];simp
 rcases hXY with⟨rfl,rfl,rfl⟩|⟨rfl,rfl,rfl⟩
 .refine wq (L.map il) (λj w=>w=[]/\∀a∈L.take j,fF a=ab) [] rfl az az hS (by simp[il,aw];exactλ_ _=>rfl) (by rintro j _ ⟨rfl,_⟩;rfl) ?_ (by rintro _ k ⟨rfl,hI⟩;simpa using hK (cb (i:=(L.map il).length) az hI) [] k rfl);rintro j _ aq ⟨rfl,hI⟩;rw[Ki]at aq;have hw:=aS aq ak;have h1:=hc _ (Z4 aq);have Y0:=v138 L[j] h1;simp[UU,P9,aZ,il,hw,wm];exists _,Y0;cases hb:fF L[j]with
  |false=>simp;exact dw λh=>by have:=h _ (Z4 aq);simp[hb]at this
  |true=>simp;exact .mk [] rfl aq ⟨rfl,bN aq hI hb⟩
 .refine wq (L.map il) (λj w=>(∃b,w=[iB b])/\∀a∈L.take j,fF a=ab) [iB af] rfl (by simp[UU]) az hS (by simp[il,aw];exactλ_ _=>rfl) (by rintro j _ ⟨⟨b,rfl⟩,_⟩;rfl) ?_ (by rintro _ k ⟨⟨b,rfl⟩,hI⟩;simpa using hK (cb (i:=(L.map il).length) az hI) [iB b] k rfl);rintro j _ aq ⟨⟨b,rfl⟩,hI⟩;rw[Ki]at aq;have hw:=aS aq ak;have h1:=hc _ (Z4 aq);have Y0:=v138 L[j] h1;simp[UU,P9,aZ,il,hw,wm];exists _,Y0;cases hb:fF L[j]with
  |false=>simp;exact dw λh=>by have:=h _ (Z4 aq);simp[hb]at this
  |true=>simp;exact .mk [iB ab] rfl aq ⟨.inr rfl,bN aq hI hb⟩
def asZ(hd:Sm ds)(hs:iF r)(hn:pB r)(cg:r.aA++r.aC≠[])(hQ:An (xU ds r) Q):StQ aHT Q [] [rC ds,aR r,x2]:=by
 have e:∀l,En (rC ds::aR r::l) ds r:=λl=>⟨rfl,rfl⟩;have h3:=hs.h;have hg:=hs.g;have hb:=hs.b;have hN:=λ(o:¬xU ds r)=>hQ.no 2 ak o;refine ahl (L:=r.aA) (e _) rfl ak (λI=>cE) rfl (.inl ⟨rfl,rfl,rfl⟩) (λa m=>hn.hs a aI) (λh=>hN λo=>h λa m=>o.hs a aI) λo1 w k0 hw=>⟨by simp[UU],?_⟩;have:w=[]:=Kp ak;subst this;refine ahl (L:=r.aC) (e _) rfl ak (λI=>cE) rfl (.inr ⟨rfl,rfl,rfl⟩) (λa m=>hn.hs a aI) (λh=>hN λo=>h λa m=>o.hs a aI) λo2 w k1 hw=>⟨by simp[UU],?_⟩;obtain⟨x4,rfl⟩:=Um.1 (show w.length=1 by omega);refine ahm (L:=r.aL) (e _) rfl hg (λI=>cE) rfl (.inl ⟨rfl,rfl,rfl⟩) (λa m=>hn.gs a aI) (λh=>hN λo=>h λa m=>o.gs a aI) λo3 w k2 hw=>⟨by simp[UU],?_⟩;have:w=[]:=Kp ak;subst this;refine ahm (L:=r.bC) (e _) rfl hb (λI=>cE) rfl (.inr ⟨rfl,rfl,rfl⟩) (λa m=>hn.gs a aI) (λh=>hN λo=>h λa m=>o.gs a aI) λo4 w k3 hw=>?_;obtain⟨x8,rfl⟩:=Um.1 (show w.length=1 by omega);have q1:=λa m=>(ZV.1 m).elim (o1 a) (o2 a);have q2:=λg m=>(ZV.1 m).elim (o3 g) (o4 g);have h:tf ds r:=⟨hd,hs,hn,hn.for (λa ha=>EA (q1 a ha)) λa ha=>Aj (q2 a ha)⟩;have⟨g1,g2⟩:=abo h;have⟨g3,g4⟩:=aoH h;have hc:=By (a:=eN [r.aA,r.aC]) (b:=d_ [r.aL,r.bC]) ak;have hR:=aoI (r:=r) (n:=r.vars) (aGu (λa ha=>EA (q1 a ha)) λa ha=>(Aj (q2 a ha)).2);have hV:=ahk r (·∈eN [r.aA,r.aC])
 have Te:An (Ly 0 (eN [r.aA,r.aC]++d_ [r.aL,r.bC])=aa r.vars/\(r.name=[]\/ic r.name=ab)/\(∀a∈r.aA,LB ds a)/\(∀a∈r.aC,LB ds a)/\Af ds r) Q:=λn hn=>hQ n (hn.trans ⟨λ⟨a,b,c,d,f,g,i,j,k⟩=>⟨cg,q1,q2,hR.2 a,b,⟨λx m=>(ZV.1 m).elim (c x) (d x),λx m=>(ZV.1 m).elim (f x) (g x),i,j,λx m v hv=>(aeL r v).1 (hV.1 k x m v hv)⟩⟩,
  λo=>⟨hR.1 o.v,o.n,λx m=>o.m.h x aI,λx m=>o.m.h x aI,λx m=>o.m.c x aI,λx m=>o.m.c x aI,o.m.g,o.m.b,hV.2 λx m v hv=>(aeL r v).2 (o.m.v x m v hv)⟩⟩)
 generalize eN [r.aA,r.aC]=u at g1 g2 hc Te;generalize d_ [r.aL,r.bC]=v at g3 g4 hc Te;simp[UU,aD];exists _,g2,_,g4;simp[hc];exact asY h (u++v) aI Te
def v84(ds:aj De)(r:Rl)(hd:Sm ds)(hs:iF r)(hn:pB r):∃n,(n=0↔xU ds r)/\CC 155 af [rC ds,cy r] (iI n):=by
 have h3:=hs.h;have hg:=hs.g;have hb:=hs.b;have hw:QY.wrap ((r.aA.length:Int)+r.aC.length)=r.aA.length+r.aC.length:=eU ak ak;refine CC.Si _ aCP kr (λ_=>kr) (by intro x hx;rcases ZP.1 hx with rfl|hx;exact Ow _;obtain rfl:=Z3.1 hx;exact fO r) cE ?_;have hQ:An (xU ds r) (UK λn=>n=0↔xU ds r):=λn h=>⟨n,rfl,h⟩;have hy:=λcg=>asZ (x2:=.aU []) hd hs hn cg hQ;have cg:=λ(z:r.aA++r.aC=[])=>hQ.no 6 ak λo=>o.ne z;rw[bQ];simp[amx,UU,aw,aZ];exists _,amy ab (.aU []);by_cases z:r.aA++r.aC=[]
 .simp_all
 .left;have:=List.length_pos_iff.2 z
  grind
end
def v95(t:Tm)(h:WF t):CC 186 af [eo t] (iL (bg [t])):=by
 refine CC.w6 aCe kr (λ_=>kr) (by simpa using mZ t) cE ?_;have hb:=Uw t h.1 h.2 [] Vr.nil;have e:dY [] (gN t)=bg [t]:=by show _=dY [] (fm [t]);simp[fm]
 rw[e]at hb;rw[bL]at hb⊢;simp[amb,UU,aw,aZ,aD];exact⟨_,hb,az⟩
section rule
end rule
def t32(a b:Int):pU Z2 85 (.aU [iI a,iI b])=ab:=kr
def DcP(ds:aj De):Prop:=(∀d∈ds,ic d.s=ab/\0<=d.n/\d.n<=6)/\∀(i:Nat) (h:i<ds.length),ie (ds.take i) ds[i].s ds[i].n=af
def aiB{ds:aj De}{d:De}:ie ds d.s d.n=ab↔d∈ds:=by
 rw[BA];refine⟨λ⟨e,h1,h2,h3⟩=>?_,λh=>⟨d,h,rfl,rfl⟩⟩;cases d;cases e;simp only at h2 h3;subst h2;subst h3;exact h1
def ayR{Q:IV->Prop}{k0:aj IV->Prop}(p:Pg)(h:f_ p){x1:IV}(hk:∀n:Int,(n=0↔DcP p.bU)->k0 [iI n]):StQ abl Q [k0] [.agg [rC p.bU,FW p.aX],x1]:=by
 obtain⟨ds,rs⟩:=p;obtain⟨hd,hr,dn,j8,Tf⟩:=h;simp only at*
 refine aJ ds.length (λj (dl:aj De)=>[iI j,.aU (dl.map F0)]) (λj dl=>dl=ds.take j/\(∀d∈ds.take j,ic d.s=ab/\0<=d.n/\d.n<=6)/\∀(i:Nat) (h:i<ds.length),i<j->ie (ds.take i) ds[i].s ds[i].n=af) [] ?_ ⟨rfl,az,λ_ _ h=>bH h ak⟩ λj dl hj hI=>?_
 .simp[UU]
 obtain⟨Yy,iE,gx⟩:=hI;by_cases aq:j<ds.length
 .have hw:=aS aq ak;have hme:=Z4 aq;have h83:=v83 ds[j].s;have dw:∀n:Int,n≠0->¬DcP ds->k0 [iI n]:=λn h1 h2=>hk n ⟨λh=>bH h h1,λh=>bH h h2⟩;simp[UU,aq,hw,R_ aq,aw,aZ];exists _,h83;cases b83:ic ds[j].s<;>simp[aZ]
  .exact dw 7 ak λm=>by have:=(m.1 _ hme).1;simp[b83]at this
  by_cases z1:0<=ds[j].n
  rotate_left
  .right;exact⟨ak,dw 9 ak λm=>z1 (m.1 _ hme).2.1⟩
  left;exists z1;by_cases z2:ds[j].n<=6
  rotate_left
  .left;exact⟨ak,dw 9 ak λm=>z2 (m.1 _ hme).2.2⟩
  right;exists ak;by_cases hm:ds[j]∈dl
  .obtain⟨q,g1,g2⟩:=(abd dl ds[j]).1 hm;simp only[iS,iI]at g1;simp[g1,g2,F0,aZ];exact dw 8 ak λm=>by have:=m.2 j aq;rw[aiB.2 (Yy▸hm)]at this;cases this
  .have g1:=(abd dl ds[j]).2 hm;simp only[iS,iI]at g1
   have hf:ie (ds.take j) ds[j].s ds[j].n=af:=by
    cases hb:ie (ds.take j) ds[j].s ds[j].n with
    |false=>rfl
    |true=>exact bH (Yy▸aiB.1 hb) hm
   simp[g1,aZ];refine .mk (dl++[ds[j]]) (by simp[F0]) ak ⟨by rw[ZN aq,Yy],bN aq iE ⟨b83,z1,z2⟩,λi hi sG=>?_⟩;rcases Nat.lt_succ_iff_lt_or_eq.1 sG with sG|rfl
   .exact gx i hi sG
   .exact hf
 .have hD:DcP ds:=⟨cb aq iE,λi hi=>gx i hi ak⟩;simp[UU,aq,aZ,aw];right;exact⟨ak,hk 0 ⟨λ_=>hD,λ_=>rfl⟩⟩
def v32(p:Pg)(h:f_ p):∃a n,(n=0↔vK p)/\CC 85 af [bc p] (.aU [iI a,iI n]):=by
 refine CC.ar8 _ aCD kr t32 (by simpa using cz p) cE ?_;show aep.sat _ _ _ _ [.agg [rC p.bU,FW p.aX]];have hd:=h.d;have hr:=h.r;have QD:=λm:vK p=>(⟨m.d,m.u⟩:DcP p.bU);have QE:=λm:vK p=>m.r;have hO:=λ(a:DcP p.bU) b=>(⟨a.1,a.2,b⟩:vK p);generalize vK p=ν at QD QE hO⊢;simp[aep,UU,aw];unfold abn;refine jI (λvs=>∃n:Int,vs=[iI n]/\(n=0↔DcP p.bU)) ?_ ?_
 .simp[UU,aw];exists _,amy ab (.aU []);by_cases z:30<p.bU.length
  .omega
  .right;exact⟨ak,ayR p h λn hn=>⟨n,rfl,hn⟩⟩
 .rintro vs ⟨n,rfl,hn⟩;exists rfl;simp[UU,aw,Sh];by_cases z:n=0
  rotate_left
  .left;exact⟨z,by simp[z];exactλo=>z (hn.2 (QD o))⟩
  right;exists z;unfold abm;refine aJ p.aX.length (λi (_:Unit)=>[iI i]) (λi _=>∀r∈p.aX.take i,xU p.bU r) () ?_ az λi _ hi hI=>?_
  .simp[UU]
  by_cases aq:i<p.aX.length
  .have hw:=aS aq ak;have hm:=Z4 aq;obtain⟨m,hF,hb⟩:=v84 p.bU p.aX[i] (by unfold Sm;omega) (h.rs _ hm) (h.rn _ hm);rw[bQ]at hb;simp[UU,aq,hw,nQ aq,aw];exists _,hb;simp[Sh];by_cases z:m=0
   .right;exact⟨z,.mk () rfl ak (bN aq hI (hF.1 z))⟩
   .left;exact⟨z,by simp[z];exactλo=>z (hF.2 (QE o _ hm))⟩
  .simp[UU,aq];exact hO (hn.1 z) (cb aq hI)
open Go Go.RowKit Go.Shelf Go.Sort
attribute [local go_sem] Oper.semAt_some
open Go.Ev
end Go.Proofs.YtabefplkfkfdfaaGreat
namespace Go.Proofs.YtabefplkfkfdfaaGreat
open Go Go.Ev
open Go Go.Ev
def as0(a b:aj Int)(hl:Sm a):CC 93 ab [iL a,iL b] (iB (a==b)):=by
 refine CC.dB ayJ kr (λ_=>kr) az cE ?_;generalize hS:(a==b)=S;simp[ag6,UU];by_cases di:a.length=b.length
 .right;simp[di];unfold aHp;refine aJ a.length (λi (_:Unit)=>[iI i]) (λi _=>a.take i=b.take i) () ?_ az λi _ hi hI=>?_
  .simp[UU]
  by_cases aq:i<a.length
  .have hlb:i<b.length:=ak;have hw:=aS aq hl;simp[UU,aq,hw,jf aq,jf hlb,aZ];by_cases h:a[i]=b[i]
   .right;exact⟨h,.mk () rfl ak (by rw[ZN aq,ZN hlb,hI,h])⟩
   .left;exists h;subst S;simp;exactλe=>h (by subst e;rfl)
  .rw[Wg ak,Wg ak]at hI;simp[UU,aq,aZ];subst S;simp[hI]
 .left;exists ak;simp[aZ];subst S;simp;exactλe=>di (by rw[e])
structure Ac where
 s:aj UInt8
 n:Int
 ps:aj Int
 deriving DecidableEq
def lK(a:Ac):IV:=.agg [iS a.s,iI a.n,iL a.ps]
abbrev dC(l:aj Ac):IV:=.tree 3 (l.map lK)
def qe(a:Ac):Pure (lK a):=.agg _ az
@[simp] theorem ade(l:aj Ac):Pure (dC l):=lS 3 lK (λa=>⟨_,rfl,az⟩) l
variable{i:Nat}{l:aj Ac}
def Ak(h:i<l.length):cu 3 (dC l) (iI (i:Nat))=aa (.agg [iS l[i].s,iI l[i].n,iL l[i].ps]):=cM (by simp[h,lK]) rfl
def B8(a:Ac):aj Ac->Nat->Int
 |[],_=> -1
 |x::l,i=>if x=a then i else B8 a l (i+1)
def nR(l:aj Ac)(a:Ac):Int:=B8 a l 0
variable{a:At}
def abq{a:Ac}(h:i<l.length):B8 a (l.drop i) i=if l[i]=a then(i:Int)else B8 a (l.drop (i+1)) (i+1):=by
 rw[UQ h,B8]
structure LC(l:aj Ac):Prop where
 len:l.length<=1000
 p:∀a∈l,a.ps.length<=8
variable{f:FuncId}{n:Nat}
def CC.B9{aH:Bool}{dO:au}{av:aj IV}{cfg:fz}{s:Int}(he:jc Z2 cfg n aH f=dO)(hl:(Z2.funcs[f]?).map (·.params.size)=aa av.length)(ht:∀z,pU Z2 f z=ab)(hp:∀x∈av,Pure x)(hn:noTwo dO=ab)
 (hs:StQ dO (UK (·=s)) [] av):CC f aH av (iI s):=by
 obtain⟨_,rfl,h⟩:=CC.Si (·=s) he hl ht hp hn hs;exact h
variable{P:Program}{xs:aj IV}{z:IV}{k:Nat}
def aoJ(h:fe P af ab f xs z):fe P af af f xs z:=by
 intro M w us hM hr;refine(h M w us hM hr).mono λe w' hR=>?_;cases e with
 |panicked ch=>exact bH hR.1 az
 |outgrown=>exact hR.elim
 |returned u=>
  obtain⟨_,M',h1,h2,_,h4,h5,h6,h7,h8,h9⟩:=hR
  have Wq:∀b c,M' b=aa c->w.heap.size<=b:=λb c hb=>by
   rcases h2 b c hb with⟨h,_⟩|h
   .cases h
   .exact h
  refine⟨rfl,λb=>if b<w.heap.size then M b else M' b,λb c hb=>?_,λb c hb=>?_,λ_ b c hb=>?_,Rv.mono (Z:=ll M') (br:=ll λb=>if b<w.heap.size then M b else M' b) ⟨λ_ _ _ h=>h,λb c hb=>?_⟩ h4,h5,h6,h7,h8,h9⟩
  .simp only at hb;split at hb
   .rename_i aq;obtain⟨e,f,hh⟩:=hM b c hb;exact⟨e,f,by rw[h9 b aq];exact hh⟩
   .exact h1 b c hb
  .simp only at hb;split at hb
   .exact .inl ⟨rfl,hb⟩
   .exact .inr ak
  .simp only;rw[aW (hM.lt hb)];exact hb
  .have ua:M' b=aa c:=hb;show(if _ then _ else _)=_;rw[aY (by have:=Wq b c ua;omega)];exact ua
def CC.aez(hf:f<Z2.funcs.size)(h:CC f ab xs z):CC f af xs z:=
 CC.plain hf (aoJ (h.1 hf).1) (h.1 hf).2.1 (h.1 hf).2.2
def k93(a b:aj Int)(hl:Sm a):CC 93 af [iL a,iL b] (iB (a==b)):=(as0 a b hl).aez (tQ rfl)
def aCU(a b:Ac)(ha:Sm a.ps):CC 169 af [lK a,lK b] (iB (decide (a=b))):=by
 refine CC.dB axS kr (λ_=>kr) (by intro x hx;rcases ZP.1 hx with rfl|hx;exact qe a;obtain rfl:=Z3.1 hx;exact qe b) cE ?_;obtain⟨s,n,p⟩:=a;obtain⟨s',n',p'⟩:=b;have h1:=k65 p p' ha;simp[alZ,lK,UU,aw];by_cases e1:s=s'
 rotate_left
 .simp[e1]
 by_cases e2:n=n'
 rotate_left
 .simp[e1,e2]
 simp[e1,e2];exists _,h1;simp[aw]
def as4(l:aj Ac)(a:Ac)(hl:LC l):CC 107 af [dC l,lK a] (iI (nR l a)):=by
 refine CC.B9 axR kr (λ_=>kr) (by intro x hx;rcases ZP.1 hx with rfl|hx;exact ade l;obtain rfl:=Z3.1 hx;exact qe a) cE ?_;have ha:=lK.eq_1 a;have QC:=hl.len;simp[alY,ha,UU,aw];unfold aaW;refine aJ l.length (λi (_:Unit)=>[iI i]) (λi _=>nR l a=B8 a (l.drop i) i) () ?_ (by simp[nR]) λi _ hi hI=>?_
 .simp[UU]
 by_cases aq:i<l.length
 .have hw:=aS aq ak;have aj8:=aCU l[i] a (by have:=hl.p _ (Z4 aq);unfold Sm;omega);rw[ha]at aj8;simp only[lK]at aj8;rw[abq aq]at hI;simp[UU,aq,hw,Ak aq,aw];exists _,aj8;by_cases h1:l[i]=a
  .rw[aW h1]at hI;simp[h1,hI]
  .rw[aY h1]at hI;simp[h1];exact .mk () rfl ak hI
 .rw[ZX ak]at hI;simp[UU,aq,hI,B8]
def as5(l:aj Ac)(a:At)(ps:aj Int)(hl:LC l):CC 116 af [dC l,c_ a,iL ps] (iI (nR l ⟨a.s,a.ts.length,ps⟩)):=by
 refine CC.B9 ax2 kr (λ_=>kr) (by intro x hx;rcases ZP.1 hx with rfl|hx;exact ade l;rcases ZP.1 hx with rfl|hx;exact xR a;obtain rfl:=Z3.1 hx;simp) cE ?_;have ha:=c_.eq_1 a;have QC:=hl.len;simp[al3,ha,UU,aw];unfold aa5;refine aJ l.length (λi (_:Unit)=>[iI i]) (λi _=>nR l ⟨a.s,a.ts.length,ps⟩=B8 ⟨a.s,a.ts.length,ps⟩ (l.drop i) i) () ?_ (by simp[nR]) λi _ hi hI=>?_
 .simp[UU]
 by_cases aq:i<l.length
 .have hw:=aS aq ak;have QG:=k93 l[i].ps ps (by have:=hl.p _ (Z4 aq);unfold Sm;omega);rw[abq aq]at hI;simp[UU,aq,hw,Ak aq,aw];by_cases e1:l[i].s=a.s
  rotate_left
  .rw[aY λh=>e1 (by rw[h])]at hI;simp[e1];exact .mk () rfl ak hI
  by_cases e2:l[i].n=a.ts.length
  rotate_left
  .rw[aY λh=>e2 (by rw[h])]at hI;simp[e1,e2];exact .mk () rfl ak hI
  simp[e1,e2];exists _,QG;by_cases e3:l[i].ps=ps
  .rw[aW (by cases hli:l[i];simp_all)]at hI;simp[e3,aw,hI]
  .rw[aY λh=>e3 (by rw[h])]at hI;simp[e3,aw];exact .mk () rfl ak hI
 .rw[ZX ak]at hI;simp[UU,aq,hI,B8]
structure Part(p:Pg)(x:Pn)(k i n:Nat)(r:Rl)(a:At)(ps:aj Int):Prop where
 oc:x.o.r=i
 ru:p.aX[i]?=aa r
 od:x.bj[k]?=aa (n:Int)
 hd:(r.aA++r.aC)[n]?=aa a
 kn:x.jJ[k]?=aa ps
def Jv(p:Pg)(x:Pn)(k:Nat):∀y∈[bc p,bT x,iI k],Pure y:=by
 intro y hy;rcases ZP.1 hy with rfl|hy
 .exact cz p
 rcases ZP.1 hy with rfl|hy
 .exact qc x
 obtain rfl:=Z3.1 hy;simp
variable{p:Pg}{ps:aj Int}{r:Rl}{x:Pn}{ts:aj Tm}
def aj9(hp:f_ p)(h:Part p x k i n r a ps):CC 106 af [bc p,bT x,iI k] (.aU [c_ a,iL ps,iB ab]):=by
 refine CC.of axQ kr kr (Jv p x k) (.aU _ (by simp[xR])) ?_;obtain⟨hi,gQ⟩:=Z5.1 h.ru;obtain⟨hk,bM⟩:=Z5.1 h.od;obtain⟨hn,F9⟩:=Z5.1 h.hd;obtain⟨ub,Bv⟩:=Z5.1 h.kn;have j8:=(hp.rs r (gQ▸Z4 hi)).h;have J6:=Nv r ak;rw[bQ]at J6;have hN:bT x=.agg [iI i,iI x.o.h,iB x.o.k,iL x.bj,eQ x.jJ,eQ x.jg]:=by rw[bT,h.oc]
 have hP:=bc.eq_1 p;have hR:=nQ hi;rw[gQ]at hR;have hO:=jf hk;rw[bM]at hO;have hA:=lI hn;rw[F9]at hA;have hK:=tS ub;rw[Bv]at hK;rw[hN,hP];generalize r.aA++r.aC=hs at*
 simp[alX,UU,aw,hk,hi,hR];exists _,J6;simp[hO,bM,hn,ub,hK,hA,show¬x.jJ.length<=k by omega,c_]
def aj_(hp:f_ p)(h:Part p x k i n r a ps):CC 115 af [bc p,bT x,iI k] (.aU [c_ a,iL ps,iB ab]):=by
 refine CC.of ax1 kr kr (Jv p x k) (.aU _ (by simp[xR])) ?_;obtain⟨hi,gQ⟩:=Z5.1 h.ru;obtain⟨hk,bM⟩:=Z5.1 h.od;obtain⟨hn,F9⟩:=Z5.1 h.hd;obtain⟨ub,Bv⟩:=Z5.1 h.kn;have j8:=(hp.rs r (gQ▸Z4 hi)).h;have Cu:=Ny r ak;rw[bQ]at Cu;have hN:bT x=.agg [iI i,iI x.o.h,iB x.o.k,iL x.bj,eQ x.jJ,eQ x.jg]:=by rw[bT,h.oc]
 have hP:=bc.eq_1 p;have hR:=nQ hi;rw[gQ]at hR;have hO:=jf hk;rw[bM]at hO;have hA:=lI hn;rw[F9]at hA;have hK:=tS ub;rw[Bv]at hK;rw[hN,hP];generalize r.aA++r.aC=hs at*
 simp[al2,UU,aw,hk,hi,hR];exists _,Cu;simp[hO,bM,hn,ub,hK,hA,show¬x.jJ.length<=k by omega,c_]
def OE(p:Pg)(ax:aj Ac)(x:Pn)(k:Nat):∀y∈[bc p,dC ax,bT x,iI k],Pure y:=by
 intro y hy;rcases ZP.1 hy with rfl|hy
 .exact cz p
 rcases ZP.1 hy with rfl|hy
 .simp
 rcases ZP.1 hy with rfl|hy
 .exact qc x
 obtain rfl:=Z3.1 hy;simp
def k42(hp:f_ p)(h:Part p x k i n r a ps)(ax:aj Ac)(hc:LC ax):CC 42 af [bc p,dC ax,bT x,iI k] (iI (nR ax ⟨a.s,a.ts.length,ps⟩)):=by
 refine CC.B9 aB0 kr (λ_=>kr) (OE p ax x k) cE ?_;have Km:=aj9 hp h;have Kn:=as4 ax ⟨a.s,a.ts.length,ps⟩ hc;have hN:=bT.eq_1 x;have hP:=bc.eq_1 p;rw[hN,hP]at*
 simp[arC,UU,aw];exists _,Km;simp[c_,aw];exists _,Kn;simp
def k97(hp:f_ p)(h:Part p x k i n r a ps)(ax:aj Ac)(hc:LC ax):CC 97 af [bc p,dC ax,bT x,iI k] (iI (nR ax ⟨a.s,a.ts.length,ps⟩)):=by
 refine CC.B9 aB4 kr (λ_=>kr) (OE p ax x k) cE ?_;have LD:=aj_ hp h;have PS:=as5 ax a ps hc;have hN:=bT.eq_1 x;have hP:=bc.eq_1 p;rw[hN,hP]at*
 simp[arH,UU,aw];exists _,LD;simp[c_,aw];exists _,PS;simp
def Al(ts:aj Tm)(v:Int):aj Tm:=if 0<=v then(match ts[v.toNat]? with
 |some t=>[t]
 |none=>[])else[]
def mA(ts:aj Tm)(ps:aj Int):aj Tm:=ps.flatMap (Al ts)
def aka(ts:aj Tm)(v:Int):(Al ts v).length<=1:=by
 unfold Al;split
 .split<;>simp
 .simp
def OF(ts:aj Tm):∀ps:aj Int,(mA ts ps).length<=ps.length
 |[]=>by simp[mA]
 |v::ps=>by
  have h1:=OF ts ps;have h2:=aka ts v;unfold mA at h1⊢;rw[List.flatMap_cons,UR,Zx];omega
def adn(h:i<ps.length):mA ts (ps.take (i+1))=mA ts (ps.take i)++Al ts ps[i]:=by
 rw[ZN h];unfold mA;rw[aIY];simp
def k98(hp:f_ p)(h:Part p x k i n r a ps)(hl:ps.length<=400):CC 98 af [bc p,bT x,iI k] (iT (mA a.ts ps)):=by
 refine CC.of aB5 kr kr (Jv p x k) az ?_;have LD:=aj_ hp h;have hN:=bT.eq_1 x;have hP:=bc.eq_1 p;rw[hN,hP]at*
 simp[arI,UU,aw];exists _,LD;simp[c_,aw];unfold agr;refine aJ ps.length (λi (ax:aj Tm)=>[iI i,iT ax]) (λi ax=>ax=mA a.ts (ps.take i)) [] ?_ (by simp[mA]) λi ax hi hI=>?_
 .simp[UU]
 by_cases aq:i<ps.length
 .have hw:=aS aq ak;have eG:=OF a.ts (ps.take i);rw[<-hI]at eG;simp only[PY]at eG;have bI:=adn (ts:=a.ts) aq;rw[<-hI]at bI;simp[UU,aq,hw,jf aq,aw];by_cases h0:0<=ps[i]
  rotate_left
  .right;refine⟨ak,.mk _ rfl ak (by rw[bI];simp[Al,h0])⟩
  left;exists h0;by_cases h1:ps[i]<a.ts.length
  rotate_left
  .right;refine⟨ak,.mk _ rfl ak (by
    rw[bI];simp only[Al,aW h0];rw[Yb ak];simp)⟩
  left;exists h1;have mB:ps[i]=((ps[i].toNat:Nat):Int):=ak;have cR:ps[i].toNat<a.ts.length:=ak;have hT:=iJ cR;rw[<-mB,bL]at hT;simp[hT,aw,aD]
  have hc:dG 4 56 (iT ax) (.tree 4 [.agg [iI a.ts[ps[i].toNat].k,iI a.ts[ps[i].toNat].n,iS a.ts[ps[i].toNat].s,iT a.ts[ps[i].toNat].ts]])=aa (iT (ax++[a.ts[ps[i].toNat]])):=by
   have:=FZ (a:=ax) (b:=[a.ts[ps[i].toNat]]) eE;rw[<-this];show _=dG 4 56 _ (.tree 4 [eo _]);rw[bL]
  refine⟨_,hc,.mk _ rfl ak ?_⟩;rw[bI];simp[Al,h0,UN cR]
 .simp[UU,aq];rw[hI,Wg ak]
def aCV(hp:f_ p)(h:Part p x k i n r a ps)(hl:ps.length<=400):CC 108 af [bc p,bT x,iI k] (iT (mA a.ts ps)):=by
 refine CC.of axP kr kr (Jv p x k) az ?_;have LD:=aj9 hp h;have hN:=bT.eq_1 x;have hP:=bc.eq_1 p;rw[hN,hP]at*
 simp[alW,UU,aw];exists _,LD;simp[c_,aw];unfold aaV;refine aJ ps.length (λi (ax:aj Tm)=>[iI i,iT ax]) (λi ax=>ax=mA a.ts (ps.take i)) [] ?_ (by simp[mA]) λi ax hi hI=>?_
 .simp[UU]
 by_cases aq:i<ps.length
 .have hw:=aS aq ak;have eG:=OF a.ts (ps.take i);rw[<-hI]at eG;simp only[PY]at eG;have bI:=adn (ts:=a.ts) aq;rw[<-hI]at bI;simp[UU,aq,hw,jf aq,aw];by_cases h0:0<=ps[i]
  rotate_left
  .right;refine⟨ak,.mk _ rfl ak (by rw[bI];simp[Al,h0])⟩
  left;exists h0;by_cases h1:ps[i]<a.ts.length
  rotate_left
  .right;refine⟨ak,.mk _ rfl ak (by
    rw[bI];simp only[Al,aW h0];rw[Yb ak];simp)⟩
  left;exists h1;have mB:ps[i]=((ps[i].toNat:Nat):Int):=ak;have cR:ps[i].toNat<a.ts.length:=ak;have hT:=iJ cR;rw[<-mB,bL]at hT;simp[hT,aw,aD]
  have hc:dG 4 56 (iT ax) (.tree 4 [.agg [iI a.ts[ps[i].toNat].k,iI a.ts[ps[i].toNat].n,iS a.ts[ps[i].toNat].s,iT a.ts[ps[i].toNat].ts]])=aa (iT (ax++[a.ts[ps[i].toNat]])):=by
   have:=FZ (a:=ax) (b:=[a.ts[ps[i].toNat]]) eE;rw[<-this];show _=dG 4 56 _ (.tree 4 [eo _]);rw[bL]
  refine⟨_,hc,.mk _ rfl ak ?_⟩;rw[bI];simp[Al,h0,UN cR]
 .simp[UU,aq];rw[hI,Wg ak]
variable{v:Value}
def aoK(h:fe P af af f xs (.raw v)):fe P af ab f xs (.raw v):=by
 intro M w us hM hr;refine(h M w us hM hr).mono λe w' hR=>?_;cases e with
 |panicked ch=>exact bH hR.1 az
 |outgrown=>exact hR.elim
 |returned u=>
  obtain⟨_,M',h1,h2,_,h4,h5,h6,h7,h8,h9⟩:=hR;refine⟨rfl,λ_=>ah,λb c hb=>(by cases hb),λb c hb=>(by cases hb),λhc=>(by cases hc),?_,h5,h6,h7,h8,h9⟩;cases h4;exact .raw _
def CC.zm(hf:f<Z2.funcs.size)(h:CC f af xs (.raw v)):CC f ab xs (.raw v):=
 CC.plain hf (aoK (h.1 hf).1) (h.1 hf).2.1 (h.1 hf).2.2
abbrev Jw:IV:=.raw (.slice ah 0 0)
def d11{q:IV}:kS 11 Jw q=aa (iB ab):=by
 unfold kS;rfl
def ayS(t:Tm)(lD:Sm t.ts)(hk:gN t=[])(ih:∀u∈t.ts,gN u=[]->CC 185 af [Jw,eo u] Jw):CC 185 af [Jw,eo t] Jw:=by
 have aq:185<Z2.funcs.size:=tQ rfl;refine CC.plain aq (fe.av9 (xs:=[eo t]) mixed uK arJ kr (by intro x hx;obtain rfl:=Z3.1 hx;exact mZ t) ?_) az kr;have GM:=Wi t;have eG:(cN t).length<=9223372036854775807:=by unfold cN;split<;>simp[lD]
 have k1:t.k≠1:=λh=>by obtain⟨k,n,s,ts⟩:=t;simp only[Tm.k]at h;simp[gN,h]at hk
 rw[Ls k1]at hk
 have iha:∀u∈cN t,CC 185 af [Jw,eo u] Jw:=λu hu=>ih u (rR hu) (by
  unfold fm at hk;exact Uh.1 hk _ (Z6.2 ⟨u,hu,rfl⟩))
 rw[bL]at GM⊢;simp[ags,UU,aw];right;refine⟨k1,_,GM,?_⟩;simp;unfold aIO;refine aJ (cN t).length (λi (_:Unit)=>[iI i]) (λ_ _=>True) () ?_ trivial λi _ hi _=>?_
 .simp[UU]
 by_cases aq:i<(cN t).length
 .have hw:=aS aq eG;have hb:=iha (cN t)[i] (Z4 aq);rw[bL]at hb;simp[UU,aq,hw,iJ aq,bL,aw];refine⟨_,hb,?_⟩;simp[d11];exact .mk () rfl ak trivial
 .simp[UU,aq]
def as6:∀t:Tm,sS t->gN t=[]->CC 185 af [Jw,eo t] Jw
 |.mk k n s ts,h,hk=>ayS _ ((vu _).1 h).1 hk λu hu=>as6 u (((vu _).1 h).2 u hu)
 decreasing_by simp[Tm.ts]at hu;have:=List.sizeOf_lt_of_mem hu;simp;omega
def akb(h:bg ts=[]):∀t∈ts,gN t=[]:=by
 have:fm ts=[]:=List.eq_nil_iff_forall_not_mem.2 λv hv=>by
  have:=lJ.2 hv;rw[h]at this;cases this
 intro t ht;unfold fm at this;exact Uh.1 this _ (Z6.2 ⟨t,ht,rfl⟩)
def ayT(ts:aj Tm)(lD:Sm ts)(hw:∀t∈ts,sS t/\eH t)(h0:bg ts=[]):StQ Yc (·=IV.tree 1 []) [] [iT ts]:=by
 have ho:=akb h0;simp[Yc,UU,aw];unfold aH1;refine aJ ts.length (λi (_:Unit)=>[iI i]) (λ_ _=>True) () ?_ trivial λi _ hi _=>?_
 .simp[UU]
 by_cases aq:i<ts.length
 .have nC:=aS aq lD;have hb:=as6 ts[i] (hw _ (Z4 aq)).1 (ho _ (Z4 aq));rw[bL]at hb;simp[UU,aq,nC,iJ aq,bL,aw];exists _,hb;simp[d11];exact .mk () rfl ak trivial
 .simp[UU,aq]
def ayU(ts:aj Tm)(lD:Sm ts)(hw:∀t∈ts,sS t/\eH t):StQ Ye (·=iL (bg ts)) [] [iT ts]:=by
 simp[Ye,UU,aw];unfold aHf;refine aJ ts.length (λi (a:aj Int)=>[iI i,iL a]) (λi a=>Vr a/\a=dY [] (fm (ts.take i))) [] ?_ ⟨Vr.nil,rfl⟩ λi a hi hI=>?_
 .simp[UU]
 by_cases aq:i<ts.length
 .have nC:=aS aq lD;have hf:=hw _ (Z4 aq);have hb:=Uw ts[i] hf.1 hf.2 a hI.1;rw[bL]at hb;simp[UU,aq,nC,iJ aq,bL,aw,aZ,aD];obtain⟨h1,rfl⟩:=hI;refine⟨_,hb,.mk _ rfl ak ⟨h1.dY (Bz _ hf.2),by rw[Lr aq,oN]⟩⟩
 .obtain⟨h1,h2⟩:=hI;rw[Wg ak]at h2;simp[UU,aq,aD,aZ];subst a;rfl
def amA:dK Z2 140=1:=kr
def ayV(ts:aj Tm)(lD:Sm ts)(hw:∀t∈ts,sS t/\eH t):tE Z2 (dK Z2 140) 140 [iT ts] ((bg ts).map iI):=by
 have h1:=amA;by_cases hp:bg ts=[]
 .exact .nu (nm:=ab) mixed uK arK kr az (by rw[h1];exact uP _) (F6 _) az (by rw[h1,hp];exact ayT ts lD hw hp)
 .exact .nu (nm:=af) mixed uK arL kr az (by rw[h1];exact uP _) (F6 _) (λ_=>by simpa using hp) (by rw[h1];exact ayU ts lD hw)
def aeD(aH:Bool)(ts:aj Tm)(lD:Sm ts)(hw:∀t∈ts,sS t/\eH t):CC 1364 aH [iT ts] (iL (bg ts)):=by
 have h:=sR.fresh (aH:=aH) (tQ rfl) (ayV ts lD hw);rw[gk,amA]at h;unfold CC;rw[gk];exact h
def gl:aj Int->aj Gl->Bool
 |_,[]=>ab
 |vs,g::l=>fF g&&(if g.op=1 then gl vs l else decide (g.op=4)&&(match g.ts with
  |t::_=>decide (t.k=1)&&decide (t.n∉vs)&&gl (vs++[t.n]) l
  |[]=>af))
def aIE{l:aj Gl}(h:i<l.length)(vs:aj Int):gl vs (l.drop i)=(fF l[i]&&(if l[i].op=1 then gl vs (l.drop (i+1))else decide (l[i].op=4)&&(match l[i].ts with
 |t::_=>decide (t.k=1)&&decide (t.n∉vs)&&gl (vs++[t.n]) (l.drop (i+1))
 |[]=>af))):=by
 rw[UQ h,gl]
def j9(r:Rl):aj Int:=bg (gz (r.aA++r.aC))
variable{g:Gl}{Q:IV->Prop}{k0 k1:aj IV->Prop}{v k:Int}{O:aj IV}{key m:SE}{ks vs doneZQ:aj Int}{x0 x1 x4 x2 x5 x3:IV}{hs:aj At}{gs:aj Gl}
def nT(h:fF g=ab)(h4:g.op=4):∃t ts,g.ts=t::ts:=by
 have h1:=(Aj h).1 ak;rw[h4]at h1;cases hg:g.ts with
 |nil=>rw[hg]at h1;simp[mh]at h1
 |cons t ts=>exact⟨t,ts,rfl⟩
def ayW(r:Rl)(h:iF r)(hf:gy r)(hk:k0 [iL (j9 r)]):StQ X_ Q [k0] [cy r,db (r.aA++r.aC)]:=by
 have hl:=h.h;have h1:=h.hs;have h2:=hf.hs;rw[<-UR]at hl;unfold j9 at hk;generalize r.aA++r.aC=hs at hk hl h1 h2⊢;unfold X_;refine aJ hs.length (λi (a:aj Tm)=>[iI i,iT a]) (λi a=>a=gz (hs.take i)/\a.length<=8*i/\∀t∈a,WF t) [] ?_ (by simp[gz]) λi a hi hI=>?_
 .simp[UU]
 obtain⟨rS,iE,gx⟩:=hI;by_cases aq:i<hs.length
 .have hw:=aS aq ak;have hm:=Z4 aq;have hk:=h1 _ hm;have hc:=FZ (a:=a) (b:=hs[i].ts) ak;simp[UU,aq,hw,lI aq,aw,hc]
  exact .mk (a++hs[i].ts) az ak ⟨by rw[Dm aq,rS],eE,λt ht=>by
   rcases ZV.1 ht with ht|ht
   .exact gx t ht
   .exact h2 _ hm t ht⟩
 .rw[Wg ak]at rS;have hb:=aeD ab a (by unfold Sm;omega) gx;simp[UU,aq];rw[rS]at hb⊢;exact⟨_,hb,hk⟩
def lL{a:aj Int}(h:a.length<=100000000):dG 1 8 (iL a) (.tree 1 [iI v])=aa (iL (a++[v])):=by
 have:=By (a:=a) (b:=[v]) eE;exact this
def k45(r:Rl)(h:iF r)(hn:pB r)(hf:gy r)(hz:zH r):CC 45 af [cy r] (iB (gl (j9 r) r.bC)):=by
 refine CC.dB aB1 kr (λ_=>kr) (by intro x hx;obtain rfl:=Z3.1 hx;exact fO r) cE ?_;have J6:=Nv r (by have:=h.h;omega)
 have Cb:(j9 r).length<=1048577:=(jQ λt ht=>by
  obtain⟨a,ha,ht⟩:=F7.1 ht;exact(hf.hs a ha t ht).2).len
 have w0:=λ(Q:IV->Prop) (k0:aj IV->Prop) hk=>ayW (Q:=Q) (k0:=k0) r h hf hk;generalize hS:gl (j9 r) r.bC=S;have hb:=h.b;have Ui:=h.gs;have pz:∀g∈r.bC,tR g/\Qv g.ts:=λg hg=>⟨hn.gs g (by simp[hg]),(hn.gs g (by simp[hg])).b (hz.gs g (by simp[hg]))⟩;rw[bQ]at*
 generalize j9 r=vs at*
 generalize r.bC=bd at*
 simp[arD,UU,aw];unfold agp;refine jI (λq=>q=[iL vs]) ?_ ?_
 .simp[UU,aw];exists _,J6;simp;exact w0 _ _ rfl
 rintro q rfl;exists rfl;unfold ago;refine aJ bd.length (λi (a:aj Int)=>[iI i,iL a]) (λi a=>S=gl a (bd.drop i)/\a.length<=1048577+i) vs ?_ ⟨by simp[hS],ak⟩ λi a hi hI=>?_
 .simp[UU]
 obtain⟨hI,hIl⟩:=hI;by_cases aq:i<bd.length
 rotate_left
 .rw[ZX ak,gl]at hI;simp[UU,aq,hI]
 have hw:=aS aq ak;obtain⟨n1,n2⟩:=pz _ (Z4 aq);have aCW:=v152 bd[i] n1.1 n2;rw[aIE aq]at hI;simp[UU,aq,hw,sj aq,aw];exists _,aCW;cases hr:fF bd[i]with
 |false=>rw[hr]at hI;simp[hI]
 |true=>
  rw[hr]at hI;simp only[T8]at hI;simp;by_cases h1:bd[i].op=1
  .rw[aW h1]at hI;right;simp[h1];exact .mk a rfl ak ⟨hI,ak⟩
  rw[aY h1]at hI;left;exists h1;by_cases h4:bd[i].op=4
  rotate_left
  .left;exists h4;simp[h4]at hI;simp[hI]
  right;exists h4;obtain⟨t,ts,ht⟩:=nT hr h4
  have hT:cu 4 (iT bd[i].ts) (iI 0)=aa (.agg [iI t.k,iI t.n,iS t.s,iT t.ts]):=by
   have:=iJ (l:=bd[i].ts) (i:=0) (by rw[ht];simp);simp only[ht,aJJ,bL]at this⊢;exact this
  have akc:=(asC a t.n (by unfold Sm;omega)).zm (tQ rfl);simp only[ht,h4,decide_true,T8]at hI;simp[h4,hT,aw];by_cases hk:t.k=1
  rotate_left
  .left;exists hk;simp[hk]at hI;simp[hI]
  right;exists hk,_,akc;by_cases hm:t.n∈a
  .simp[hm,hk]at hI;simp[hm,hI]
  .simp[hm,hk]at hI;simp[hm,aZ,aD,lL (show a.length<=100000000 by omega)];exact .mk (a++[t.n]) rfl ak ⟨hI,eE⟩
def G8(k:Int):IV:=.aU [iI k,.agg []]
abbrev iM(ks:aj Int):IV:=.aU (ks.map G8)
def GS(ks:aj Int)(k:Int):aj Int:=if k∈ks then ks else ks++[k]
def aJb:∀ks:aj Int,oX (ks.map G8)=aa (ks.map (P3 .i64))
 |[]=>rfl
 |k::ks=>by simp[oX,G8,Ev.keyOf,aJb ks]
def Jy(k:Int):∀(ks:aj Int) (n:Nat),(k∈ks->∃i,nowAt (.int .i64) (.int .i64 k) (ks.map (P3 .i64)) n=aa (aa (n+i))/\ks[i]?=aa k)/\(k∉ks->nowAt (.int .i64) (.int .i64 k) (ks.map (P3 .i64)) n=aa ah)
 |[],n=>by simp[nowAt]
 |a::ks,n=>by
  obtain⟨h1,h2⟩:=Jy k ks (n+1);by_cases h:k=a
  .subst h;refine⟨λ_=>⟨0,by simp[nowAt,Uz],rfl⟩,λhn=>bH az hn⟩
  .refine⟨λhm=>?_,λhn=>?_⟩
   .obtain⟨i,g1,g2⟩:=h1 (by simpa[h]using hm);have hb:(k==a)=af:=by simpa using h
    exact⟨i+1,by simp[nowAt,Uz,hb,g1];omega,by simpa using g2⟩
   .have hb:(k==a)=af:=by simpa using h
    simp[nowAt,Uz,hb,h2 λhm=>hn (by simp[hm])]
def Am(ks:aj Int)(k:Int):(k∈ks->∃i,gY Z2 3 (ks.map G8) (iI k)=aa (aa i)/\ks[i]?=aa k)/\(k∉ks->gY Z2 3 (ks.map G8) (iI k)=aa ah):=by
 have h:gY Z2 3 (ks.map G8) (iI k)=nowAt (.int .i64) (.int .i64 k) (ks.map (P3 .i64)) 0:=by
  unfold gY;rw[aJb];simp[zZ,SZ,Ev.keyOf]
 rw[h];have:=Jy k ks 0;simpa using this
def OG{B:Type}{l:aj B}{a:B}(h:l[i]?=aa a):l.set i a=l:=by
 apply List.ext_getElem?;intro q;simp only[List.getElem?_set]
 grind
def Sq(h1:m.den Z2 O=aa (iM ks))(h2:key.den Z2 O=aa (iI k)):(SE.ins 3 m key .an).den Z2 O=aa (iM (GS ks k)):=by
 simp only[UU,h1,h2,Z8];by_cases hm:k∈ks
 .obtain⟨i,g1,g2⟩:=(Am ks k).1 hm;rw[g1];simp only[GS,aW hm];rw[OG];rw[Z7,g2];rfl
 .rw[(Am ks k).2 hm];simp[GS,aY hm,G8]
def Sr(h1:m.den Z2 O=aa (iM ks))(h2:key.den Z2 O=aa (iI k)):(SE.has 3 m key).den Z2 O=aa (iB (decide (k∈ks))):=by
 simp only[UU,h1,h2,Z8];by_cases hm:k∈ks
 .obtain⟨i,g1,g2⟩:=(Am ks k).1 hm;rw[g1];simp[hm]
 .rw[(Am ks k).2 hm];simp[hm]
def Ss(h1:m.den Z2 O=aa (iM ks))(h2:key.den Z2 O=aa (iI k)):(SE.qG 0 (.get 3 m key .an)).den Z2 O=aa (.agg []):=by
 simp only[UU,h1,h2,Z8];by_cases hm:k∈ks
 .obtain⟨i,g1,g2⟩:=(Am ks k).1 hm;rw[g1];simp[g2,G8]
 .rw[(Am ks k).2 hm];simp
def aoL(l:aj Int)(x:Int):GS l x=vV l x:=rfl
def BD{x:Int}{l:aj Int}:v∈GS l x↔v∈l\/v=x:=by
 have:=uR (v:=v) [x] l;simpa[dY,aoL]using this
def as7(i:Nat)(hi:i<1000)(ks l:aj Int)(hl:Sm l)(hk:∀q,(∀v,v∈q↔v∈ks\/v∈l)->k0 [iI (i+1:Nat),iM q]):R8.sat Z2 CC Q [k0] [x0,x1,iI i,iM ks,x4,iL l]:=by
 have mU:=aS hi ak;unfold R8;refine aJ l.length (λj (q:aj Int)=>[iI j,iM q]) (λj q=>∀v,v∈q↔v∈ks\/v∈l.take j) ks ?_ az λj q hj hI=>?_
 .simp[UU]
 by_cases aq:j<l.length
 .have hw:=aS aq hl;have ku:=Sq (O:=[iM q,iI l[j]]) (m:=.var 0) (key:=.var 1) (ks:=q) (k:=l[j]) rfl rfl;have td:=Ss (O:=[iM q,iI l[j]]) (m:=.var 0) (key:=.var 1) (ks:=q) (k:=l[j]) rfl rfl;have EC:=Sr (O:=[iM q,iI l[j]]) (m:=.var 0) (key:=.var 1) (ks:=q) (k:=l[j]) rfl rfl;simp[UU]at ku td EC;simp only[iI]at ku td EC;obtain⟨hq,rP,Cp⟩:=EC;simp[UU,aq,hw,jf aq,aw];refine⟨⟨_,td⟩,iB (decide (l[j]∈q)),⟨hq,rP,by rw[Cp]⟩,?_⟩;by_cases z:l[j]∈q
  .simp[z];refine .mk _ rfl ak λv=>?_;rw[hI,ZN aq,ZV,Z3];have:=(hI l[j]).1 z;constructor
   .rintro(h|h)
    .exact .inl h
    .exact .inr (.inl h)
   .rintro(h|h|rfl)
    .exact .inl h
    .exact .inr h
    .exact this
  .simp[z];refine⟨_,ku,.mk _ rfl ak λv=>?_⟩;rw[BD,hI,ZN aq,ZV,Z3,or_assoc]
 .simp[UU,aq,mU];rw[Wg ak]at hI;exact hk q hI
def as8(r:Rl)(h:iF r)(hn:pB r)(vs ks:aj Int)(dZ:∀v,v∈ks↔v∈vs):
 R9.sat Z2 CC (Ah (·=gl vs r.bC)) [k0] [cy r,x1,x2,iM ks]:=by
 have hb:=h.b;have pz:∀g∈r.bC,tR g:=λg hg=>hn.gs g (by simp[hg]);generalize hS:gl vs r.bC=S;rw[bQ];generalize r.bC=bd at*
 unfold R9;refine aJ bd.length (λi (q:aj Int)=>[iI i,iM q]) (λi q=>∃a:aj Int,S=gl a (bd.drop i)/\∀v,v∈q↔v∈a) ks ?_ ⟨vs,by simp[hS],dZ⟩ λi q hi hI=>?_
 .simp[UU]
 obtain⟨a,hI,hq⟩:=hI;by_cases aq:i<bd.length
 rotate_left
 .rw[ZX ak,gl]at hI;simp[UU,aq,hI]
 have hw:=aS aq ak;have Y0:=v138 bd[i] (pz _ (Z4 aq));rw[aIE aq]at hI;simp[UU,aq,hw,sj aq,aw];refine⟨_,Y0,?_⟩;cases hr:fF bd[i]with
 |false=>rw[hr]at hI;simp[hI]
 |true=>
  rw[hr]at hI;simp only[T8]at hI;simp;by_cases h1:bd[i].op=1
  .rw[aW h1]at hI;left;exact⟨h1,.mk q rfl ak ⟨a,hI,hq⟩⟩
  rw[aY h1]at hI;right;refine⟨h1,?_⟩;by_cases h4:bd[i].op=4
  rotate_left
  .left;refine⟨h4,?_⟩;simp[h4]at hI;simp[hI]
  right;refine⟨h4,?_⟩;obtain⟨t,ts,ht⟩:=nT hr h4
  have hT:cu 4 (iT bd[i].ts) (iI 0)=aa (.agg [iI t.k,iI t.n,iS t.s,iT t.ts]):=by
   have:=iJ (l:=bd[i].ts) (i:=0) (by rw[ht];simp);simp only[ht,aJJ,bL]at this⊢;exact this
  simp only[ht,h4,decide_true,T8]at hI;simp[hT,aw];by_cases hk:t.k=1
  rotate_left
  .left;refine⟨hk,?_⟩;simp[hk]at hI;simp[hI]
  right;have ku:=Sq (O:=[iM q,iI t.n]) (m:=.var 0) (key:=.var 1) (ks:=q) (k:=t.n) rfl rfl;have td:=Ss (O:=[iM q,iI t.n]) (m:=.var 0) (key:=.var 1) (ks:=q) (k:=t.n) rfl rfl;have EC:=Sr (O:=[iM q,iI t.n]) (m:=.var 0) (key:=.var 1) (ks:=q) (k:=t.n) rfl rfl;simp[UU]at ku td EC;simp only[iI]at ku td EC;obtain⟨ux,rP,Cp⟩:=EC;refine⟨hk,⟨_,td⟩,iB (decide (t.n∈q)),⟨ux,rP,by rw[Cp]⟩,?_⟩;by_cases hm:t.n∈q
  .have Wf:=(hq _).1 hm;simp[Wf,hk]at hI;simp[hm,hI]
  .have Wf:t.n∉a:=λh=>hm ((hq _).2 h);simp[Wf,hk]at hI;simp[hm];refine⟨_,ku,.mk _ rfl ak ⟨_,hI,λv=>?_⟩⟩;rw[BD,hq];simp
def WV(r:Rl)(h:iF r)(hn:pB r)(hf:gy r):CC 101 af [cy r] (iB (gl (j9 r) r.bC)):=by
 refine CC.dB ax3 kr (λ_=>kr) (by intro x hx;obtain rfl:=Z3.1 hx;exact fO r) cE ?_;have Cu:=Ny r (by have:=h.h;omega);have hl:=h.h;have rK:=hn.hs;have hfA:=hf.hs;have w1:=λ(k0:aj IV->Prop) (x1 x2:IV) ks dZ=>as8 (k0:=k0) (x1:=x1) (x2:=x2) r h hn (j9 r) ks dZ;have hV:j9 r=bg (gz (r.aA++r.aC)):=rfl;rw[<-UR]at hl;rw[bQ]at*
 generalize r.aA++r.aC=hs at*
 simp[al4,UU,aw];exists _,Cu;simp;unfold aa6;refine aJ hs.length (λi (q:aj Int)=>[iI i,iM q]) (λi q=>∀v,v∈q↔v∈fm (gz (hs.take i))) [] ?_ (by simp[gz,fm]) λi q hi hI=>?_
 .simp[UU]
 by_cases aq:i<hs.length
 .have hm:=Z4 aq;have Nz:=c46 af hs[i] (rK _ hm) λt ht=>(hfA _ hm t ht).2
  have Cb:Sm (bg hs[i].ts):=by
   have:=(jQ λt ht=>(hfA _ hm t ht).2).len;unfold Sm;omega
  simp[UU,aq,lI aq,aw];exists _,Nz;simp;refine as7 i ak q _ Cb λq' ux=>.mk q' rfl ak λv=>?_;rw[ux,hI,Dm aq,oO,ZV,lJ]
 .rw[Wg ak]at hI;simp[UU,aq];exact w1 _ _ _ q λv=>by rw[hI,hV,lJ]
def ayX:aj Nat:=zh++[203,160,216,175,240,11,31,8,13,14,257,72,26,71,137,70,139,210,225,145,183,75,76,111,65,112,186,140,248,224,211,170,138,249,185,9,28,27,143,77,142,141,74,144,73,146,78,18,39,16,82,44,188,189,29,79,80,149,187,147,10,148,30,38,104,83,84,81,168,103,62,108,42,169,107,106,45,64,63,135,110,46,66,21,12,20,23,105,40,43,41,113,171,215,174,48,98,97,116,115,268,192,154,227,87,33,51,212,94,47,114,32,85,155,233,199,101,50,49,164,230,194,166,204,202,99,86,156,280]
def aCX:aj Nat:=X9++[150,161]
def aCY:aj Nat:=RX
def aCZ:aj Nat:=RY
def ayY(l:aj Hint):fz:=⟨ayX,aCX,aCY,l++[⟨999997,0,0,[],[],[],[]⟩,⟨999999,0,0,[],[],[],[]⟩],aCZ⟩
def ahn:au:=
 (mL 1 fw 10 fw (yR 1 fS bB iC (yU 0 3 10 13 (vj 189 (uG ga 0 1 (Qa 0 2 0 3 0 4 0 5)) p8 (ft 13 13 13) (.nt Jh (.aQ (wE 7 1) (yR 1 fS bB (wE 7 1) (yU 0 3 10 16 (vj 189 (uG ga 0 1 (Qa 0 2 0 3 0 4 0 5)) FM (ft 16 16 16) (ik 17 (fC vn (r_ lF 1 8 11 1 10 (IU 3 10 18)) (IU 3 10 11))))))) (IU 3 10 11))))) (Vi 1 24 9 1 11 (wD 2 7 8 12)))
def aho:au:=
 (ajz (uG gM 0 0 (kI (Dc 1 cK))) (o8 4) .leq 7 (o8 4) ahn (wH 1 9))
def ahp:au:=
 (.qH (AS 188 (Ld (eB 0 0 0 0 0 0) 1) 6 aho) 1 (.ret (J3 1 0 1 1 (ry Jg bW (tc 5 6)))))
def as9:au:=
 (uI (Es bB MN 1) gv 3 gv (pZ bW 3 6 (vj 148 (eB 0 0 0 0 0 0) fS cK (ik 7 (jH 1 24 5 1 eu (vd bW 3 (Fx iD iD (jH 1 8 4 1 iD (wD 0 3 10 8)))))))) ahp)
def PJ:au:=
 (nB 6 3 (Fx bW pn as9))
def aC0:bG Z2 (ayY [aP 0 84 1000043 [] [(7,0),(6,0)],aP 1 84044 3 [6] [(7,0),(6,0)] [11],aP 1 84044 7 [7,8] [(8,0),(4,1)],aP 0 84 4 [9] [(5,3),(5,0),(4,1),(4,0),(3,4)] [15]]) 84=PJ:=kr
def akd:au:=
 (.loop wL (p5 2 cw bW 2 9 9 (rz .lss 3 7 (iX 9) (jP cw bW 10 (jG 4 (je 10) 7 4 11 (wO 186 11 11 11 11 12 (nP 103 (ow vm 6) (.nt AV (r_ iC 1 8 8 1 7 (fx 7 14)) (fx 7 8)))))) (.ret ga))))
def ake:au:=
 (mL 4 dU 4 dU (C9 4 (BX cK .geq cK (C9 4 (Dh eu (vp eu js (pZ bR 4 8 (jP cw h_ 9 (pH 4 56 5 tL (vf 10)))) vh))) vh)) (nP 1364 (o7 5) akd))
def ahq:au:=
 (wV 6 (oA 39 0 0 0 0 0 0 3 ake))
def ata:jc Z2 (dr [aP 0 148 11 [11,12] [(3,0),(2,1),(1,1)],aP 0 148 4 [8,9] [(1,3),(1,0)]]) 400 ab 148=ahq:=kr
def akf:au:=
 (y7 (p_ 4) 9 (kj 8) h_ 9 11 (pf 3 lF l7 .an (fx 9 12)) (zd 10))
def akg:au:=
 (sg ko 10 (kj 9) iD 10 (fE l7 (.qG 0 (.get 3 fS l7 .an)) (AM 3 fS l7 (fC p8 (fx 6 7) (Ad 2 10)))) (r_ g_ 1 8 7 1 6 (fx 6 11)))
def akh:au:=
 (kg wL 6 nA 4 Jf 6 4 8 (jO 204 (ff 8 8 8 8) iD (kj 9) akg) (.ret iC))
def aki:au:=
 (y7 CV 3 dU bR 3 5 (kq 203 (yH 0 0 0 1 0 2 0 3 (uJ 0 4 0 5 (o5 0 6))) cS (.nt cK (jP (o5 0 6) cS 7 (jO 164 (kM 7 7) h_ (kj 8) akf)) (zd 4))) (p5 2 (o5 0 6) bW 2 5 5 akh))
def ahr:au:=
 (wC 7 (y9 dU aki))
def atb:jc Z2 (dr [aP 0 160 14 [12,52] [(2,0)],aP 0 160 3 [22] [(1,0)],aP 0 160 17 [60],aP 0 160 7 [36] [(1,0)]]) 400 ab 160=ahr:=kr
def atc(a b:aj Int)(hb:Sm b)(i:Nat)(hi:i<a.length)(ha:Sm a)(hy:a[i]∈b->k0 [iI (i+1:Nat)])(hn:a[i]∉b->Q (iB af)):StQ R0 Q [k0] [iL a,iL b,iI i]:=by
 have mU:=aS hi ha;unfold R0;refine aJ b.length (λj (f:Bool)=>[iI j,iB f]) (λj f=>f=decide (a[i]∈b.take j)) af ?_ az λj f hj hI=>?_
 .simp[UU]
 by_cases aq:j<b.length
 .have hw:=aS aq hb;simp[UU,aq,hw,jf aq,jf hi,aw]
  have bI:decide (a[i]∈b.take (j+1))=(decide (a[i]∈b.take j)||decide (b[j]=a[i])):=by
   rw[ZN aq,Ts];simp only[ZV,Z3,P6,decide_eq_true_eq];exact⟨λh=>h.imp_right Ym,λh=>h.imp_right Ym⟩
  cases hf:f with
  |true=>
   left;refine⟨rfl,.mk ab rfl ak ?_⟩;rw[bI,<-hI,hf];rfl
  |false=>
   right;refine⟨rfl,.mk (b[j]==a[i]) rfl ak ?_⟩;rw[bI,<-hI,hf];rw[Ts];simp
 .rw[Wg ak]at hI;simp[UU,aq,mU,aw];by_cases hm:a[i]∈b
  .simp[hm]at hI;right;exact⟨hI,hy hm⟩
  .simp[hm]at hI;left;exact⟨hI,hn hm⟩
def atd(a b:aj Int)(ha:Sm a)(hb:Sm b):CC 103 af [iL a,iL b] (iB (decide (∀v∈a,v∈b))):=by
 refine CC.dB axK kr (λ_=>kr) az cE ?_;generalize hS:decide (∀v∈a,v∈b)=S;simp[alR,UU,aw];unfold aaR;refine aJ a.length (λi (_:Unit)=>[iI i]) (λi _=>∀v∈a.take i,v∈b) () ?_ az λi _ hi hI=>?_
 .simp[UU]
 by_cases aq:i<a.length
 .simp[UU,aq];refine atc a b hb i aq ha (λh=>.mk () rfl ak (bN aq hI h)) λh=>?_;subst hS;simp;exact⟨_,Z4 aq,h⟩
 .have:=cb aq hI;simp[UU,aq];subst hS;simp;exact this
def gB(hs:aj At)(v:Int):aj Tm:=if 0<=v then(match hs[v.toNat]? with
 |some a=>a.ts
 |none=>[])else[]
def l8(hs:aj At)(doneZQ:aj Int):aj Tm:=doneZQ.flatMap (gB hs)
def Ur(vs:aj Int)(t:Tm)(i:Nat):aj Int:=if∀v∈bg [t],v∈vs then[(i:Int)]else[]
def qB(vs:aj Int):aj Tm->Nat->aj Int
 |[],_=>[]
 |t::ts,i=>Ur vs t i++qB vs ts (i+1)
def gm(hs:aj At)(doneZQ:aj Int)(ts:aj Tm):aj Int:=qB (bg (l8 hs doneZQ)) ts 0
def abr(h:i<ts.length):qB vs (ts.drop i) i=Ur vs ts[i] i++qB vs (ts.drop (i+1)) (i+1):=by
 rw[UQ h,qB]
def Dn(h:i<doneZQ.length):l8 hs (doneZQ.take (i+1))=l8 hs (doneZQ.take i)++gB hs doneZQ[i]:=by
 rw[ZN h];unfold l8;rw[aIY];simp
def akj(h:∀a∈hs,a.ts.length<=8):(gB hs v).length<=8:=by
 unfold gB;split
 .split
  .rename_i a ha;exact h a (ZU ha)
  .simp
 .simp
def ate(r:Rl)(x0:IV)(hs:aj At)(n:Nat)(a:At)(ha:hs[n]?=aa a)(eG:a.ts.length<=8)(hf:∀t∈a.ts,WF t)(vs:aj Int)(fk:Sm vs)(hQ:Q (iL (qB vs a.ts 0))):
 StQ RZ Q [k0] [x0,x1,iI n,db hs,x4,x5,iL vs]:=by
 obtain⟨hn,F9⟩:=Z5.1 ha;have hA:=lI hn;rw[F9]at hA;unfold RZ;refine aJ a.ts.length (λi (out:aj Int)=>[iI i,iL out]) (λi out=>out++qB vs (a.ts.drop i) i=qB vs a.ts 0/\out.length<=i) [] ?_ az λi out hi hI=>?_
 .simp[UU]
 obtain⟨hI,qE⟩:=hI;by_cases aq:i<a.ts.length
 .have hw:=aS aq ak;have h95:=v95 a.ts[i] (hf _ (Z4 aq));have hl:=(jQ λt ht=>by rw[Z3.1 ht];exact(hf _ (Z4 aq)).2:Vr (bg [a.ts[i]])).len;have akk:=(atd (bg [a.ts[i]]) vs (by unfold Sm;omega) fk).zm (tQ rfl);rw[abr aq]at hI;rw[bL]at h95;simp[UU,hA,aq,hw,iJ aq,bL,aw];exists _,h95;simp;exists _,akk;by_cases hm:∀v∈bg [a.ts[i]],v∈vs
  .rw[Ur,aW hm]at hI;rw[decide_eq_true hm];simp[aw,aZ,aD];refine⟨_,lL ak,.mk (out++[(i:Int)]) rfl ak ⟨by rw[<-hI];simp,eE⟩⟩
  .rw[Ur,aY hm]at hI;rw[decide_eq_false hm];simp[aw];exact .mk out rfl ak ⟨by rw[<-hI];simp,ak⟩
 .rw[ZX ak,qB,Z_]at hI;simp[UU,hA,aq,hI,aw];exact hQ
def ahs:ahq=Vq:=by rfl
def atf(r:Rl)(h:iF r)(hf:gy r)(doneZQ:aj Int)(hd:doneZQ.length<=100)(n:Nat)(a:At)(ha:(r.aA++r.aC)[n]?=aa a):StQ Vq (Ai (·=gm (r.aA++r.aC) doneZQ a.ts)) [] [cy r,iL doneZQ,iI n]:=by
 have J6:=Nv r (by have:=h.h;omega);have hl:=h.h;have h1:=h.hs;have h2:=hf.hs;have dE:=ZU ha;rw[<-UR]at hl;rw[bQ]at*
 generalize hX:r.aA++r.aC=hs at*
 simp[Vq,UU,aw];exists _,J6;simp;unfold aaQ;refine aJ doneZQ.length (λi (q:aj Tm)=>[iI i,iT q]) (λi q=>q=l8 hs (doneZQ.take i)/\q.length<=8*i/\∀t∈q,WF t) [] ?_ (by simp[l8]) λi q hi hI=>?_
 .simp[UU]
 obtain⟨rS,iE,gx⟩:=hI;by_cases aq:i<doneZQ.length
 .have hw:=aS aq ak;have bI:=Dn (hs:=hs) aq;rw[<-rS]at bI;simp[UU,aq,hw,jf aq,aw];by_cases z0:0<=doneZQ[i]
  rotate_left
  .right;refine⟨ak,.mk q rfl ak ⟨by rw[bI];simp[gB,z0],ak,gx⟩⟩
  left;exists z0;by_cases z1:doneZQ[i]<hs.length
  rotate_left
  .right
   refine⟨ak,.mk q rfl ak ⟨by
    rw[bI];simp only[gB,aW z0];rw[Yb ak];simp,ak,gx⟩⟩
  left;exists z1;have mB:doneZQ[i]=((doneZQ[i].toNat:Nat):Int):=ak;have cR:doneZQ[i].toNat<hs.length:=ak;have hA:=lI cR;rw[<-mB]at hA;have hm:=Z4 cR;have hk:=h1 _ hm;have hc:=FZ (a:=q) (b:=hs[doneZQ[i].toNat].ts) ak
  have rP:gB hs doneZQ[i]=hs[doneZQ[i].toNat].ts:=by
   simp only[gB,aW z0];rw[UN cR]
  simp[hA,aw,hc];refine .mk (q++hs[doneZQ[i].toNat].ts) az ak ⟨by rw[bI,rP],eE,λt ht=>?_⟩;rcases ZV.1 ht with ht|ht
  .exact gx t ht
  .exact h2 _ hm t ht
 .rw[Wg ak]at rS;have hb:=aeD ab q (by unfold Sm;omega) gx;have Cb:=(jQ λt ht=>(gx t ht).2).len;simp[UU,aq];exists _,hb;refine ate r _ hs n a ha (h1 a dE) (h2 a dE) _ (by unfold Sm;omega) ?_;rw[Sg,gm,rS]
def TD(aH:Bool)(r:Rl)(h:iF r)(hf:gy r)(doneZQ:aj Int)(hd:doneZQ.length<=100)(n:Nat)(a:At)(ha:(r.aA++r.aC)[n]?=aa a):CC 148 aH [cy r,iL doneZQ,iI n] (iL (gm (r.aA++r.aC) doneZQ a.ts)):=by
 have hp:∀x∈[cy r,iL doneZQ,iI n],Pure x:=by
  intro x hx;rcases ZP.1 hx with rfl|hx
  .exact fO r
  rcases ZP.1 hx with rfl|hx
  .simp
  obtain rfl:=Z3.1 hx;simp
 cases aH with
 |false=>exact CC.w6 axJ kr (λ_=>kr) hp cE (atf r h hf doneZQ hd n a ha)
 |true=>exact CC.w6 ata kr (λ_=>kr) hp cE (ahs▸atf r h hf doneZQ hd n a ha)
def gE(hs:aj At)(doneZQ:aj Int)(g:Gl):Bool:=decide (∀v∈bg g.ts,v∈bg (l8 hs doneZQ))
def atg(a b:aj Int)(hb:Sm b)(i:Nat)(hi:i<a.length)(ha:Sm a)(hy:a[i]∈b->k1 [iI (i+1:Nat)])(hn:a[i]∉b->Q (iB af)):StQ R4 Q [k0,k1] [x0,x1,x2,x3,x4,x5,iL b,iL a,iI i]:=by
 have mU:=aS hi ha;unfold R4;refine aJ b.length (λj (f:Bool)=>[iI j,iB f]) (λj f=>f=decide (a[i]∈b.take j)) af ?_ az λj f hj hI=>?_
 .simp[UU]
 by_cases aq:j<b.length
 .have hw:=aS aq hb;simp[UU,aq,hw,jf aq,jf hi,aw,aD]
  have bI:decide (a[i]∈b.take (j+1))=(decide (a[i]∈b.take j)||decide (b[j]=a[i])):=by
   rw[ZN aq,Ts];simp only[ZV,Z3,P6,decide_eq_true_eq];exact⟨λh=>h.imp_right Ym,λh=>h.imp_right Ym⟩
  cases hf:f with
  |true=>
   left;refine⟨rfl,.mk ab rfl ak ?_⟩;rw[bI,<-hI,hf];rfl
  |false=>
   right;refine⟨rfl,.mk (b[j]==a[i]) rfl ak ?_⟩;rw[bI,<-hI,hf];rw[Ts];simp
 .rw[Wg ak]at hI;simp[UU,aq,mU,aw];by_cases hm:a[i]∈b
  .simp[hm]at hI;right;exact⟨hI,hy hm⟩
  .simp[hm]at hI;left;exact⟨hI,hn hm⟩
def akm(r:Rl)(h:iF r)(hf:gy r)(doneZQ:aj Int)(hd:doneZQ.length<=100)(g:Gl)(hg:g.ts.length<=8)(hgf:∀t∈g.ts,WF t):CC 189 af [cy r,iL doneZQ,il g] (iB (gE (r.aA++r.aC) doneZQ g)):=by
 refine CC.dB axO kr (λ_=>kr) (by
  intro x hx;rcases ZP.1 hx with rfl|hx
  .exact fO r
  rcases ZP.1 hx with rfl|hx
  .simp
  obtain rfl:=Z3.1 hx;exact FX g) cE ?_
 have J6:=Nv r (by have:=h.h;omega);have hl:=h.h;have h1:=h.hs;have h2:=hf.hs;have QG:=v93 g (by unfold Sm;omega) hgf;have QB:=(jQ λt ht=>(hgf t ht).2:Vr (bg g.ts)).len;have hG:=il.eq_1 g;rw[<-UR]at hl;rw[bQ,hG]at*
 generalize hX:r.aA++r.aC=hs at*
 generalize hS:gE hs doneZQ g=S;simp[alV,UU,aw];exists _,J6;simp;unfold aaU;refine aJ doneZQ.length (λi (q:aj Tm)=>[iI i,iT q]) (λi q=>q=l8 hs (doneZQ.take i)/\q.length<=8*i/\∀t∈q,WF t) [] ?_ (by simp[l8]) λi q hi hI=>?_
 .simp[UU]
 obtain⟨rS,iE,gx⟩:=hI;by_cases aq:i<doneZQ.length
 .have hw:=aS aq ak;have bI:=Dn (hs:=hs) aq;rw[<-rS]at bI;simp[UU,aq,hw,jf aq,aw];by_cases z0:0<=doneZQ[i]
  rotate_left
  .right;refine⟨ak,.mk q rfl ak ⟨by rw[bI];simp[gB,z0],ak,gx⟩⟩
  left;exists z0;by_cases z1:doneZQ[i]<hs.length
  rotate_left
  .right
   refine⟨ak,.mk q rfl ak ⟨by
    rw[bI];simp only[gB,aW z0];rw[Yb ak];simp,ak,gx⟩⟩
  left;exists z1;have mB:doneZQ[i]=((doneZQ[i].toNat:Nat):Int):=ak;have cR:doneZQ[i].toNat<hs.length:=ak;have hA:=lI cR;rw[<-mB]at hA;have hm:=Z4 cR;have hk:=h1 _ hm;have hc:=FZ (a:=q) (b:=hs[doneZQ[i].toNat].ts) ak
  have rP:gB hs doneZQ[i]=hs[doneZQ[i].toNat].ts:=by
   simp only[gB,aW z0];rw[UN cR]
  simp[hA,aw,hc];refine .mk (q++hs[doneZQ[i].toNat].ts) az ak ⟨by rw[bI,rP],eE,λt ht=>?_⟩;rcases ZV.1 ht with ht|ht
  .exact gx t ht
  .exact h2 _ hm t ht
 .rw[Wg ak]at rS;have hb:=aeD ab q (by unfold Sm;omega) gx;have Cb:=(jQ λt ht=>(gx t ht).2).len;simp[UU,aq];exists _,hb,_,QG;simp[aw];unfold aaT;refine aJ (bg g.ts).length (λi (_:Unit)=>[iI i]) (λi _=>∀v∈(bg g.ts).take i,v∈bg q) () ?_ az λi _ hi hI=>?_
  .simp[UU]
  by_cases aq:i<(bg g.ts).length
  .simp[UU,aq,aw];refine atg (bg g.ts) (bg q) (by unfold Sm;omega) i aq (by unfold Sm;omega) (λhm=>.mk () rfl ak (bN aq hI hm)) λhm=>?_;subst hS;simp[gE];exact⟨_,Z4 aq,by rw[<-rS];exact hm⟩
  .have:=cb aq hI;simp[UU,aq,aw];subst hS;simp[gE];rw[<-rS];exact this
def xA(b:Bool)(i:Nat):aj Int:=if b then[(i:Int)]else[]
def iK(p:Gl->Bool):aj Gl->Nat->aj Int
 |[],_=>[]
 |g::gs,i=>xA (p g) i++iK p gs (i+1)
variable{p:Gl->Bool}{x6:IV}
def MT(h:i<gs.length):iK p (gs.drop i) i=xA (p gs[i]) i++iK p (gs.drop (i+1)) (i+1):=by
 rw[UQ h,iK]
def aHS(p:Gl->Bool):∀(gs:aj Gl) (i:Nat),(iK p gs i).length<=gs.length
 |[],_=>by simp[iK]
 |g::gs,i=>by
  have:=aHS p gs (i+1)
  grind [iK,xA]
def acO:∀(gs:aj Gl) (i:Nat),v∈iK p gs i->(i:Int)<=v/\v<i+gs.length
 |[],_,h=>by contradiction
 |g::gs,i,h=>by
  rw[iK,ZV]at h;rw[Zx];rcases h with h|h
  .grind [xA]
  .have:=acO gs (i+1) h;omega
def Y5(hs:aj At)(doneZQ:aj Int)(k:Nat)(g:Gl):Bool:=gE hs (doneZQ.take k) g&& !gE hs (doneZQ.take (k- 1)) g
def dV(hs:aj At)(gs:aj Gl)(doneZQ:aj Int):aj (aj Int):=iK (gE hs []) gs 0::(YF doneZQ.length).map λk=>iK (Y5 hs doneZQ (k+1)) gs 0
def eA(hs:aj At):aj Int->aj Int->aj (aj Int)
 |_,[]=>[]
 |doneZQ,v::vs=>gm hs doneZQ (gB hs v)::eA hs (doneZQ++[v]) vs
def Jz(hs:aj At):∀(vs doneZQ:aj Int),(eA hs doneZQ vs).length=vs.length
 |[],_=>rfl
 |v::vs,doneZQ=>by rw[eA,Zx,Jz hs vs,Zx]
theorem qf(hs:aj At)(gs:aj Gl)(doneZQ:aj Int):(dV hs gs doneZQ).length=doneZQ.length+1:=by simp[dV]
def fp(r:Rl)(o:Oc)(aO:aj Int):Pn:=⟨o,aO,eA (r.aA++r.aC) [o.h] aO,dV (r.aA++r.aC) r.aL (o.h::aO)⟩
def Ao{a:aj (aj Int)}{v:aj Int}(h:a.length<=100000):dG 1 24 (eQ a) (.tree 1 [iL v])=aa (eQ (a++[v])):=by
 have h2:jo 1 [iL v]=ab:=rfl;simp[dG,h2];omega
def MU{L:aj Int}{l:Nat}(h1:l<=L.length):wi 1 (iL L) (iI 0) (iI (l:Nat))=aa (iL (L.take l)):=by
 simp[wi,lz,h1]
def JA(r:Rl)(doneZQ:aj Int):∀x∈[cy r,iL doneZQ],Pure x:=by
 intro x hx;rcases ZP.1 hx with rfl|hx
 .exact fO r
 simp_all
def ath(r:Rl)(h:iF r)(hf:gy r)(doneZQ:aj Int)(hd:doneZQ.length<=100):CC 188 af [cy r,iL doneZQ] (iL (iK (gE (r.aA++r.aC) doneZQ) r.aL 0)):=by
 refine CC.w6 axN kr (λ_=>kr) (JA r doneZQ) cE ?_;have hg6:=h.g;have OH:∀(i:Nat) (hi:i<r.aL.length),CC 189 af [cy r,iL doneZQ,il r.aL[i]] (iB (gE (r.aA++r.aC) doneZQ r.aL[i])):=λi hi=>akm r h hf doneZQ hd _ (h.gs _ (YR _ (Z4 hi))) (hf.gs _ (YR _ (Z4 hi))).2;rw[bQ]at*
 generalize hp:gE (r.aA++r.aC) doneZQ=p at*
 simp[alU,UU,aw];refine aJ r.aL.length (λi (out:aj Int)=>[iI i,iL out]) (λi out=>out++iK p (r.aL.drop i) i=iK p r.aL 0/\out.length<=i) [] ?_ az λi out hi hI=>?_
 .rfl
 have⟨hI,qE⟩:=hI;by_cases aq:i<r.aL.length
 .have hw:=aS aq ak;have hb:=OH i aq;rw[MT aq]at hI;have hG:=il.eq_1 r.aL[i];rw[hG]at hb;simp[UU,aq,hw,sj aq,aw];exists _,hb;cases qF:p r.aL[i]with
  |true=>
   rw[qF,xA,aW rfl]at hI;simp[aZ,aD];exact⟨_,lL ak,.mk (out++[(i:Int)]) rfl ak ⟨aI,aI⟩⟩
  |false=>
   rw[qF,xA,aY az]at hI;simp;exact .mk out rfl ak ⟨aI,ak⟩
 .rw[ZX ak,iK,Z_]at hI;simp[UU,aq,hI]
def ayZ{k2:aj IV->Prop}(r:Rl)(h:iF r)(hf:gy r)(doneZQ:aj Int)(hd:doneZQ.length<=100)(k:Nat)(lO:1<=k)(hk:k<=doneZQ.length)(out:aj (aj Int))(qE:out.length<=1000)
 (q8:k2 [iI (k+1:Nat),iS r.name,eQ (out++[iK (Y5 (r.aA++r.aC) doneZQ k) r.aL 0])]):
 StQ ahn Q [k0,k1,k2] [cy r,x1,x2,x3,iL doneZQ,x5,x6,iI k,iS r.name,eQ out]:=by
 have hg6:=h.g;have OH:∀(d:aj Int) (hd:d.length<=100) (i:Nat) (hi:i<r.aL.length),CC 189 ab [cy r,iL d,il r.aL[i]] (iB (gE (r.aA++r.aC) d r.aL[i])):=λd hd i hi=>(akm r h hf d hd _ (h.gs _ (YR _ (Z4 hi))) (hf.gs _ (YR _ (Z4 hi))).2).zm (tQ rfl);have hwk:=aS (show k<1000 by omega) ak;have hkm:QY.wrap ((k:Int) - 1)=((k- 1:Nat):Int):=by rw[eU ak ak];omega
 rw[bQ]at*
 generalize hp:Y5 (r.aA++r.aC) doneZQ k=p at*
 refine aJ r.aL.length (λi (o:aj Int)=>[iI i,iL o]) (λi o=>o++iK p (r.aL.drop i) i=iK p r.aL 0/\o.length<=i) [] ?_ az λi o hi hI=>?_
 .rfl
 have⟨hI,hoo⟩:=hI;by_cases aq:i<r.aL.length
 .have hw:=aS aq ak;have dL:=OH (doneZQ.take k) aI i aq;have fD:=OH (doneZQ.take (k- 1)) aI i aq;rw[MT aq]at hI;have hG:=il.eq_1 r.aL[i];rw[hG]at dL fD;have qF:p r.aL[i]=(gE (r.aA++r.aC) (doneZQ.take k) r.aL[i]&& !gE (r.aA++r.aC) (doneZQ.take (k- 1)) r.aL[i]):=by rw[<-hp];rfl
  simp[UU,aq,hw,sj aq,aw,MU hk];exists _,dL;cases e1:gE (r.aA++r.aC) (doneZQ.take k) r.aL[i]with
  |false=>
   rw[qF,e1,Bool.false_and,xA,aY az]at hI;simp[aw];exact .mk o rfl ak ⟨aI,ak⟩
  |true=>
   simp[aw,hkm,MU (show k- 1<=doneZQ.length by omega)];exists _,fD;cases e2:gE (r.aA++r.aC) (doneZQ.take (k- 1)) r.aL[i]with
   |true=>
    rw[qF,e1,e2]at hI;simp[xA]at hI;simp;exact .mk o rfl ak ⟨hI,ak⟩
   |false=>
    rw[qF,e1,e2]at hI;simp[xA]at hI;simp[aZ,aD];exact⟨_,lL ak,.mk (o++[(i:Int)]) rfl ak ⟨aI,aI⟩⟩
 .rw[ZX ak,iK,Z_]at hI;simp[UU,aD,Ao (show out.length<=100000 by omega)]
  grind
def ay0(r:Rl)(h:iF r)(hf:gy r)(doneZQ:aj Int)(hd:doneZQ.length<=100)(lO:k1 [eQ (dV (r.aA++r.aC) r.aL doneZQ)]):
 StQ aho Q [k0,k1] [cy r,x1,x2,x3,iL doneZQ,x5,iL (iK (gE (r.aA++r.aC) []) r.aL 0)]:=by
 refine fg (λ(k:Nat)=>[iI (k+1:Nat),iS r.name,eQ ((dV (r.aA++r.aC) r.aL doneZQ).take (k+1))]) (λk=>k<=doneZQ.length) (λk=>doneZQ.length- k) 0 ?_ ak λk hk=>?_
 .rfl
 by_cases aq:k<doneZQ.length
 .have hz:((k:Int)+1<=(doneZQ.length:Int)):=ak;simp[UU,hz];refine ayZ r h hf doneZQ hd (k+1) ak ak _ aI ?_;refine .mk (k+1) ?_ ak ak;have hl:k+1<(dV (r.aA++r.aC) r.aL doneZQ).length:=by grind [qf]
  rw[ZN hl];simp[dV]
 .have hz:¬((k:Int)+1<=(doneZQ.length:Int)):=ak;have jM:k=doneZQ.length:=ak;simp[UU]
  grind [qf]
def ay1(r:Rl)(h:iF r)(hf:gy r)(o:Oc)(aO doneZQ:aj Int)(hd:doneZQ.length<=100)(kn:aj (aj Int))(hQ:Q (bT ⟨o,aO,kn,dV (r.aA++r.aC) r.aL doneZQ⟩)):
 StQ ahp Q [k0] [cy r,eS o,iL aO,x3,iL doneZQ,eQ kn]:=by
 have akn:=ath r h hf [] az;refine jI (λvs=>vs=[eQ (dV (r.aA++r.aC) r.aL doneZQ)]) ?_ λvs fk=>?_
 .have hw:=ay0 (Q:=Q) (k0:=k0) (k1:=GL λvs=>vs=[eQ (dV (r.aA++r.aC) r.aL doneZQ)]) (x1:=eS o) (x2:=iL aO) (x3:=x3) (x5:=eQ kn) r h hf doneZQ hd rfl;rw[bQ]at*
  simp[UU]at*
  exact⟨_,akn,⟨_,rfl⟩,hw⟩
 .subst fk;exists rfl;simp[UU,eS];exact hQ
def pq(n:Nat)(aO:aj Int):Prop:=∀v∈aO,0<=v/\v<n
def k84(r:Rl)(h:iF r)(hf:gy r)(o:Oc)(aO:aj Int)(ho:aO.length<=50)(hv:pq (r.aA++r.aC).length aO):
 CC 84 af [cy r,eS o,iL aO] (bT (fp r o aO)):=by
 refine CC.of aC0 kr kr (by
  intro x hx;rcases ZP.1 hx with rfl|hx
  .exact fO r
  rcases ZP.1 hx with rfl|hx
  .exact uO o
  simp_all) (qc _) ?_
 have JQ:=λ(x3:IV) (k0:aj IV->Prop) (doneZQ:aj Int) (hd:doneZQ.length<=100) (kn:aj (aj Int))=>ay1 (Q:=(·=bT (fp r o aO))) (k0:=k0) (x3:=x3) r h hf o aO doneZQ hd kn;have Y6:=λdoneZQ (hd:doneZQ.length<=100) n a ha=>TD ab r h hf doneZQ hd n a ha;rw[bQ]at*
 have hO:=eS.eq_1 o;rw[hO]at*
 simp[PJ,UU,aw];refine⟨rfl,?_⟩;refine aJ aO.length (λi (q:aj (aj Int))=>[iI i,iL (o.h::aO.take i),eQ q]) (λi q=>q++eA (r.aA++r.aC) (o.h::aO.take i) (aO.drop i)=eA (r.aA++r.aC) [o.h] aO/\q.length<=i) [] ?_ az λi q hi hI=>?_
 .rfl
 have⟨hI,ED⟩:=hI;by_cases aq:i<aO.length
 .have nC:=aS aq ak;have⟨hv0,Np⟩:=hv _ (Z4 aq);have mB:aO[i]=((aO[i].toNat:Nat):Int):=ak;have cR:aO[i].toNat<(r.aA++r.aC).length:=ak;have sD:=Y6 (o.h::aO.take i) aI aO[i].toNat _ (UN cR);rw[<-mB]at sD
  have rP:gB (r.aA++r.aC) aO[i]=(r.aA++r.aC)[aO[i].toNat].ts:=by
   grind [gB]
  rw[UQ aq,eA,rP]at hI;have bI:o.h::aO.take (i+1)=(o.h::aO.take i)++[aO[i]]:=az;have dz:=lL (a:=o.h::aO.take i) (v:=aO[i]) aI;have oT:=Ao (a:=q) (v:=gm (r.aA++r.aC) (o.h::aO.take i) (r.aA++r.aC)[aO[i].toNat].ts) ak;generalize hD:o.h::aO.take i=D at*
  simp[UU,aq,nC,jf aq,aw];refine⟨_,sD,?_⟩;simp[aw,aZ,aD,dz,oT];refine .mk (q++[gm (r.aA++r.aC) D (r.aA++r.aC)[aO[i].toNat].ts]) ?_ ak ⟨aI,aI⟩
  grind
 .rw[ZX ak,eA,Z_]at hI;subst hI;simp[UU,aq];rw[Wg ak];refine JQ _ _ _ aI _ ?_;rfl
variable{o:Oc}{p:Pg}{h:Int}{m:Nat}
def Ap{kl:Nat}:o∈pI i kl n↔∃m:Nat,m<n/\o=⟨i,(m:Int),decide (m<kl)⟩:=by
 unfold pI;rw[Z6];constructor
 .grind
 .rintro⟨m,hm,rfl⟩;exists n- 1- m,aI;rw[show n- 1-(n- 1- m)=m by omega]
structure pJ(p:Pg)(o:Oc)(i m:Nat)(r:Rl):Prop where
 ru:p.aX[i]?=aa r
 or:o.r=i
 oh:o.h=m
 lt:m<(r.aA++r.aC).length
 ok:o.k=decide (m<r.aA.length)
def nS:o∈occs p.aX↔∃i m r,pJ p o i m r:=by
 unfold occs;rw[List.mem_flatMap];constructor
 .rintro⟨⟨r,i⟩,h1,h2⟩;rw[XJ]at h1;obtain⟨m,hm,rfl⟩:=Ap.1 h2;exact⟨i,m,r,h1,rfl,rfl,by simpa using hm,rfl⟩
 .rintro⟨i,m,r,h⟩;refine⟨(r,i),by rw[XJ];exact h.ru,Ap.2 ⟨m,by simpa using h.lt,?_⟩⟩;have⟨a,b,c⟩:=o;have:=h.or;have:=h.oh;have:=h.ok
  simp_all
def parts(n:Nat)(h:Int):aj Int:=(lN n).filter (·!=h)
def LF(n:Nat)(h:Int):(parts n h).length<=n:=by
 have:=List.length_filter_le (·!=h) (lN n);rw[nD]at this;exact this
def aIP(n:Nat)(h:Int):parts (n+1) h=parts n h++if(n:Int)=h then[]else[(n:Int)]:=by
 unfold parts;rw[OD,List.filter_append]
 grind
def rT:v∈parts n h↔(0<=v/\v<n)/\v≠h:=by
 simp_all[parts,nG]
def BE(n:Nat):(lN n).Nodup:=by
 refine XZ _ (λa b di=>?_) (List.nodup_range (n:=n));omega
def s6(n:Nat)(h:Int):(parts n h).Nodup:=(BE n).filter _
def ay2(hp:f_ p)(h:pJ p o i m r):StQ ad6 (·=iL (parts (r.aA++r.aC).length m)) [] [bc p,eS o]:=by
 have⟨hi,gQ⟩:=Z5.1 h.ru;have hl:=(hp.rs r (gQ▸Z4 hi)).h;have hR:=nQ hi;rw[gQ]at hR;have hO:eS o=.agg [iI i,iI m,iB o.k]:=by rw[eS,h.or,h.oh]
 have hP:=bc.eq_1 p;have hm:=h.lt;rw[UR]at*
 generalize hn:r.aA.length+r.aC.length=n at*
 have mD:(r.aA.length:Int)+r.aC.length=n:=ak;have hw:QY.wrap (n:Int)=n:=eU ak ak;rw[hO,hP];simp[ad6,UU,aw,hR,mD,hw,show¬n<=m by omega,show¬p.aX.length<=i by omega];right;right;refine aJ n (λj (q:aj Int)=>[iI j,iL q]) (λj q=>q=parts j m) [] ?_ cE λj q hj hI=>?_
 .rfl
 have ED:=LF j m;rw[<-hI]at ED;by_cases aq:j<n
 .have tB:=aS aq ak;simp[UU,mD,hw,aq,tB,aZ,aD];by_cases e:(j:Int)=m
  .right;exact⟨ak,.mk _ rfl ak (by rw[aIP,aW e,Z_,hI])⟩
  .left;refine⟨ak,_,lL ak,.mk _ rfl ak (by rw[aIP,aY e,hI])⟩
 .have hjn:j=n:=ak;subst hjn;simp[UU,mD,hw,hI,aZ,aD]
def ay3(hp:f_ p)(h:pJ p o i m r)(h0:parts (r.aA++r.aC).length m=[]):StQ ad7 (·=iL []) [] [bc p,eS o]:=by
 have⟨hi,gQ⟩:=Z5.1 h.ru;have hl:=(hp.rs r (gQ▸Z4 hi)).h;have hR:=nQ hi;rw[gQ]at hR;have hO:eS o=.agg [iI i,iI m,iB o.k]:=by rw[eS,h.or,h.oh]
 have hP:=bc.eq_1 p;have hm:=h.lt;rw[UR]at*
 generalize hn:r.aA.length+r.aC.length=n at*
 have mD:(r.aA.length:Int)+r.aC.length=n:=ak;have hw:QY.wrap (n:Int)=n:=eU ak ak;rw[hO,hP];simp[ad7,UU,aw,hR,mD,hw,show¬n<=m by omega,show¬p.aX.length<=i by omega];right;right;refine aJ n (λj (_:Unit)=>[iI j]) (λj _=>True) () ?_ trivial λj q hj hI=>?_
 .rfl
 by_cases aq:j<n
 .have tB:=aS aq ak
  have e:(j:Int)=m:=by
   by_cases e:(j:Int)=m
   .exact e
   .have:(j:Int)∈parts n m:=rT.2 ⟨ak,e⟩
    grind
  simp[UU,mD,hw,aq,tB];right;exact⟨ak,.mk () rfl ak trivial⟩
 .have hjn:j=n:=ak;subst hjn;simp[UU,mD,hw]
def ati:dK Z2 82=1:=kr
def abt(p:Pg)(o:Oc):∀x∈[bc p,eS o],Pure x:=by
 intro x hx;rcases ZP.1 hx with rfl|hx
 .exact cz p
 obtain rfl:=Z3.1 hx;exact uO o
def amB(aH:Bool)(hp:f_ p)(h:pJ p o i m r):CC 1306 aH [bc p,eS o] (iL (parts (r.aA++r.aC).length m)):=by
 have h1:=ati
 have hc:tE Z2 (dK Z2 82) 82 [bc p,eS o] ((parts (r.aA++r.aC).length m).map iI):=by
  by_cases hn:parts (r.aA++r.aC).length m=[]
  .exact .nu (nm:=ab) mixed uK axF kr (abt p o) (by rw[h1];exact uP _) (F6 _) az (by rw[h1,hn];exact ay3 hp h hn)
  .exact .nu (nm:=af) mixed uK axE kr (abt p o) (by rw[h1];exact uP _) (F6 _) (λ_=>by simpa using hn) (by rw[h1];exact ay2 hp h)
 have h2:=sR.fresh (aH:=aH) (tQ rfl) hc;rw[gk,ati]at h2;unfold CC;rw[gk];exact h2
def qY(n:Nat)(h:Int)(aO:aj Int):Bool:=decide ((parts n h).length=aO.length)&&decide (∀v∈parts n h,v∈aO)
def HF:∀(a b:aj Int),a.Nodup->(∀v∈a,v∈b)->b.length=a.length->∀v∈b,v∈a
 |[],b,_,_,hl,v,hv=>by
  grind
 |x::a,b,hn,hs,hl,v,hv=>by
  obtain⟨b1,b2,rfl⟩:=VI (hs x az);have mD:=UA.1 hn
  have ih:=HF a (b1++b2) mD.2 (λu hu=>by
   grind) aI
  grind
def MV{aO:aj Int}(hp:qY n h aO=ab):pq n aO/\aO.length<=n:=by
 simp only[qY,VM,decide_eq_true_eq]at hp;exists λv hv=>(rT.1 (HF _ _ (s6 n h) hp.2 hp.1.symm v hv)).1;rw[<-hp.1];exact LF n h
def wu(p:Pg)(x:Pn):Bool:=decide (x.o∈occs p.aX)&&match p.aX[x.o.r.toNat]? with
 |none=>af
 |some r=>qY (r.aA++r.aC).length x.o.h x.bj&&decide (x=fp r x.o x.bj)
def BF(h:pJ p x.o i m r):wu p x=(qY (r.aA++r.aC).length m x.bj&&decide (x=fp r x.o x.bj)):=by
 have hr:p.aX[x.o.r.toNat]?=aa r:=by rw[h.or];exact h.ru
 unfold wu;rw[decide_eq_true (nS.2 ⟨i,m,r,h⟩),hr,h.oh];rfl
def abu(p:Pg)(x:Pn):∀y∈[bc p,bT x],Pure y:=by
 intro y hy;rcases ZP.1 hy with rfl|hy
 .exact cz p
 obtain rfl:=Z3.1 hy;exact qc x
def k38(p:Pg)(hp:f_ p)(hf:∀r∈p.aX,gy r)(x:Pn)(hx:Lw x):CC 38 af [bc p,bT x] (iB (wu p x)):=by
 refine CC.dB aBZ kr (λ_=>kr) (abu p x) cE ?_;have Us:=k81 p hp x.o;have hN:=bT.eq_1 x;have hP:=bc.eq_1 p;have hO:=eS.eq_1 x.o;by_cases hm:x.o∈occs p.aX
 rotate_left
 .have hr:wu p x=af:=by unfold wu;rw[decide_eq_false hm];rfl
  rw[decide_eq_false hm,hP,hO]at Us;rw[hr,hN,hP];simp[ajA,UU,aw];exact⟨_,Us,az⟩
 have⟨i,m,r,h⟩:=nS.1 hm;have gQ:=h.ru;have⟨hi,gQ⟩:=Z5.1 gQ;have dE:=gQ▸Z4 hi;have j8:=hp.rs r dE;have hR:=nQ hi;rw[gQ]at hR;rw[BF h];have MW:=amB ab hp h;rw[decide_eq_true hm]at Us;have akk:=(atd (parts (r.aA++r.aC).length m) x.bj (by have:=LF (r.aA++r.aC).length m;have:=j8.h;rw[UR]at*;omega) hx.o).zm (tQ rfl);have uN:=aCL x (fp r x.o x.bj) hx;have h84:=k84 r j8 (hf r dE) x.o x.bj;have hF:bT (fp r x.o x.bj)=.agg [iI x.o.r,iI x.o.h,iB x.o.k,iL x.bj,eQ (fp r x.o x.bj).jJ,eQ (fp r x.o x.bj).jg]:=rfl;generalize hfl:fp r x.o x.bj=y at*
 rw[bQ]at h84;rw[hP,hO]at Us MW;rw[hO]at h84;rw[hN,hF]at uN;rw[hF]at h84;rw[hN,hP];have yp:cu 6 (FW p.aX) (iI x.o.r)=aa (.agg [iS r.name,db r.aA,db r.aC,gw r.aL,gw r.bC,iI r.vars]):=by rw[h.or];exact hR
 have bM:=λhp=>MV (n:=(r.aA++r.aC).length) (h:=(m:Int)) (aO:=x.bj) hp;have hpE:qY (r.aA++r.aC).length m x.bj=(decide ((parts (r.aA++r.aC).length m).length=x.bj.length)&&decide (∀v∈parts (r.aA++r.aC).length m,v∈x.bj)):=rfl;have Ba:=j8.h;rw[<-UR]at Ba;generalize hPB:qY (r.aA++r.aC).length m x.bj=pb at*
 generalize hPT:parts (r.aA++r.aC).length (m:Int)=P at*
 generalize hN':(r.aA++r.aC).length=n at*
 simp[ajA,UU,aw];exists _,Us;simp;exists _,MW;simp;by_cases e1:P.length=x.bj.length
 rotate_left
 .left;exact⟨ak,by rw[hpE,decide_eq_false e1];simp⟩
 right;exists ak,_,akk;by_cases e2:∀v∈P,v∈x.bj
 rotate_left
 .have:pb=af:=by rw[hpE,decide_eq_false e2,Bool.and_false]
  rw[this,decide_eq_false e2];simp
 have Ut:pb=ab:=by rw[hpE,decide_eq_true e2,decide_eq_true e1];rfl
 have⟨ho,qE⟩:=bM Ut;have h84:=h84 ak ho;rw[Ut,decide_eq_true e2,T8];simp[yp];exists _,h84;simp;exact⟨_,uN,az⟩
def QI:aj Nat:=[256,203,160,91,216,175,240,266,11,15,31,24,25,7,69,8,5,13,14,257,72,26,71,137,70,139,210,225,145,183,75,76,111,65,112,136,186,140,184,248,224,211,170,138,249,185,9,28,27,143,77,142,141,74,144,73,146,78,18,39,16,82,44,150,188,189,29,79,80,149,187,147,10,148,30,38,104,83,84,81,168,103,62,108,42,169,107,106,45,64,63,135,110,46,66,21,12,20,23,105,40,43,41,113,171,215,174,161,182,52,222,123,181,223,48,98,97,116,115,268,192,154,227,87,33,51,212,94,47,114,32,85,155,233,199,101,50,49,117,164,230,194,166,204,202,99,86,95,93,156,162,280]
def atj:aj Nat:=QI.filter (·!=91)
def QJ:aj Nat:=[34,35,36,37,89,100,109,151,190,234]
def QK:aj Nat:=[235,236,237,238,239,241,242]
def VB:aj Nat:=[185,247,209,173000151,500195,500196,500040,500041,500043,500082,500140,256]
def mP(l:aj Hint):fz:=⟨QI,QJ,QK,l++[⟨999997,0,0,[],[],[],[]⟩,⟨999999,0,0,[],[],[],[]⟩],VB⟩
def amC(l:aj Hint):fz:=⟨atj,QJ,QK,l++[⟨999997,0,0,[],[],[],[]⟩,⟨999999,0,0,[],[],[],[]⟩],VB⟩
def amD(n:Nat):au:=
 (.loop (.ac (.var (n+4)) (.ac (.var (n+5)) .an))
 (.aQ (.ok (.bin .gtr 3 (.var (n+6)) (.i 0)))
 (.test (.ok (.bin .gtr 3 (.var (n+6)) (.i 0)))
 (.aQ (.idx 1 (.var (n+7)) (.var (n+6)))
 (.aQ (.ok (.bin .sub 3 (.var (n+6)) (.i 1)))
 (.aQ (.idx 1 (.var (n+7)) (.ok (.bin .sub 3 (.var (n+6)) (.i 1))))
 (.call 240 ab (.ac (.mG 1 (.var (n+7)) (.var (n+6)) 0) (.ac (.mG 1 (.var (n+7)) (.ok (.bin .sub 3 (.var (n+6)) (.i 1))) 0) .an))
 (.aQ (.ok (.var (n+8)))
 (.test (.ok (.var (n+8)))
 (.aQ (.ok (.bin .sub 3 (.var (n+6)) (.i 1)))
 (.aQ (.ok (.bin .sub 3 (.var (n+6)) (.i 1)))
 (.aQ (.idx 1 (.var (n+7)) (.ok (.bin .sub 3 (.var (n+6)) (.i 1))))
 (.aQ (.idx 1 (.var (n+7)) (.var (n+6)))
 (.aQ (.idx 1 (.var (n+7)) (.var (n+6)))
 (.bind (.BP 1 (.var (n+7)) (.var (n+6)) (.mG 1 (.var (n+7)) (.ok (.bin .sub 3 (.var (n+6)) (.i 1))) 0))
 (.aQ (.idx 1 (.var (n+9)) (.ok (.bin .sub 3 (.var (n+6)) (.i 1))))
 (.bind (.BP 1 (.var (n+9)) (.ok (.bin .sub 3 (.var (n+6)) (.i 1))) (.mG 1 (.var (n+7)) (.var (n+6)) 0))
 (.aQ (.ok (.bin .sub 3 (.var (n+6)) (.i 1)))
 (.next 5 (.ac (.ok (.bin .sub 3 (.var (n+6)) (.i 1))) (.ac (.var (n+10)) .an))))))))))))
 (.aQ (.ok (.bin .add 3 (.var (n+4)) (.i 1)))
 (.next 4 (.ac (.ok (.bin .add 3 (.var (n+4)) (.i 1))) (.ac (.var (n+7)) .an))))))))))
 (.aQ (.ok (.bin .add 3 (.var (n+4)) (.i 1)))
 (.next 4 (.ac (.ok (.bin .add 3 (.var (n+4)) (.i 1))) (.ac (.var (n+7)) .an)))))))
def amE(n:Nat):au:=
 (.loop (.ac (.i 1) (.ac (.var (n+2)) .an))
 (.aQ (.ok (.bin .lss 3 (.var (n+4)) (.len (.var (n+2)))))
 (.test (.ok (.bin .lss 3 (.var (n+4)) (.len (.var (n+2)))))
 (amD n)
 (.next 3 (.ac (.var (n+5)) .an)))))
def ay4(n:Nat):au:=
 (.qH
 (amE n) 1
 (.next 0 (.ac (.var (n+4)) .an)))
def ay5(n:Nat):au:=
 (.loop .an
 (.aQ (.ok (.bin .sub 3 (.len (.var (n+2))) (.i 0)))
 (.aQ (.ok (.bin .leq 3 (.ok (.bin .sub 3 (.len (.var (n+2))) (.i 0))) (.i 12)))
 (.test (.ok (.bin .leq 3 (.ok (.bin .sub 3 (.len (.var (n+2))) (.i 0))) (.i 12)))
 (ay4 n)
 (.aQ (.ok (.bin .eql 3 (.ok (.var (n+3))) (.i 0)))
 (.test (.ok (.bin .eql 3 (.ok (.var (n+3))) (.i 0)))
 (.fail 119)
 (.fail 119)))))))
def aeF(n:Nat):au:=
 (.loop (.ac (.i 0) (.ac (.tr 1 .an) .an))
 (.aQ (.ok (.bin .lss 3 (.var (n+1)) (.len (.var n))))
 (.test (.ok (.bin .lss 3 (.var (n+1)) (.len (.var n))))
 (.aQ (.idx 1 (.var n) (.var (n+1)))
 (.bind (.cat 1 8 (.var (n+2)) (.tr 1 (.ac (.mG 1 (.var n) (.var (n+1)) 0) .an)))
 (.aQ (.ok (.bin .add 3 (.var (n+1)) (.i 1)))
 (.next 1 (.ac (.ok (.bin .add 3 (.var (n+1)) (.i 1))) (.ac (.var (n+3)) .an))))))
 (.aQ (.len (.var (n+2)))
 (.aQ (.ok (.cv 3 33 (.len (.var (n+2)))))
 (.call 202 af (.ac (.ok (.cv 3 33 (.len (.var (n+2))))) .an)
 (.aQ (.ok (.var (n+3)))
 (ay5 n))))))))
def amF(n:Nat):au:=
 (.loop (.ac (.i 0) .an)
 (.aQ (.ok (.bin .lss 3 (.var (n+13)) (.len (.bt (.var 1) 5))))
 (.test (.ok (.bin .lss 3 (.var (n+13)) (.len (.bt (.var 1) 5))))
 (.bind (.idx 1 (.bt (.var 1) 5) (.var (n+13)))
 (.aQ (.ok (.var (n+14)))
 (.bind (.idx 1 (.ok (.var (n+11))) (.var (n+13)))
 (.aQ (.ok (.var (n+15)))
 (.call 93 af (.ac (.ok (.var (n+14))) (.ac (.ok (.var (n+15))) .an))
 (.aQ (.ok (.var (n+16)))
 (.aQ (.ok (.un .not (.ok (.var (n+16)))))
 (.test (.ok (.un .not (.ok (.var (n+16)))))
 (.ret (.b af))
 (.aQ (.ok (.bin .add 3 (.var (n+13)) (.i 1)))
 (.next 3 (.ac (.ok (.bin .add 3 (.var (n+13)) (.i 1))) .an)))))))))))
 (.ret (.b ab)))))
def amG(n:Nat):au:=
 (.loop (.ac (.i 0) .an)
 (.aQ (.ok (.bin .lss 3 (.var (n+12)) (.len (.bt (.var 1) 4))))
 (.test (.ok (.bin .lss 3 (.var (n+12)) (.len (.bt (.var 1) 4))))
 (.bind (.idx 1 (.bt (.var 1) 4) (.var (n+12)))
 (.aQ (.ok (.var (n+13)))
 (.aQ (.idx 1 (.var (n+10)) (.var (n+12)))
 (.call 93 ab (.ac (.ok (.var (n+13))) (.ac (.mG 1 (.var (n+10)) (.var (n+12)) 0) .an))
 (.aQ (.ok (.var (n+14)))
 (.aQ (.ok (.un .not (.ok (.var (n+14)))))
 (.test (.ok (.un .not (.ok (.var (n+14)))))
 (.ret (.b af))
 (.aQ (.ok (.bin .add 3 (.var (n+12)) (.i 1)))
 (.next 2 (.ac (.ok (.bin .add 3 (.var (n+12)) (.i 1))) .an))))))))))
 (.aQ (.len (.bt (.var 1) 5))
 (.aQ (.len (.ok (.var (n+11))))
 (.aQ (.ok (.bin .neq 3 (.len (.bt (.var 1) 5)) (.len (.ok (.var (n+11))))))
 (.test (.ok (.bin .neq 3 (.len (.bt (.var 1) 5)) (.len (.ok (.var (n+11))))))
 (.ret (.b af))
 (.aQ (.len (.bt (.var 1) 5))
 (amF n)))))))))
def Ta(n:Nat)(A:SE->SE)(H:SE):au:=
 (.loop (.ac (.i 0) (.ac (.bt (.var 1) 0) (.ac (.bt (.var 1) 1) (.ac (.tr 1 (.ac (.bt (.var 1) 1) .an)) (.ac (.tr 1 .an) .an)))))
 (.aQ (.ok (.bin .lss 3 (.var (n+6)) (.len (.bt (.var 1) 3))))
 (.test (.ok (.bin .lss 3 (.var (n+6)) (.len (.bt (.var 1) 3))))
 (.bind (.idx 1 (.bt (.var 1) 3) (.var (n+6)))
 (.aQ (.ok (.var (n+11)))
 (.call 160 ab (.ac (A (.ac H .an)) (.ac (.var (n+9)) (.ac (.ok (.var (n+11))) .an)))
 (.aQ (.ok (.var (n+12)))
 (.bind (.cat 1 24 (.var (n+10)) (.tr 1 (.ac (.ok (.var (n+12))) .an)))
 (.aQ (.rw (.ok (.var (n+11))))
 (.bind (.cat 1 8 (.var (n+9)) (.tr 1 (.ac (.ok (.var (n+11))) .an)))
 (.aQ (.ok (.bin .add 3 (.var (n+6)) (.i 1)))
 (.next 1 (.ac (.ok (.bin .add 3 (.var (n+6)) (.i 1))) (.ac (.var (n+7)) (.ac (.var (n+8)) (.ac (.var (n+14)) (.ac (.var (n+13)) .an))))))))))))))
 (.call 161 ab (.ac (A .an) (.ac (.var (n+9)) .an))
 (.aQ (.ok (.var (n+11)))
 (.aQ (.len (.bt (.var 1) 4))
 (.aQ (.len (.var (n+10)))
 (.aQ (.ok (.bin .neq 3 (.len (.bt (.var 1) 4)) (.len (.var (n+10)))))
 (.test (.ok (.bin .neq 3 (.len (.bt (.var 1) 4)) (.len (.var (n+10)))))
 (.ret (.b af))
 (.aQ (.len (.bt (.var 1) 4))
 (amG n)))))))))))
def aeH(n:Nat)(A:SE->SE)(H:SE):au:=
 (.loop (.ac (.i 0) (.ac (.len (.var (n+1))) (.ac (.len (.var (n+1))) (.ac (.var (n+1)) .an))))
 (.aQ (.ok (.bin .lss 3 (.var (n+2)) (.var (n+3))))
 (.test (.ok (.bin .lss 3 (.var (n+2)) (.var (n+3))))
 (.aQ (.idx 1 (.var (n+5)) (.var (n+2)))
 (.aQ (.ok (.bin .neq 3 (.mG 1 (.var (n+5)) (.var (n+2)) 0) (.var (n+2))))
 (.test (.ok (.bin .neq 3 (.mG 1 (.var (n+5)) (.var (n+2)) 0) (.var (n+2))))
 (.ret (.b af))
 (.aQ (.ok (.bin .add 3 (.var (n+2)) (.i 1)))
 (.next 0 (.ac (.ok (.bin .add 3 (.var (n+2)) (.i 1))) (.ac (.var (n+3)) (.ac (.var (n+4)) (.ac (.var (n+5)) .an)))))))))
 (.aQ (.rw (.bt (.var 1) 1))
 (.aQ (.len (.bt (.var 1) 3))
 (Ta n A H))))))
def Yn(t:SE):SE:=.ac (.bt (.var 4) 0) (.ac (.bt (.var 4) 1) (.ac (.bt (.var 4) 2) (.ac (.bt (.var 4) 3) (.ac (.bt (.var 4) 4) (.ac (.bt (.var 4) 5) t)))))
def aht:au:=
 (.qH (.aQ (o8 4) (aeF 4)) 1 (BX tM .neq tM bJ (.aQ tM (aeH 4 (λt=>.ac (.s []) (.ac (.tr 2 .an) (.ac (.tr 2 .an) (.ac (.tr 3 .an) (.ac (.tr 3 .an) (.ac (.i 0) t)))))) (.tr 2 .an)))))
def abv:au:=
 (.qH (.aQ (o8 7) (aeF 7)) 1 (Dg FP ek FP ek (.aQ FP (aeH 7 Yn (.ok (.var 6))))))
def atk:au:=
 (nB 2 6 (Db 87 2 (p6 86 bW (ft 1 1 1) 3 (jr cw (oz .lss 1 0 (fE (.rw pn) (.rws vi) (GI 1 8 MN vi aht)) (sh du kf du (fE (.rw pn) (.rws vi) (GI 1 8 MN vi aht)) (qb kf 4 (qb kf 5 (y8 33 5 5 5 5 5 5 cK (.rw pn) (.aQ (.rws vi) (GI 1 8 MN vi abv)))))))))))
def aC1:bG Z2 (amC [aP 1 32062 4 [17],aP 1 32057 4 [19] [(16,3),(16,0),(14,1),(14,0),(13,4),(13,1),(13,0),(12,4)] [16],aP 3 32034008011 1000027 [] [(9,0)],aP 0 32 8 [35,41,42] [(9,0)],aP 0 32 1000033 [] [(9,0)],aP 4 32034008011028 1 [6] [(9,0)],aP 4 32034008011028 4 [7] [(9,0)],aP 5 32034006005804000 1 [7] [(9,0),(7,0)],aP 1 32068 4 [17]]) 32=atk:=kr
def amH:au:=
 (wC 7 (wF .geq bR bB (adU (.nr (I3 bR yJ))) bJ))
def ay6:bG Z2 (dr []) 203=amH:=kr
def amI:au:=
 (kP (tN 266 bS bW (kc 266 bR 3 cw eM (.nr (I3 bS bR))) (.nr (I3 bS bR))))
def ay7:bG Z2 (dr []) 240=amI:=kr
def atl:au:=
 (Jc 3 1 (p6 156 bS (ft 1 1 1) 2 (.nr (qy .geq bW 0))))
def aC2:bG Z2 (dr []) 86=atl:=kr
def Aq(r:Rl)(hs:aj At):IV:=.agg [iS r.name,db r.aA,db r.aC,gw r.aL,gw r.bC,iI r.vars,db hs]
def F_(r:Rl)(hs:aj At):Pure (Aq r hs):=.agg _ az
def WK(r:Rl)(hs:aj At)(v:Int):CC 203 af [Aq r hs,iI v] (iB (decide (0<=v/\v<hs.length))):=by
 refine CC.dB ay6 kr (λ_=>kr) (by intro x hx;rcases ZP.1 hx with rfl|hx;exact F_ r hs;obtain rfl:=Z3.1 hx;simp) cE ?_;simp[amH,Aq,UU,aw];by_cases h:0<=v
 .simp[h]
 .right;exists ak;simp[h]
def atm{x7:IV}(i:Nat)(hi:i<1000)(ks l:aj Int)(hl:Sm l)(hk:∀q,(∀v,v∈q↔v∈ks\/v∈l)->k0 [iI (i+1:Nat),iM q]):StQ R5 Q [k0] [x0,x1,x2,iI i,iM ks,x5,x6,x7,iL l]:=by
 have mU:=aS hi ak;unfold R5;refine aJ l.length (λj (q:aj Int)=>[iI j,iM q]) (λj q=>∀v,v∈q↔v∈ks\/v∈l.take j) ks ?_ az λj q hj hI=>?_
 .simp[UU]
 by_cases aq:j<l.length
 .have hw:=aS aq hl;have ku:=Sq (O:=[iM q,iI l[j]]) (m:=.var 0) (key:=.var 1) (ks:=q) (k:=l[j]) rfl rfl;simp[UU]at ku;simp only[iI]at ku;simp[UU,aq,hw,jf aq,aw];refine⟨_,ku,.mk _ rfl ak λv=>?_⟩;rw[BD,hI,ZN aq,ZV,Z3,or_assoc]
 .simp[UU,aq,mU];rw[Wg ak]at hI;exact hk q hI
def atn(ks vs l:aj Int)(dZ:∀v,v∈ks↔v∈vs)(hl:Sm l)(i:Nat)(hi:i<1000)(out:aj Int)(ho:out.length<=i)(x8:IV)
 (hy:(∀v∈l,v∈vs)->k1 [iI (i+1:Nat),iL (out++[(i:Int)])])(hn:(¬∀v∈l,v∈vs)->k1 [iI (i+1:Nat),iL out]):
 R6.sat Z2 CC Q [k0,k1] [x0,x1,x2,x3,iM ks,x5,iI i,iL out,x8,iL l]:=by
 have mU:=aS hi ak;unfold R6;refine aJ l.length (λj (_:Unit)=>[iI j]) (λj _=>∀v∈l.take j,v∈vs) () ?_ az λj _ hj hI=>?_
 .simp[UU]
 by_cases aq:j<l.length
 .have hw:=aS aq hl;have td:=Ss (O:=[iM ks,iI l[j]]) (m:=.var 0) (key:=.var 1) (ks:=ks) (k:=l[j]) rfl rfl;have EC:=Sr (O:=[iM ks,iI l[j]]) (m:=.var 0) (key:=.var 1) (ks:=ks) (k:=l[j]) rfl rfl;simp[UU]at td EC;simp only[iI]at td EC;obtain⟨hq,rP,Cp⟩:=EC;simp[UU,aq,hw,mU,jf aq,aw];refine⟨⟨_,td⟩,iB (decide (l[j]∈ks)),⟨hq,rP,by rw[Cp]⟩,?_⟩;by_cases z:l[j]∈ks
  .simp[z];exact .mk () rfl ak (bN aq hI ((dZ _).1 z))
  .simp[z];exact hn λh=>z ((dZ _).2 (h _ (Z4 aq)))
 .have cQ:=cb aq hI;simp[UU,aq,mU,aZ,aD,lL (show out.length<=100000000 by omega)];exact hy cQ
def ato(x0:IV)(a:At)(eG:a.ts.length<=8)(hn:∀t∈a.ts,oM t)(hf:∀t∈a.ts,eH t)(vs ks:aj Int)(dZ:∀v,v∈ks↔v∈vs)(hQ:Q (iL (qB vs a.ts 0))):
 StQ R7 Q [k0] [x0,x1,x2,x3,iM ks,.agg [iS a.s,iT a.ts]]:=by
 unfold R7;refine aJ a.ts.length (λi (out:aj Int)=>[iI i,iL out]) (λi out=>out++qB vs (a.ts.drop i) i=qB vs a.ts 0/\out.length<=i) [] ?_ az λi out hi hI=>?_
 .simp[UU]
 obtain⟨hI,qE⟩:=hI;by_cases aq:i<a.ts.length
 .have h88:=c88 af a.ts[i] (hn _ (Z4 aq)) (hf _ (Z4 aq));have hl:=(jQ λt ht=>by rw[Z3.1 ht];exact hf _ (Z4 aq):Vr (bg [a.ts[i]])).len;rw[abr aq]at hI;rw[bL]at h88;simp[UU,aq,iJ aq,bL,aw];exists _,h88;simp;refine atn ks vs _ dZ (by unfold Sm;omega) i ak out qE _ (λhm=>?_) λhm=>?_
  .rw[Ur,aW hm]at hI;exact .mk (out++[(i:Int)]) rfl ak ⟨by rw[<-hI];simp,eE⟩
  .rw[Ur,aY hm]at hI;exact .mk out rfl ak ⟨by rw[<-hI];simp,ak⟩
 .rw[ZX ak,qB,Z_]at hI;simp[UU,aq,hI];exact hQ
def ahu:ahr=Vs:=by rfl
def atp(r:Rl)(hs:aj At)(hl:hs.length<=3)(eG:∀a∈hs,a.ts.length<=8)(gq:∀a∈hs,vI a)(hf:∀a∈hs,∀t∈a.ts,WF t)(doneZQ:aj Int)(hd:doneZQ.length<=100)(n:Nat)(a:At)(ha:hs[n]?=aa a):
 StQ Vs (Ai (·=gm hs doneZQ a.ts)) [] [Aq r hs,iL doneZQ,iI n]:=by
 have dE:=ZU ha;obtain⟨hn,F9⟩:=Z5.1 ha;have hAn:=lI hn;rw[F9]at hAn;have YT:=WK r hs;simp only[Aq]at*
 simp[Vs,UU,aw];unfold aa4;refine aJ doneZQ.length (λi (q:aj Int)=>[iI i,iM q]) (λi q=>∀v,v∈q↔v∈fm (l8 hs (doneZQ.take i))) [] ?_ (by simp[l8,fm]) λi q hi hI=>?_
 .simp[UU]
 by_cases aq:i<doneZQ.length
 .have hw:=aS aq ak;have bI:=Dn (hs:=hs) aq;simp[UU,aq,hw,jf aq,aw];exists _,YT _;by_cases z:0<=doneZQ[i]/\doneZQ[i]<hs.length
  rotate_left
  .rw[decide_eq_false z];simp;refine .mk q rfl ak λv=>?_;rw[hI,bI]
   have:gB hs doneZQ[i]=[]:=by
    unfold gB;split
    .rw[Yb ak]
    .rfl
   rw[this,Z_]
  rw[decide_eq_true z];have mB:doneZQ[i]=((doneZQ[i].toNat:Nat):Int):=ak;have cR:doneZQ[i].toNat<hs.length:=ak;have hA:=lI cR;rw[<-mB]at hA;have hm:=Z4 cR;have Nz:=c46 af hs[doneZQ[i].toNat] (gq _ hm) λt ht=>(hf _ hm t ht).2
  have Cb:Sm (bg hs[doneZQ[i].toNat].ts):=by
   have:=(jQ λt ht=>(hf _ hm t ht).2).len;unfold Sm;omega
  have rP:gB hs doneZQ[i]=hs[doneZQ[i].toNat].ts:=by
   simp only[gB,aW z.1];rw[UN cR]
  simp[hA,aw];exists _,Nz;simp;refine atm i ak q _ Cb λq' ux=>.mk q' rfl ak λv=>?_;rw[ux,hI,bI,oO,ZV,rP,lJ]
 .rw[Wg ak]at hI;simp[UU,aq,hAn,aw];refine ato _ a (eG a dE) (gq a dE).2.2 (λt ht=>(hf a dE t ht).2) (bg (l8 hs doneZQ)) q (λv=>by rw[hI,lJ]) ?_;rw[Sg,gm]
def ako(aH:Bool)(r:Rl)(hs:aj At)(hl:hs.length<=3)(eG:∀a∈hs,a.ts.length<=8)(gq:∀a∈hs,vI a)(hf:∀a∈hs,∀t∈a.ts,WF t)(doneZQ:aj Int)(hd:doneZQ.length<=100)(n:Nat)(a:At)(ha:hs[n]?=aa a):
 CC 160 aH [Aq r hs,iL doneZQ,iI n] (iL (gm hs doneZQ a.ts)):=by
 have hp:∀x∈[Aq r hs,iL doneZQ,iI n],Pure x:=by
  intro x hx;rcases ZP.1 hx with rfl|hx
  .exact F_ r hs
  rcases ZP.1 hx with rfl|hx
  .simp
  obtain rfl:=Z3.1 hx;simp
 cases aH with
 |false=>exact CC.w6 ax0 kr (λ_=>kr) hp cE (atp r hs hl eG gq hf doneZQ hd n a ha)
 |true=>exact CC.w6 atb kr (λ_=>kr) hp cE (ahu▸atp r hs hl eG gq hf doneZQ hd n a ha)
def LG(k:Int):IV:=.aU [iI k,iB ab]
abbrev tV(ks:aj Int):IV:=.aU (ks.map LG)
def ac8:∀ks:aj Int,oX (ks.map LG)=aa (ks.map (P3 .i64))
 |[]=>rfl
 |k::ks=>by simp[oX,LG,Ev.keyOf,ac8 ks]
def JB(ks:aj Int)(k:Int):(k∈ks->∃i,gY Z2 3 (ks.map LG) (iI k)=aa (aa i)/\ks[i]?=aa k)/\(k∉ks->gY Z2 3 (ks.map LG) (iI k)=aa ah):=by
 have h:gY Z2 3 (ks.map LG) (iI k)=nowAt (.int .i64) (.int .i64 k) (ks.map (P3 .i64)) 0:=by
  unfold gY;rw[ac8];simp[zZ,SZ,Ev.keyOf]
 rw[h];have:=Jy k ks 0;simpa using this
variable{m:SE}
def ajb(h1:m.den Z2 O=aa (tV ks))(h2:key.den Z2 O=aa (iI k)):(SE.ins 3 m key (.b ab)).den Z2 O=aa (tV (GS ks k)):=by
 simp only[UU,h1,h2,Z8];by_cases hm:k∈ks
 .obtain⟨i,g1,g2⟩:=(JB ks k).1 hm;rw[g1];simp only[GS,aW hm];rw[OG];rw[Z7,g2];rfl
 .rw[(JB ks k).2 hm];simp[GS,aY hm,LG]
def aGO(h1:m.den Z2 O=aa (tV ks))(h2:key.den Z2 O=aa (iI k)):(SE.get 3 m key (.b af)).den Z2 O=aa (iB (decide (k∈ks))):=by
 simp only[UU,h1,h2,Z8];by_cases hm:k∈ks
 .obtain⟨i,g1,g2⟩:=(JB ks k).1 hm;rw[g1];simp[g2,LG,hm]
 .rw[(JB ks k).2 hm];simp[hm]
abbrev Ga(l:aj Bool):IV:=.tree 1 (l.map iB)
variable{l:aj Bool}{k:Nat}{f:Gl->Bool}
def atq(h:i<l.length):cu 1 (Ga l) (iI (i:Nat))=aa (iB l[i]):=cM (by simp[h]) rfl
def ay8(b:Bool)(h:i<l.length):Bq 1 (Ga l) (iI (i:Nat)) (iB b)=aa (Ga (l.set i b)):=by
 simp[Bq,lz,h,aD,List.map_set]
def zn(hs:aj At)(doneZQ:aj Int)(k:Nat)(g:Gl):Bool:=gE hs (doneZQ.take k) g
def xB(hs:aj At)(doneZQ:aj Int)(k:Nat)(g:Gl):Bool:=if k=0 then af else zn hs doneZQ (k- 1) g
def EE(hs:aj At)(doneZQ:aj Int)(k:Nat)(g:Gl):Bool:=zn hs doneZQ k g&& !xB hs doneZQ k g
def aeJ{j:Nat}(h:j<=k):∀v∈bg (l8 hs (doneZQ.take j)),v∈bg (l8 hs (doneZQ.take k)):=by
 intro v hv;rw[lJ]at*
 have:doneZQ.take k=doneZQ.take j++(doneZQ.take k).drop j:=by
  have:=JP j (doneZQ.take k);rw[List.take_take,UG h]at this;exact this.symm
 rw[this];unfold l8 at*
 rw[aIY,oO,ZV];exact .inl hv
def aoM(h:xB hs doneZQ k g=ab):zn hs doneZQ k g=ab:=by
 unfold xB at h;split at h
 .cases h
 .unfold zn gE at*
  rw[decide_eq_true_eq]at*
  exactλv hv=>aeJ ak v (h v hv)
def ahv(h:k<(dV hs gs doneZQ).length):(dV hs gs doneZQ)[k]=iK (EE hs doneZQ k) gs 0:=by
 cases k with
 |zero=>
  show iK (gE hs []) gs 0=_
  congr 1
  funext g;simp[EE,xB,zn]
 |succ k=>simp[dV];rfl
def Gb(f g:Gl->Bool)(gs:aj Gl)(i:Nat):aj Bool:=(gs.take i).map f++(gs.drop i).map g
def abw(f g:Gl->Bool)(gs:aj Gl)(i:Nat):(Gb f g gs i).length=gs.length:=by
 simp[Gb];omega
variable{g:Gl->Bool}
def atr(h:i<gs.length):(Gb f g gs i)[i]'(by rw[abw];exact h)=g gs[i]:=by
 unfold Gb;rw[List.getElem_append_right eE];simp[UG (Nat.le_of_lt h)]
def aoN(h:i<gs.length):(Gb f g gs i).set i (f gs[i])=Gb f g gs (i+1):=by
 unfold Gb;have hz:i-((gs.take i).map f).length=0:=by rw[Ki,PY];omega
 rw[UQ h,ZN h,ZM,Nj,List.set_append_right _ _ (by rw[Ki,PY];omega),hz,List.set_cons_zero];simp only[ZM,Wk,ZZ,To]
def akp(h:i<gs.length)(he:f gs[i]=g gs[i]):Gb f g gs i=Gb f g gs (i+1):=by
 unfold Gb;rw[UQ h,ZN h,ZM,Nj];simp only[ZM,Wk,ZZ,To,he]
def VP(ks vs:aj Int):Bool:=decide (∀v∈vs,v∈ks)
def att(h:∀v∈vs,v∈ks):VP ks vs=ab:=decide_eq_true h
def atu(h:¬∀v∈vs,v∈ks):VP ks vs=af:=decide_eq_false h
def aoO{g:Gl}(dZ:∀v,v∈ks↔v∈bg (l8 hs (doneZQ.take k))):zn hs doneZQ k g=VP ks (bg g.ts):=by
 unfold zn gE VP;rw[decide_eq_decide];exact⟨λh v hv=>(dZ v).2 (h v hv),λh v hv=>(dZ v).1 (h v hv)⟩
def ay9:aj Nat:=Vp
def aC3:aj Nat:=[34,35,36,37,89,100,151,190,234]
def aC4:aj Nat:=RX
def aC5:aj Nat:=RY
def amJ(l:aj Hint):fz:=⟨ay9,aC3,aC4,l++[⟨999997,0,0,[],[],[],[]⟩,⟨999999,0,0,[],[],[],[]⟩],aC5⟩
def amK:au:=
 (ik 0 (.nr (ph .neq bS bS)))
def ay_:bG Z2 (amJ []) 266=amK:=kr
def aoP:au:=
 (qP ko 2 dQ 3 bS 2 (Qc 3 3 .eql 28 (ft 1 1 1) (ft 3 3 3) r9 mM) AK)
def amL:au:=
 (Jc 3 1 (.aQ dQ aoP))
def aza:bG Z2 (amJ [aP 0 156 2 [8]]) 156=amL:=kr
end Go.Proofs.YtabefplkfkfdfaaGreat
namespace Go.Ev
open Go.RowKit
def aFL(r:aF (IV×St)):Bool:=
 match r with
 |some (.raw (.bool ab),_)=>ab
 |_=>af
def Ul:Value->Value->Bool
 |.int k n,.int k' n'=>decide (k=k')&&decide (n=n')
 |.bool a,.bool b=>a==b
 |.string a,.string b=>decide (a=b)
 |_,_=>af
def akq{a b:Value}(h:Ul a b=ab):a=b:=by
 unfold Ul at h
 grind
def Su(p:IV->IV->Bool):aj IV->aj IV->Bool
 |[],[]=>ab
 |a::PJ,b::bs=>p a b&&Su p PJ bs
 |_,_=>af
def Dp{p:IV->IV->Bool}:∀{PJ bs:aj IV},Su p PJ bs=ab->PJ.length=bs.length/\∀(i:Nat) a b,PJ[i]?=aa a->bs[i]?=aa b->p a b=ab
 |[],[],_=>⟨rfl,λi a b h=>az⟩
 |a::PJ,b::bs,h=>by
  simp only[Su,VM]at h;have⟨h1,h2⟩:=Dp h.2
  grind
 |[],_::_,h=>by contradiction
 |_::_,[],h=>by contradiction
def OI(G:St):Nat->IV->IV->Bool
 |0,_,_=>af
 |f+1,x,z=>
  match z with
  |.raw u=>match x with
   |.raw v=>Ul v u
   |_=>af
  |.agg ds=>match x with
   |.agg cs=>Su (OI G f) cs ds
   |_=>af
  |.aU ds=>match x with
   |.aU cs=>Su (OI G f) cs ds
   |_=>af
  |.tree s es=>match x with
   |.raw (.slice ah l c)=>es.isEmpty&&Nat.blt 0 s&&ZW l 0&&ZW c 0
   |.emp=>es.isEmpty&&Nat.blt 0 s
   |.tree s' bF=>es.isEmpty&&bF.isEmpty&&ZW s s'
   |.sl id ay len _ ep s'=>match G.at id with
    |some (.cells cs aV mn)=>ZK mn ep&&ZK ep aV&&ZW es.length len&&ZK (ay+len*s) cs.length&&ZW s s'&&
      es.zipIdx.all λ(e,i)=>ZW (aD e).length s&&(aD e).zipIdx.all λ(d,j)=>match cs[ay+i*s+j]? with
       |some c=>OI G f c d
       |none=>ab
    |_=>af
   |_=>af
  |_=>af
variable{G:St}{z:IV}
def zo{fr:Bool}:∀{f:Nat} {x z:IV},OI G f x z=ab->Can fr G x z
 |0,_,_,h=>by contradiction
 |f+1,x,z,h=>by
  unfold OI at h;split at h
  .split at h
   .rw[akq h];exact .raw _
   grind
  .split at h
   .have⟨h1,h2⟩:=Dp h;exact .agg _ _ h1 λi c d e1 e2=>zo (h2 i c d e1 e2)
   grind
  .split at h
   .have⟨h1,h2⟩:=Dp h;exact .aU _ _ h1 λi c d e1 e2=>zo (h2 i c d e1 e2)
   grind
  .split at h
   .simp only[VM,XT,aLe,ZT]at h;have⟨⟨⟨h1,h2⟩,h3⟩,h4⟩:=h;subst h1 h3 h4;exact .nil _ h2
   .simp only[VM,XT,aLe]at h;have⟨h1,h2⟩:=h;subst h1;exact .emp _ h2
   .simp only[VM,XT,ZT]at h;have⟨⟨h1,h2⟩,h3⟩:=h;subst h1 h2 h3;exact .fL _
   .split at h
    .rename_i bx;simp only[VM,ZT,Nat.ble_eq,List.all_eq_true]at h;have⟨⟨⟨⟨⟨h1,h2⟩,h3⟩,h4⟩,h5⟩,h6⟩:=h;subst h5;refine .sl _ _ _ _ _ _ _ _ _ _ bx h1 h2 h3 h4 (λe he=>?_) λi e j c d e1 e2 e3=>?_
     .obtain⟨i,hi,rfl⟩:=List.getElem_of_mem he;exact(h6 (_,i) (O_.2 (UN hi))).1
     .have:=(h6 (e,i) (O_.2 e1)).2 (d,j) (O_.2 e2);simp only[e3]at this;exact zo this
    grind
   grind
  grind
abbrev Hk:=FuncId->aj (aj IV×IV)
def hit(G:St)(av:aj IV):aj (aj IV×IV)->aF IV
 |[]=>ah
 |(xs,z)::l=>if Su (OI G 40) av xs then aa z else hit G av l
def aHZ{av:aj IV}:∀{l:aj (aj IV×IV)},hit G av l=aa z->∃xs,(xs,z)∈l/\Rc ab G av xs
 |[],h=>by cases h
 |(xs,y)::l,h=>by
  rw[hit]at h;split at h
  .rename_i ha;cases h;have⟨h1,h2⟩:=Dp ha;exact⟨xs,.head _,h1,λi c d e1 e2=>zo (h2 i c d e1 e2)⟩
  .have⟨Cd,h1,h2⟩:=aHZ h
   grind
def Y9(H:Hk)(S:Self):Self:=⟨S.code,λro f av G=>match hit G av (H f)with
 |some z=>aa (z,G)
 |none=>S.call ro f av G,S.dh,S.Ca⟩
def Y_(P:Program)(H:Hk)(n:Nat):Self:=Nat.rec Self.none (λ_ S=>Y9 H (pN P S)) n
variable{H:Hk}{P:Program}{S:Self}
def ahw(hH:∀f xs z,(xs,z)∈H f->fe P af ab f xs z)(hC:gg P S):gg P (Y9 H S) where
 call:=by
  intro N ro f av G v aB h hN Z us w hi hr;simp only[Y9]at h;split at h<;>try exact hC.call N ro f av G v aB h hN Z us w hi hr
  rename_i z hz;cases h;have⟨xs,h1,h2⟩:=aHZ hz;exact((hH f xs _ h1).UY (ro:=ro) h2).2 N hN Z us w hi hr
 dh:=hC.dh
 Ca:=hC.Ca
 G8:=hC.G8
def ahx(hk:cG S):cG (Y9 H S) where
 call:=by
  intro ro f av G v aB h;simp only[Y9]at h;split at h
  .grind
  .exact hk.call ro f av G v aB h
 dh:=hk.dh
 Ca:=hk.Ca
def ahy(fG:P.follows .mixedOrders=ab)(hH:∀f xs z,(xs,z)∈H f->fe P af ab f xs z):∀n,kC P (Y_ P H n) n/\gg P (Y_ P H n)/\c9 (Y_ P H n)/\cG (Y_ P H n)
 |0=>ak9 (λ_ _ h1 h2 h3 h4=>aam fG h1 h2 h3 h4) 0
 |n+1=>by
  have⟨h1,h2,h3,h4⟩:=ahy fG hH n;exact⟨aai h1 h2 h3 h4 (aam fG h1 h2 h3 h4),ahw hH (Q5 h1 h2 h3 h4),aIu h3 h4,ahx (Ks h3 h4)⟩
def comes(r:aF (IV×St))(z:IV):Bool:=
 match r with
 |some (v,G)=>OI G 40 v z
 |none=>af
def fe.run(fG:P.follows .mixedOrders=ab)(hH:∀f xs z,(xs,z)∈H f->fe P af ab f xs z){n:Nat}{aH:Bool}{f:FuncId}{xs:aj IV}(h:comes ((Y_ P H n).call 0 f xs ⟨0,.lf⟩) z=ab):fe P af aH f xs z:=by
 unfold comes at h;split at h
 .rename_i v G hc;have⟨_,h2,_,h4⟩:=ahy fG hH n;exact fe.of ⟨h4.call _ _ _ _ _ _ hc,λN hN Z us w hi hr=>h2.call N 0 f xs _ _ _ hc hN Z us w hi hr⟩ (zo h)
 grind
end Go.Ev
namespace Go.Proofs.YtabefplkfkfdfaaGreat
open Go Go.Ev
def aC6(a:Int):CC 266 af [iI a] (iB af):=by
 refine CC.dB ay_ kr (λ_=>kr) az cE ?_;simp[amK,UU]
def aC7(a b:Int):CC 240 af [iI a,iI b] (iB (decide (a<b))):=by
 refine CC.dB ay7 kr (λ_=>kr) az cE ?_;simp[amI,UU];exact⟨_,aC6 a,az⟩
def aC8(l:aj Oc)(o:Oc)(hl:l.length<=1000):CC 156 af [kY l,eS o] (iI (match l.findIdx? (·==o)with
 |some i=>(i:Int)
 |none=> -1)):=by
 refine CC.B9 aza kr (λ_=>kr) (by intro x hx;rcases ZP.1 hx with rfl|hx;exact aIU l;obtain rfl:=Z3.1 hx;exact uO o) cE ?_;simp[amL,eS,UU,aw];refine aJ l.length (λi (_:Unit)=>[iI i]) (λi _=>∀x∈l.take i,x≠o) () ?_ az λi _ hi hI=>?_
 .rfl
 by_cases aq:i<l.length
 .have hw:=aS aq ak;simp[UU,aq,hw,GR aq,aw];by_cases h1:l[i]=o
  .left;exists aI
   have:l.findIdx? (·==o)=aa i:=by
    rw[List.findIdx?_eq_some_iff_getElem];refine⟨aq,aI,λj hj=>?_⟩;have:=hI l[j] (List.mem_take_iff_getElem.2 ⟨j,ak,rfl⟩)
    grind
   grind
  .right;refine⟨?_,.mk () rfl ak (bN aq hI h1)⟩;intro e1 e2;refineλe3=>h1 ?_;cases hli:l[i];cases o
   grind
 .have h2:=cb aq hI
  have:l.findIdx? (·==o)=ah:=by
   grind
  simp[UU,aq,this]
def k86(l:aj Oc)(o:Oc)(hl:l.length<=1000):CC 86 af [kY l,eS o] (iB (decide (o∈l))):=by
 refine CC.dB aC2 kr (λ_=>kr) (by intro x hx;rcases ZP.1 hx with rfl|hx;exact aIU l;obtain rfl:=Z3.1 hx;exact uO o) cE ?_;have h:=aC8 l o hl;have hO:=eS.eq_1 o;rw[hO]at*
 simp[atl,UU,aw];exists _,h;simp
 grind
def cvx(n:Int):Py Z2 3 33 (iI n)=aa (.raw (.int .u64 (aKM.wrap n))):=kr
variable{n:Nat}{Q:IV->Prop}{ey x0 x1 x2 x3 x4 x5 x6 x7 x8 x9:IV}{k0 k1 k2 k3 k4:aj IV->Prop}{h:Int}
def azb{n:Int}(h:0<=n/\n<=9223372036854775807):aKM.wrap n=n:=by
 grind [IntKind.wrap,IntKind.bits]
def aC9(h:n<=1000):Py Z2 3 33 (iI (n:Nat))=aa (.raw (.int .u64 (n:Nat))):=by
 rw[cvx,azb ak]
def aC_(n:Nat)(h:n<=12):∃m,CC 202 af [.raw (.int .u64 (n:Nat))] (iI m):=by
 have hr:∀(m:Int) (n:Int),comes ((Y_ Z2 (λ_=>[]) 300).call 0 202 [.raw (.int .u64 n)] ⟨0,.lf⟩) (iI m)=ab->∃m,CC 202 af [.raw (.int .u64 n)] (iI m):=λm n h=>⟨m,CC.plain (tQ rfl) (fe.run mixed (λ_ _ _ h=>by cases h) h) az kr⟩;rcases n with _|_|_|_|_|_|_|_|_|_|_|_|_|n
 .exact hr 0 0 kx
 .exact hr 1 1 kx
 .exact hr 2 2 kx
 .exact hr 2 3 kx
 .exact hr 3 4 kx
 .exact hr 3 5 kx
 .exact hr 3 6 kx
 .exact hr 3 7 kx
 .exact hr 4 8 kx
 .exact hr 4 9 kx
 .exact hr 4 10 kx
 .exact hr 4 11 kx
 .exact hr 4 12 kx
 .omega
def amM{l:aj Int}{i:Nat}(v:Int)(h:i<l.length):Bq 1 (iL l) (iI (i:Nat)) (iI v)=aa (iL (l.set i v)):=by
 simp[Bq,lz,h,aD]
def swp(A α:aj Int)(x y:Int):((A++y::x::α).set (A.length+1) y).set A.length x=A++x::y::α:=az
def atv(i:Nat)(hi:i<900)(P aE:aj Int)(x:Int)(hP:P.length=i)(hs:P.Pairwise (·<=·))(hk:∀P':aj Int,P'.Perm (x::P)->P'.Pairwise (·<=·)->k4 [iI (i+1:Nat),iL (P'++aE)]):
 (amD 7).sat Z2 CC Q [k0,k1,k2,k3,k4] [x0,x1,x2,x3,x4,x5,x6,x7,x8,x9,ey,iI i,iL (P++x::aE)]:=by
 have mU:=aS (show i<1000 by omega) ak
 have NT:∀j,j<=i->(∀c∈P.drop j,x<=c)->(∀c∈P.take j,c<=x)->k4 [iI (i+1:Nat),iL (P.take j++x::(P.drop j++aE))]:=λj hj h1 h2=>by
  have:=hk (P.take j++x::P.drop j) (by
   grind [JP]) (by
   rw[aJW];have cB:=hs;rw[<-JP j P,aJW]at cB
   simp_all)
  grind
 refine fg (λ(j:Nat)=>[iI j,iL (P.take j++x::(P.drop j++aE))]) (λj=>j<=i/\∀c∈P.drop j,x<=c) (λj=>j) i ?_ ⟨Nat.le_refl _,aI⟩ λj hj=>?_
 .have t1:P.take i=P:=Wg ak;have t2:P.drop i=[]:=ZX ak
  simp_all[UU]
 have⟨QF,hjc⟩:=hj;rcases j with _|q
 .have:=NT 0 ak hjc az;simp[UU,mU]at this⊢;omega
 have hqP:q<P.length:=ak
 have hl:P.take (q+1)++x::(P.drop (q+1)++aE)=P.take q++P[q]::x::(P.drop (q+1)++aE):=by
  rw[ZN hqP,ZZ];rfl
 have bf:(P.take q).length=q:=aI;have hsw:=swp (P.take q) (P.drop (q+1)++aE) x P[q];rw[bf]at hsw;have G6:P.take q++x::(P.drop q++aE)=P.take q++x::P[q]::(P.drop (q+1)++aE):=by rw[UQ hqP];rfl
 rw[<-G6]at hsw;rw[<-hl]at hsw
 have e1:(P.take (q+1)++x::(P.drop (q+1)++aE))[q+1]?=aa x:=by
  simp_all
 have e0:(P.take (q+1)++x::(P.drop (q+1)++aE))[q]?=aa P[q]:=by
  simp_all
 have hfq:=λh2=>NT (q+1) QF hjc h2;generalize hL:P.take (q+1)++x::(P.drop (q+1)++aE)=L at*
 have i1:cu 1 (iL L) (iI ((q:Int)+1))=aa (iI x):=Qo e1;have i0:=Qo e0;have JI:=(Z5.1 e1).1;have s1:Bq 1 (iL L) (iI ((q:Int)+1)) (iI P[q])=aa (iL (L.set (q+1) P[q])):=amM P[q] JI;have O9:q<(L.set (q+1) P[q]).length:=aI;have s2:=amM x O9;have i2:=Qo (l:=L.set (q+1) P[q]) (i:=q) (x:=(L.set (q+1) P[q])[q]) (UN O9);rw[hsw]at s2;have aDa:=(aC7 x P[q]).zm (tQ rfl);have hws:QY.wrap (q:Int)=q:=eU ak ak;simp[UU,aD,hws,i1,i0];exists _,aDa;by_cases aq:x<P[q]
 .simp[aq,s1,s2,i2];refine .mk q rfl ⟨ak,λc hc=>?_⟩ ak;rw[UQ hqP]at hc
  grind
 .simp[aq,mU];refine hfq λc hc=>?_;obtain⟨m,hm,rfl⟩:=List.mem_iff_getElem.1 hc;rw[PY]at hm;rw[List.getElem_take];by_cases hmq:m=q
  .grind
  .have:=List.pairwise_iff_getElem.1 hs m q ak hqP ak;omega
def atw(l:aj Int)(px:l≠[])(hl:l.length<=800)(hk:∀L:aj Int,L.Perm l->L.Pairwise (·<=·)->k3 [iL L]):
 (amE 7).sat Z2 CC Q [k0,k1,k2,k3] [x0,x1,x2,x3,x4,x5,x6,x7,x8,iL l,ey]:=by
 refine fg (λ(a:Nat×aj Int)=>[iI a.1,iL (a.2++l.drop a.1)]) (λa=>a.1<=l.length/\a.2.Perm (l.take a.1)/\a.2.Pairwise (·<=·)) (λa=>l.length- a.1) (1,l.take 1) ?_ ?_ λa ha=>?_
 .simp only[JP];rfl
 .cases l with
  |nil=>grind
  |cons h t=>simp
 have⟨i,P⟩:=a;have⟨h1,h2,h3⟩:=ha;have hPl:P.length=i:=by grind [h2.length_eq]
 by_cases aq:i<l.length
 .have hd:=UQ aq
  have hw:=atv (Q:=Q) (k0:=k0) (k1:=k1) (k2:=k2) (k3:=k3) (k4:=GK (λ(a:Nat×aj Int)=>[iI a.1,iL (a.2++l.drop a.1)]) (λa=>a.1<=l.length/\a.2.Perm (l.take a.1)/\a.2.Pairwise (·<=·)) (λa=>l.length- a.1) (i,P))
   (x0:=x0) (x1:=x1) (x2:=x2) (x3:=x3) (x4:=x4) (x5:=x5) (x6:=x6) (x7:=x7) (x8:=x8) (x9:=iL l) (ey:=ey) i ak P (l.drop (i+1)) l[i] hPl h3 λP' p1 p2=>
   .mk (i+1,P') rfl ⟨ak,by
    grind,p2⟩ ak
  simp_all[UU]
 .have Fc:i=l.length:=ak
  simp_all[UU]
def atx(l:aj Int)(px:l≠[])(hl:l.length<=12)(hk:∀L:aj Int,L.Perm l->L.Pairwise (·<=·)->k0 [iL L]):
 (aeF 7).sat Z2 CC Q [k0] [x0,x1,x2,x3,x4,x5,x6,iL l]:=by
 refine aJ l.length (λi (q:aj Int)=>[iI i,iL q]) (λi q=>q=l.take i) [] ?_ az λi q hi hI=>?_
 .rfl
 by_cases aq:i<l.length
 .have hw:=aS aq ak;have hc:=lL (a:=q) (v:=l[i]) aI;simp[UU,aq,hw,aD,hc];exact .mk _ rfl ak jw
 .rw[Wg ak]at hI;subst hI;have⟨m,hm⟩:=aC_ q.length hl;have hcv:=aC9 (n:=q.length) ak;simp[UU,hcv];right;refine⟨ak,_,hm,?_⟩;simp;refine aJ 1 (λ_ (_:Unit)=>[]) (λ_ _=>True) () rfl trivial λ_ _ _ _=>?_;have hwl:QY.wrap (q.length:Int)=q.length:=eU ak ak;simp[UU,hwl,show(q.length:Int)<=12 by omega];refine jI (λvs=>∃L:aj Int,vs=[iL L]/\L.Perm q/\L.Pairwise (·<=·)) ?_ λvs fk=>?_
  .exact atw q px ak λL h1 h2=>⟨L,rfl,h1,h2⟩
  .obtain⟨L,rfl,h1,h2⟩:=fk
   simp_all[UU]
def aeM(n:Nat):(lN n).Pairwise (·<=·):=by
 refine XZ _ (λa b di=>?_) (List.pairwise_lt_range (n:=n));omega
def aeN(h0:0<=h/\h<n):(h::parts n h).Perm (lN n):=by
 rw[List.perm_ext_iff_of_nodup (UA.2 ⟨λhm=>(rT.1 hm).2 rfl,s6 n h⟩) (BE n)];intro a;rw[ZP,rT,nG];constructor
 .rintro(rfl|h)
  .exact h0
  .exact h.1
 .intro ha;by_cases e:a=h
  .exact .inl e
  .exact .inr ⟨ha,e⟩
def aIa:∀(a b:aj Int),a.Nodup->(∀v∈a,v∈b)->b.length=a.length->b.Perm a
 |[],b,_,_,hl=>by grind
 |x::a,b,hn,hs,hl=>by
  obtain⟨b1,b2,rfl⟩:=VI (hs x az);have mD:=UA.1 hn
  have ih:=aIa a (b1++b2) mD.2 (λu hu=>by
   grind) aI
  grind
def aoQ{aO L:aj Int}(h0:0<=h/\h<n)(hp:L.Perm (h::aO))(hs:L.Pairwise (·<=·)):L=lN n↔qY n h aO=ab:=by
 have hpp:=aeN h0;have bf:=hpp.length_eq;rw[Zx,nD]at bf;unfold qY;rw[VM,decide_eq_true_eq,decide_eq_true_eq];constructor
 .rintro rfl;have h1:=hp.length_eq;rw[nD,Zx]at h1;refine⟨ak,λv hv=>?_⟩;have⟨Np,hv2⟩:=rT.1 hv
  grind
 .rintro⟨h1,h2⟩;have:=aIa (parts n h) aO (s6 n h) h2 h1.symm;exact aLq (λa b _ _ h1 h2=>ak) hs (aeM n) (hp.trans ((this.cons h).trans hpp))
def Zb:au:=
 (kg (yL 4) 12 (kj 11) 3 l7 12 3 14 (.bind (.qG 4 (.get 28 ej (ft 14 14 14) (adV bB eY 7))) (jH 4 48 13 4 (ff 15 15 15 15) (si 12 16))) (jH 5 64 7 5 (J3 8 0 8 1 (jZ AO iD po)) (fx 6 14)))
def Zc:au:=
 (kg (yL 5) 6 iA 2 jt 6 2 8 (AS 49 (uG gZ 8 0 (Fy 8)) 9 (AS 50 (uG gZ 8 0 (Fy 8)) 10 (o6 51 (uG gZ 8 0 (Fy 8)) (fE l7 (kj 11) Zb)))) (nP 52 (kI (jZ iC cw du)) (AY h_ 38 h_ (Qb (jZ (yI 5) pj bB) 6) (Qd (jZ iC cw du)))))
def Zd:au:=
 (kg CV 4 gv 6 bW 4 6 6 (tJ 11 cw (eB 6 6 6 6 6 6) (fE (wW 4 7) (kQ 7) (Hw .neq 38 (kQ 7) bB (BV (jZ (yI 5) pj bB) (kQ 7)) (pf 28 ej (ft 6 6 6) (ry (tI 7 0) (FD 7) (kT (tI 7 2) (tI 7 3))) (vf 8))))) (.aQ iA Zc))
def akr:au:=
 (za (kc 31 gZ 1 bR (Qb (jZ (yI 5) pj bB) 2) (Db 47 2 (kq 48 gZ bW (yW cw du gv Zd)))))
def amN:bG Z2 (mP [aP 0 15 15 [56] [(4,3),(4,0),(2,0)],aP 0 15 19 [84] [(7,3),(7,0),(6,2),(5,2)],aP 0 15 7 [32] [(3,0)]]) 15=akr:=kr
def ahz:au:=
 (kg (yL 6) 3 gv 3 bW 3 3 5 (tJ 114 bR (ft 5 5 5) (Em 6 6 (adT 6 4 6 (eB 6 6 6 6 6 6) (zd 7)))) FF)
def aty:au:=
 (za (Db 113 1 (jO 87 gZ bW gv ahz)))
def azc:bG Z2 (mP [aP 0 47 4 [4,12] [(1,3),(1,0)]]) 47=aty:=kr
def ahA:au:=
 (xx (r8 bB 3 (uJ 4 0 4 1 (CY 4))) 3 5 (AJ 4) (o6 115 (ry gZ (wA 7 8 (r8 AT 9 (RV 4 4 4 5))) (o7 5)) (fE (wW 2 10) (kQ 10) (.nt (Er 10 2) (vj 116 g_ (kT (tI 10 0) (FD 10)) (kQ 10) (pY l7 l7 (.aQ (yP 10) (jH 3 48 6 3 (Qf 10 0 (yP 10) (kQ 10)) (Eo 1 5 (AL 12 7 8 9)))) (Eo 1 5 (AL 6 7 8 9)))) (Eo 1 5 (AL 6 7 8 9))))) (wS 6))
def atz:au:=
 (qP (yL 3) 2 dU 6 bR 2 (uH 6 4 (AJ 4) ahA) MA)
def atA:au:=
 (zb (.aQ dU atz))
def azd:bG Z2 (mP [aP 0 48 3 [5,14] [(1,3),(1,1),(1,0)],aP 0 48 6 [5,21] [(1,3),(1,1),(1,0),(2,3),(2,1),(2,0)]]) 48=atA:=kr
def ahB:au:=
 (qP CV 8 (iX 7) 4 (je 7) 8 (wP 4 10 .neq 10 1 (MB 8 (fC (AQ 8) eM (fC C_ oB (p7 101 (Lf 5 3 5 4 5 5 5 6 5 7 5 8) 11 l7 oB)))) (.aQ (.qG 0 (.get 3 lG (je 10) .an)) (AM 3 lG (je 10) (.test AN (MB 8 (fC (AQ 8) eM (fC C_ oB (p7 101 (Lf 5 3 5 4 5 5 5 6 5 7 5 8) 12 vm oB)))) (pf 3 lG (je 10) .an (fx 8 12)))))) eM)
def atB:au:=
 (kg ko 4 js 9 cw 4 9 5 (.test C_ (fC C_ oB (p7 101 (Lf 5 3 5 4 5 5 5 6 5 7 5 8) 6 cK oB)) (Qj (tG 5 6) (tG 5 6) (fC C_ oB (p7 101 (Lf 5 3 5 4 5 5 5 6 5 7 5 8) 6 cK oB)) (jO 33 (Lf 5 3 5 4 5 5 5 6 5 7 5 8) cK ek (Dj ek gM (fC C_ oB (p7 101 (Lf 5 3 5 4 5 5 5 6 5 7 5 8) 7 eu oB)) (p5 2 cK bB 2 7 7 ahB))))) bJ)
def atC:au:=
 (wV 2 (tJ 117 bR bW (Dh cw atB)))
def aze:bG Z2 (mP [aP 3 49021028008 2 [8] [(3,0)],aP 0 49 2 [14]]) 49=atC:=kr
def atD:au:=
 (kg ko 4 js 9 cw 4 9 5 (fC C_ oB (kc 101 (Lf 5 3 5 4 5 5 5 6 5 7 5 8) 6 cK (rz .lss 3 4 bB (.nr js) FF) oB)) (.nr js))
def atE:au:=
 (wV 2 (tJ 117 bR bW (Dh cw atD)))
def azf:bG Z2 (mP [aP 1 50015 2 [8]]) 50=atE:=kr
def aoR:au:=
 (kg (yL 9) 4 js 3 cw 4 3 6 (qb (lV 6) 7 (jH 9 144 5 9 (yH 6 0 6 1 6 2 7 0 (yH 7 1 7 2 7 3 7 4 (kI (wJ 7)))) (vf 8))) I4)
def amO:au:=
 (wV 2 (tJ 51 bR bW (Dh cw aoR)))
def atG:bG Z2 (mP [aP 0 117 3 [7,15] [(1,3),(1,0)]]) 117=amO:=kr
def Ze:au:=
 (Vm (jZ (qy .sub ek 1) fS (lV 5)) 3 7 (fE nA (I3 iC nA) (my 2 cK 7 (zf 2 10 9 10 bR (qX (iX 10) (iX 10) bW (Ms kO iC (tH (I3 iC nA) (jH 3 24 8 3 (jZ kO iC (I3 iC nA)) (Qh 1 3 7 1 (tc 11 9))))) (Qh 1 3 7 1 (tc 8 9))) (Qh 1 3 7 1 (tc 8 9))))) (zd 8))
def ahC:au:=
 (kg (yL 3) 3 du 6 eh 3 6 5 (y8 33 5 5 5 5 5 5 cK ek (AE .sub ek 1 Ze)) FF)
def atH:au:=
 (zb (y9 du ahC))
def azg:bG Z2 (mP [aP 2 51806000 1 [10] [(6,0),(3,0)],aP 2 51806000 5 [6] [(6,0),(7,0),(3,0)]]) 51=atH:=kr
def aoS:au:=
 (xx ko 3 5 (o8 2) (Jj 3 gV ej (yV 174 (jZ (.mG 3 gV ej 0) (.mG 3 gV ej 1) (.mG 3 gV ej 2)) (C4 4 0 4 4 2) (.nt cK (MB 5 (fC (AQ 5) (jH 3 48 2 3 (C4 4 0 4 4 2) (wT 7)) (wT 2))) (tP 5)))) (jH 3 48 2 3 (C4 4 0 4 4 2) (wT 6)))
def abx:au:=
 (kg (yL 3) 1 du 6 eh 1 6 3 (Ab 171 (eB 3 3 3 3 3 3) (.aQ (wW 3 4) (.nt C5 (.aQ (o8 2) aoS) (wT 2)))) r9)
def amP:au:=
 (yM 2 du abx)
def atI:bG Z2 (mP [aP 0 113 3 [3,11] [(1,3),(1,0)],aP 2 113025008 2 [8]]) 113=amP:=kr
def aby:au:=
 (qP (uG bB 4 0 (kI AI)) 8 C7 4 yX 8 (wP 4 11 .neq 11 1 l6 (yS 3 lF qO (.k .i64 0) (AM 3 lF qO (.test AO l6 (pf 3 lF qO ga (tO 8 9 14)))))) l6)
def abz:au:=
 (qP (uG bB 4 0 (kI AI)) 10 C7 4 yX 10 (wP 4 13 .neq 13 1 l6 (yS 3 p8 (je 13) (.k .i64 0) (AM 3 p8 (je 13) (.test FM l6 (pf 3 p8 (je 13) lF (tO 10 11 16)))))) l6)
def abA:au:=
 (kg wL 9 ve 4 (je 3) 9 4 11 (yS 3 ga qO (.k .i64 0) (AM 3 ga qO (BY AO (rz .neq 3 12 lG l6 (.test AO (r_ lG 1 8 10 1 9 (si 9 14)) (si 9 10))) AO (r_ lG 1 8 10 1 9 (si 9 14)) (si 9 10)))) (BV (ry (lV 3) ve Qi) fX))
def abB:au:=
 (qP CV 7 C7 4 yX 7 (wP 4 9 .neq 9 1 l6 (yS 3 ga tL (.k .i64 0) (AM 3 ga tL (.test AN l6 (pf 3 ga tL iC (fx 7 12)))))) (fE ve ve abA))
def abC:au:=
 (qP CV 5 ve 4 (je 3) 5 (wP 4 7 .neq 7 1 (.aQ C7 aby) (yS 3 g_ (je 7) (.k .i64 0) (AM 3 g_ (je 7) (.test lG (.aQ C7 abz) (pf 3 g_ (je 7) ej (CK 5 10)))))) (.aQ C7 abB))
def amQ:au:=
 (qV 6 (y8 33 0 0 0 0 0 0 bR dU (Dj dU (.i 2) l6 (tN 212 (eB 0 0 0 0 0 0) bW l6 (Qj fw fw l6 (jP bR bB 3 (qx 2 bR gM (Vl 2 4 .neq 9 3 (lV 4) l6 (fE ve C7 (Dj ve C7 l6 (.aQ ve abC)))))))))))
def atJ:bG Z2 (mP [aP 0 171 13 [79] [(9,0),(8,2)],adP 1 171061 3 [(1,13,0)] [(7,0),(8,0)] [(0,55),(0,53),(0,56),(0,7),(1,2)],aP 1 171056 3 [13] [(5,0)] [2]]) 171=amQ:=kr
def ahD:au:=
 (nB 3 3 (Vk 9 0 0 kf (xy .eql 0 1 pn (tK 93 0 2 1 2 (ik 2 (wB bW))) Qm) Qm))
def aoT:jc Z2 (mP []) 400 ab 174=ahD:=kr
def aoU:au:=
 (y7 ko 5 Ja AT 5 6 (p6 95 bW cK 7 (fC eu (MB 5 (fC (AQ 5) eM nz)) (tP 5))) eM)
def aoV:au:=
 (qP ko 3 dQ 3 bS 3 (zf 3 4 9 4 bR (.aQ Ja aoU) nz) bJ)
def amR:au:=
 (kP (y9 dQ aoV))
def atK:bG Z2 (mP [aP 2 215026008 2 [8],aP 0 215 2 [12]]) 215=amR:=kr
def ahE:au:=
 (wC 7 (y9 cw (AG 160 (yH 0 0 0 1 0 2 0 3 (uJ 0 4 0 5 (o5 0 6))) bW cw (yW cT qU (ph .mul (.i 10) qU) (jP (o5 0 6) cw 5 (o6 215 (uG bR 5 0 (kI cT)) (.nt cK (kq 216 (yH 0 0 0 1 0 2 0 3 (uJ 0 4 0 5 (o5 0 6))) cw (.nt eu (yN 101) (yN 100))) (kq 216 (yH 0 0 0 1 0 2 0 3 (uJ 0 4 0 5 (o5 0 6))) cw (.nt eu (AE .add (ph .mul (.i 10) qU) 1 (wB (qy .add (ph .mul (.i 10) qU) 1))) (wB (ph .mul (.i 10) qU)))))))))))
def aoW:jc Z2 (mP []) 400 ab 175=ahE:=kr
def amS:au:=
 (wC 7 (.aQ du (.nr (ph .geq bR du))))
def atL:bG Z2 (mP []) 216=amS:=kr
def ack:au:=
 (y7 ko 13 (kj 12) vm 13 14 (yS 3 ej Jh eY (fC FM (tO 8 9 10) (Ad 2 13))) (Jj 1 lG ga (.bind (.BP 1 lG ga fX) (r_ ga 1 8 10 1 8 (tO 8 14 15)))))
def aIt:au:=
 (y7 (p_ 5) 15 (kj 14) Jh 15 17 (pf 3 (.var 16) vn fX (si 15 18)) (Ql 4 (wA 16 9 (o7 11))))
def adk:au:=
 (qP (Es bB g_ 1) 8 fw 3 AP 8 (uH 3 11 (.idx 1 lG ga) (fC (.mG 1 lG ga 0) (jO 230 (ft 11 11 11) vm (kj 12) ack) (tO 8 9 10))) (Vi 1 24 7 1 10 (qX dU fS dU (.ret AN) (C9 4 (pY vm vm (Ql 4 (r8 ej 9 (o7 11))) (sh gv vm gv (Ql 4 (r8 ej 9 (o7 11))) (jP bW vm 13 (jO 164 (kM 13 13) Jh (kj 14) aIt))))))))
def adS:au:=
 (.loop (ry bB AI (Ld kO 1)) (FH adk))
def ahF:au:=
 (wC 6 (y8 33 0 0 0 0 0 0 bW fw (.bind (.dec 10 fw eY) (yW dU (qy .add dU 1) (.dec 7 (qy .add dU 1) fX) adS))))
def aoX:jc Z2 (mP [aP 0 161 6 [9] [(2,3),(2,0),(1,0),(3,0)] [23],aP 0 161 8 [10,29] [(4,0),(2,3),(2,0)],adP 1 161043 2 [(1,10,0)] [] [(0,36)],aP 1 161068 2 [22] [(1,0)]]) 400 ab 161=ahF:=kr
end Go.Proofs.YtabefplkfkfdfaaGreat

