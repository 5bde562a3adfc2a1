/- A part of the proof, no condition: Retract of the program. -/
import Derived.Test.YtggffkaadeagbaaGreatRuM
import Derived.Test.YtggffkaadeagbaaGreatRuH
open List renaming map_take->axb,replicate->asn,ext_getElem?->auY,getElem?_set->awz,getElem_mem->asb,take_succ_eq_append_getElem->asm,mem_append->asE,take_of_length_le->asV,filter_append->atZ,filter_cons_of_neg->asX,getElem?_drop->atz,getElem?_eq_getElem->ar4,drop_drop->ate,filter_cons_of_pos->as6,drop_set_of_lt->awm,take_length->avO,take_append_of_le_length->avG,take_take->ave
open Go.Proofs.Tryz renaming prog->ar3
open Go.IntKind renaming i64->aso
open Nat renaming add_zero->awr,le_refl->ar9,min_self->axA
open Option.some renaming inj->aus
open Go.Value renaming int->as8
open Go.Instr renaming sameNow->avd
open Option renaming bind_some->asc
set_option linter.all false
namespace Go.Proofs.YtggffkaadeagbaaGreat
open Go Go.Ev
variable{Q:IV→Prop}{k0 k1 k2 k3 k4 k5:List IV→Prop}
def zF:Fa:=⟨0,⟨[],[]⟩,[]⟩
theorem Vx{L:List Fa}{l h:Nat}(h1:l≤h)(h2:h≤L.length):jF 4 (bF L) (iI (l:Nat)) (iI (h:Nat))=some (bF ((L.take h).drop l)):=by
 simp[jF,fa,h1,h2,List.map_drop,axb]
theorem akx{L:List Fa}{l:Nat}(h1:l≤L.length):DL 4 (bF L) (iI (l:Nat)) (.agg [iI 0,iS [],iT [],iL []])=some (bF (L.take l++asn (L.length- l) zF)):=by
 simp[DL,fa,h1,cellsOf,axb,dA,zF]
theorem Ys{L:List Fa}{l:Nat}(h1:l≤L.length):DL 4 (bF L) (iI (l:Nat)) (.agg [.raw (.int .i64 0),.raw (.string ⟨#[]⟩),.tree 4 [],.tree 1 []])=some (bF (L.take l++asn (L.length- l) zF)):=akx h1
theorem CT{α:Type}(l:List α)(j:Nat)(x:α):(l.set j x).take j=l.take j:=by
 apply auY;intro q;simp only[List.getElem?_take,awz]
 grind
theorem acm{L:List Fa}{l:Nat}(h1:l≤L.length):jF 4 (bF L) (iI 0) (iI (l:Nat))=some (bF (L.take l)):=by
 have:=Vx (L:=L) (l:=0) (h:=l) (Nat.zero_le _) h1;simpa using this
def Vy(l:List Fa)(n:Int)(r:Int):Prop:=(r= -1∧∀f∈l,n∉f.j)∨∃i:Nat,r=i∧∃h:i<l.length,(∀f∈l.take i,n∉f.j)∧n∈l[i].j
theorem aky{v0 v2 v3 v4 v5 v6 v7 v8:IV}{l:List Fa}{n:Int}(hl:l.length≤100)(hw:∀f∈l,oP f)(hk:∀r,Vy l n r→k3 [iI r]):
 Sv.sat ar3 CC Q [k0,k1,k2,k3] [v0,iI n,v2,v3,v4,v5,v6,v7,v8,bF l]:=by
 refine ao l.length (fun i (_:Unit)=>[iI i]) (fun i _=>∀f∈l.take i,n∉f.j) () ?_ ?_ fun i _ hi hI=>?_
 ·simp[SE.den]
 ·simp
 by_cases aa:i<l.length
 ·have jv:=aw aa (by omega);simp[SE.den,aa,jv,GW aa,ab,cellsOf];refine⟨_,Vt _ _ (hw _ (asb aa)).2,?_⟩;simp[SE.den,jv];by_cases hc:n∈l[i].j
  ·left;exact⟨hc,hk _ (.inr ⟨i,rfl,aa,hI,hc⟩)⟩
  ·right;refine⟨hc,.mk () rfl (by omega) fun f hf=>?_⟩;rw[asm aa]at hf;rcases asE.1 hf with hf|hf
   ·exact hI f hf
   ·simp at hf;subst hf;exact hc
 ·simp[SE.den,aa];refine hk _ (.inl ⟨rfl,?_⟩);rwa[asV (by omega)]at hI
def J3(l:List Fa)(n:Int)(vs:List IV):Prop:=∃a b,vs=[bF (ct l n),a,b]
theorem zA{l:List Fa}{n:Int}(h:∀f∈l,n∉f.j):ct l n=l:=by
 unfold ct;rw[List.filter_eq_self];intro f hf;simpa using h f hf
theorem akz{v0 v2 v3 v4 v5 v6 v7 v8:IV}{l:List Fa}{n:Int}{i0:Nat}(hl:l.length≤100)(hw:∀f∈l,oP f)(tS:i0<l.length)(h1:∀f∈l.take i0,n∉f.j)(h2:n∈l[i0].j)(hk:∀vs,J3 l n vs→k2 vs):
 Sw.sat ar3 CC Q [k0,k1,k2] [v0,iI n,v2,v3,v4,v5,v6,v7,v8,bF l,iI i0]:=by
 have tT:aso.wrap ((i0:Int)+1)=((i0+1:Nat):Int):=aw tS (by omega);refine eY (fun p:Nat×Nat×List Fa=>[iI p.1,iI p.2.1,bF p.2.2]) (fun p=>p.1≤l.length∧p.2.1<p.1∧p.2.2.length=l.length∧p.2.2.take p.2.1=ct (l.take p.1) n∧p.2.2.drop p.1=l.drop p.1) (fun p=>l.length- p.1) (i0+1,i0,l) ?_ ?_ fun⟨i,j,r⟩ ⟨hi,hj,hr,hA,hB⟩=>?_
 ·simp[SE.den,tT]
 ·refine⟨by simp;omega,by simp,rfl,?_,rfl⟩;show l.take i0=ct (l.take (i0+1)) n;rw[asm tS,ct,atZ,asX (by simpa using h2),←ct,zA h1];simp
 simp only at hi hj hr hA hB;by_cases aa:i<l.length
 ·have Po:i<r.length:=by omega
  have Pp:j<r.length:=by omega
  have RR:r[i]=l[i]:=by
   have h3:=congrArg (fun q=>q[0]?) hB;simp only[atz,awr]at h3;rw[ar4 Po,ar4 aa]at h3;exact aus h3
  have eO:=aw aa (by omega);have WK:=aw Pp (by omega);have uC:=MJ (l:=r) (i:=j) l[i] Pp;have xY:=GW Po;rw[RR]at xY;generalize kN:r.set j l[i]=r1 at uC;simp[SE.den,Po,xY,ab,cellsOf];refine⟨_,Vt _ _ (hw _ (asb aa)).2,?_⟩;simp[SE.den,xY,GW Pp,ab,cellsOf,uC,eO,WK];by_cases hc:n∈l[i].j
  ·right;refine⟨hc,.mk (i+1,j,r) (by simp) ⟨by omega,by simp;omega,hr,?_,?_⟩ (by simp;omega)⟩
   ·show r.take j=ct (l.take (i+1)) n;rw[asm aa,ct,atZ,asX (by simpa using hc),←ct,hA];simp
   ·show r.drop (i+1)=l.drop (i+1);rw[←ate (i:=1) (j:=i),←ate (i:=1) (j:=i),hB]
  ·left;refine⟨hc,.mk (i+1,j+1,r1) (by simp) ⟨by omega,by simp;omega,by subst kN;simp[hr],?_,?_⟩ (by simp;omega)⟩
   ·show r1.take (j+1)=ct (l.take (i+1)) n;subst kN;have KC:j<(r.set j l[i]).length:=by simp;omega
    rw[asm aa,ct,atZ,as6 (by simpa using hc),←ct,←hA,asm KC,CT];simp
   ·show r1.drop (i+1)=l.drop (i+1);subst kN;rw[awm (by omega),←ate (i:=1) (j:=i),←ate (i:=1) (j:=i),hB]
 ·have FF:i=l.length:=by omega
  subst FF;rw[avO]at hA;have dT:¬(l.length<r.length):=by omega
  have c9:=Vx (L:=r) (l:=j) (h:=r.length) (by omega) (ar9 _);have db:=Ys (L:=r) (l:=j) (by omega);have eu:j≤(r.take j++asn (r.length- j) zF).length:=by simp;omega
  have Pq:=acm (L:=r.take j++asn (r.length- j) zF) (l:=j) eu
  have ue:(r.take j++asn (r.length- j) zF).take j=ct l n:=by
   rw[avG (by simp;omega),ave,axA,hA]
  rw[ue]at Pq;generalize r.take j++asn (r.length- j) zF=r2 at db Pq;simp[SE.den,dT,c9,db,Pq]
  first|exact hk _ ⟨_,_,rfl⟩|(refine hk _ ⟨_,_,?_⟩;simp)
theorem agy{v0 v2 v3 v4 v5 v6 v7 v8:IV}{l:List Fa}{n:Int}(hl:l.length≤100)(hw:∀f∈l,oP f)(hk:∀vs,J3 l n vs→k2 vs):
 Pb.sat ar3 CC Q [k0,k1,k2] [v0,iI n,v2,v3,v4,v5,v6,v7,v8,bF l]:=by
 refine fJ (fun vs=>∃r,vs=[iI r]∧Vy l n r) ?_ ?_
 ·simp[SE.den];exact aky hl hw fun r hr=>⟨r,rfl,hr⟩
 ·rintro vs ⟨r,rfl,hr⟩;refine⟨rfl,?_⟩;rcases hr with⟨rfl,h⟩|⟨i,rfl,hi,h1,h2⟩
  ·simp[SE.den];exact hk _ ⟨_,_,by rw[zA h]⟩
  ·have:¬((i:Int)= -1):=by omega
   simp[SE.den,this];exact akz hl hw hi h1 h2 hk
end Go.Proofs.YtggffkaadeagbaaGreat
namespace Go.Proofs.YtggffkaadeagbaaGreat
open Go Go.Ev
variable{Q:IV→Prop}{k0 k1 k2 k3 k4 k5:List IV→Prop}
theorem agz{v0 v2 v3 v4 v5 v6 v7 v9 v10 v11 v12:IV}{l:List Fa}{n:Int}(hl:l.length≤100)(hw:∀f∈l,oP f)(hk:∀r,Vy l n r→k3 [iI r]):
 Pc.sat ar3 CC Q [k0,k1,k2,k3] [v0,iI n,v2,v3,v4,v5,v6,v7,bF l,v9,v10,v11,v12]:=by
 refine ao l.length (fun i (_:Unit)=>[iI i]) (fun i _=>∀f∈l.take i,n∉f.j) () ?_ ?_ fun i _ hi hI=>?_
 ·simp[SE.den]
 ·simp
 by_cases aa:i<l.length
 ·have jv:=aw aa (by omega);simp[SE.den,aa,jv,GW aa,ab,cellsOf];refine⟨_,Vt _ _ (hw _ (asb aa)).2,?_⟩;simp[SE.den,jv];by_cases hc:n∈l[i].j
  ·left;exact⟨hc,hk _ (.inr ⟨i,rfl,aa,hI,hc⟩)⟩
  ·right;refine⟨hc,.mk () rfl (by omega) fun f hf=>?_⟩;rw[asm aa]at hf;rcases asE.1 hf with hf|hf
   ·exact hI f hf
   ·simp at hf;subst hf;exact hc
 ·simp[SE.den,aa];refine hk _ (.inl ⟨rfl,?_⟩);rwa[asV (by omega)]at hI
theorem agA{v0 v2 v3 v4 v5 v6 v7 v9 v10 v11 v12:IV}{l:List Fa}{n:Int}{i0:Nat}(hl:l.length≤100)(hw:∀f∈l,oP f)(tS:i0<l.length)(h1:∀f∈l.take i0,n∉f.j)(h2:n∈l[i0].j)(hk:∀vs,J3 l n vs→k2 vs):
 Pd.sat ar3 CC Q [k0,k1,k2] [v0,iI n,v2,v3,v4,v5,v6,v7,bF l,v9,v10,v11,v12,iI i0]:=by
 have tT:aso.wrap ((i0:Int)+1)=((i0+1:Nat):Int):=aw tS (by omega);refine eY (fun p:Nat×Nat×List Fa=>[iI p.1,iI p.2.1,bF p.2.2]) (fun p=>p.1≤l.length∧p.2.1<p.1∧p.2.2.length=l.length∧p.2.2.take p.2.1=ct (l.take p.1) n∧p.2.2.drop p.1=l.drop p.1) (fun p=>l.length- p.1) (i0+1,i0,l) ?_ ?_ fun⟨i,j,r⟩ ⟨hi,hj,hr,hA,hB⟩=>?_
 ·simp[SE.den,tT]
 ·refine⟨by simp;omega,by simp,rfl,?_,rfl⟩;show l.take i0=ct (l.take (i0+1)) n;rw[asm tS,ct,atZ,asX (by simpa using h2),←ct,zA h1];simp
 simp only at hi hj hr hA hB;by_cases aa:i<l.length
 ·have Po:i<r.length:=by omega
  have Pp:j<r.length:=by omega
  have RR:r[i]=l[i]:=by
   have h3:=congrArg (fun q=>q[0]?) hB;simp only[atz,awr]at h3;rw[ar4 Po,ar4 aa]at h3;exact aus h3
  have eO:=aw aa (by omega);have WK:=aw Pp (by omega);have uC:=MJ (l:=r) (i:=j) l[i] Pp;have xY:=GW Po;rw[RR]at xY;generalize kN:r.set j l[i]=r1 at uC;simp[SE.den,Po,xY,ab,cellsOf];refine⟨_,Vt _ _ (hw _ (asb aa)).2,?_⟩;simp[SE.den,xY,GW Pp,ab,cellsOf,uC,eO,WK];by_cases hc:n∈l[i].j
  ·right;refine⟨hc,.mk (i+1,j,r) (by simp) ⟨by omega,by simp;omega,hr,?_,?_⟩ (by simp;omega)⟩
   ·show r.take j=ct (l.take (i+1)) n;rw[asm aa,ct,atZ,asX (by simpa using hc),←ct,hA];simp
   ·show r.drop (i+1)=l.drop (i+1);rw[←ate (i:=1) (j:=i),←ate (i:=1) (j:=i),hB]
  ·left;refine⟨hc,.mk (i+1,j+1,r1) (by simp) ⟨by omega,by simp;omega,by subst kN;simp[hr],?_,?_⟩ (by simp;omega)⟩
   ·show r1.take (j+1)=ct (l.take (i+1)) n;subst kN;have KC:j<(r.set j l[i]).length:=by simp;omega
    rw[asm aa,ct,atZ,as6 (by simpa using hc),←ct,←hA,asm KC,CT];simp
   ·show r1.drop (i+1)=l.drop (i+1);subst kN;rw[awm (by omega),←ate (i:=1) (j:=i),←ate (i:=1) (j:=i),hB]
 ·have FF:i=l.length:=by omega
  subst FF;rw[avO]at hA;have dT:¬(l.length<r.length):=by omega
  have c9:=Vx (L:=r) (l:=j) (h:=r.length) (by omega) (ar9 _);have db:=Ys (L:=r) (l:=j) (by omega);have eu:j≤(r.take j++asn (r.length- j) zF).length:=by simp;omega
  have Pq:=acm (L:=r.take j++asn (r.length- j) zF) (l:=j) eu
  have ue:(r.take j++asn (r.length- j) zF).take j=ct l n:=by
   rw[avG (by simp;omega),ave,axA,hA]
  rw[ue]at Pq;generalize r.take j++asn (r.length- j) zF=r2 at db Pq;simp[SE.den,dT,c9,db,Pq]
  first|exact hk _ ⟨_,_,rfl⟩|(refine hk _ ⟨_,_,?_⟩;simp)
theorem agB{v0 v2 v3 v4 v5 v6 v7 v9 v10 v11 v12:IV}{l:List Fa}{n:Int}(hl:l.length≤100)(hw:∀f∈l,oP f)(hk:∀vs,J3 l n vs→k2 vs):
 Pe.sat ar3 CC Q [k0,k1,k2] [v0,iI n,v2,v3,v4,v5,v6,v7,bF l,v9,v10,v11,v12]:=by
 refine fJ (fun vs=>∃r,vs=[iI r]∧Vy l n r) ?_ ?_
 ·simp[SE.den];exact agz hl hw fun r hr=>⟨r,rfl,hr⟩
 ·rintro vs ⟨r,rfl,hr⟩;refine⟨rfl,?_⟩;rcases hr with⟨rfl,h⟩|⟨i,rfl,hi,h1,h2⟩
  ·simp[SE.den];exact hk _ ⟨_,_,by rw[zA h]⟩
  ·have:¬((i:Int)= -1):=by omega
   simp[SE.den,this];exact agA hl hw hi h1 h2 hk
def my(k:Int):IV:=.av [iI k,.agg []]
abbrev iM(ks:List Int):IV:=.av (ks.map my)
def Ec(ks:List Int)(k:Int):List Int:=if k∈ks then ks else ks++[k]
theorem Ly:∀ks:List Int,nM (ks.map my)=some (ks.map (as8 .i64))
 |[]=>rfl
 |k::ks=>by simp[nM,my,Ev.keyOf,Ly ks]
theorem Pr(k:Int):∀(ks:List Int) (n:Nat),(k∈ks→∃i,nowAt (.int .i64) (.int .i64 k) (ks.map (as8 .i64)) n=some (some (n+i))∧ks[i]?=some k)∧(k∉ks→nowAt (.int .i64) (.int .i64 k) (ks.map (as8 .i64)) n=some none)
 |[],n=>by simp[nowAt]
 |a::ks,n=>by
  obtain⟨h1,h2⟩:=Pr k ks (n+1);by_cases h:k=a
  ·subst h;refine⟨fun _=>⟨0,by simp[nowAt,avd],rfl⟩,fun hn=>absurd (by simp) hn⟩
  ·refine⟨fun hm=>?_,fun hn=>?_⟩
   ·obtain⟨i,g1,g2⟩:=h1 (by simpa[h]using hm);have hb:(k==a)=false:=by simpa using h
    exact⟨i+1,by simp[nowAt,avd,hb,g1];omega,by simpa using g2⟩
   ·have hb:(k==a)=false:=by simpa using h
    simp[nowAt,avd,hb,h2 (fun hm=>hn (by simp[hm]))]
theorem abd:ar3.underlying 3=some (.int .i64):=by kernel_rfl
theorem pB(ks:List Int)(k:Int):(k∈ks→∃i,fc ar3 3 (ks.map my) (iI k)=some (some i)∧ks[i]?=some k)∧(k∉ks→fc ar3 3 (ks.map my) (iI k)=some none):=by
 have h:fc ar3 3 (ks.map my) (iI k)=nowAt (.int .i64) (.int .i64 k) (ks.map (as8 .i64)) 0:=by
  unfold fc;rw[Ly];simp[ER,abd,Ev.keyOf]
 rw[h];have:=Pr k ks 0;simpa using this
theorem abe{α:Type}{l:List α}{i:Nat}{a:α}(h:l[i]?=some a):l.set i a=l:=by
 apply auY;intro q;simp only[awz]
 grind
theorem AU{ν:List IV}{m key:SE}{ks:List Int}{k:Int}(h1:m.den ar3 ν=some (iM ks))(h2:key.den ar3 ν=some (iI k)):(SE.ins 3 m key .an).den ar3 ν=some (iM (Ec ks k)):=by
 simp only[SE.den,h1,h2,asc];by_cases hm:k∈ks
 ·obtain⟨i,g1,g2⟩:=(pB ks k).1 hm;rw[g1];simp only[Ec,if_pos hm];rw[abe];rw[List.getElem?_map,g2];rfl
 ·rw[(pB ks k).2 hm];simp[Ec,if_neg hm,my]
theorem J4{ν:List IV}{m key:SE}{ks:List Int}{k:Int}(h1:m.den ar3 ν=some (iM ks))(h2:key.den ar3 ν=some (iI k)):(SE.has 3 m key).den ar3 ν=some (iB (decide (k∈ks))):=by
 simp only[SE.den,h1,h2,asc];by_cases hm:k∈ks
 ·obtain⟨i,g1,g2⟩:=(pB ks k).1 hm;rw[g1];simp[hm]
 ·rw[(pB ks k).2 hm];simp[hm]
theorem J5{ν:List IV}{m key:SE}{ks:List Int}{k:Int}(h1:m.den ar3 ν=some (iM ks))(h2:key.den ar3 ν=some (iI k)):(SE.qL 0 (.get 3 m key .an)).den ar3 ν=some (.agg []):=by
 simp only[SE.den,h1,h2,asc];by_cases hm:k∈ks
 ·obtain⟨i,g1,g2⟩:=(pB ks k).1 hm;rw[g1];simp[g2,my]
 ·rw[(pB ks k).2 hm];simp
theorem abf{ks:List Int}{k a:Int}:a∈Ec ks k↔a∈ks∨a=k:=by
 unfold Ec;split
 ·constructor
  ·exact .inl
  ·rintro(h|rfl)<;>assumption
 ·simp
theorem akA{v0 v1 v6 v4:IV}{i:Nat}{x:Ap}{ks:List Int}(hi:i<100)(hl:x.gone.length≤100)(hk:∀ks',(∀a,a∈ks'↔a∈ks∨a∈x.gone)→k0 [iI (i+1:Nat),iM ks',v4]):
 Sp.sat ar3 CC Q [k0] [v0,v1,iI i,iM ks,v4,.agg [iI x.rule,iL x.dw,iL x.gone,iL x.made,iB x.failed,iL x.fK],v6]:=by
 have eO:=aw hi (by omega);refine ao x.gone.length (fun j (q:List Int)=>[iI j,iM q]) (fun j q=>∀a,a∈q↔a∈ks∨a∈x.gone.take j) ks ?_ ?_ fun j q hj hq=>?_
 ·simp[SE.den]
 ·simp
 by_cases aa:j<x.gone.length
 ·have jv:=aw aa (by omega);have xY:cq 1 (iL x.gone) (iI (j:Nat))=some (iI x.gone[j]):=Yn (ar4 aa);simp[SE.den,aa,ab,xY];have nC:=AU (ν:=[iM q,iI x.gone[j]]) (m:=.var 0) (key:=.var 1) (ks:=q) (k:=x.gone[j]) rfl rfl;simp[SE.den]at nC;simp only[iI]at nC;refine⟨_,nC,?_⟩;simp[SE.den,jv];refine .mk (Ec q x.gone[j]) (by simp) (by omega) fun a=>?_;rw[abf,hq a,asm aa,asE];simp[or_assoc]
 ·rw[asV (by omega)]at hq;have:=hk q hq;simp[SE.den,aa,ab,eO]
  first|exact this|simpa using this
theorem agC{v2 v3 v5 v6 v7 v9 v11 v12 a b c:IV}{n nx gv:Int}{lg:List Ap}{l o:List Fa}(hl:l.length≤100)(hw:∀f∈l,oP f)
 (hQ:Q (.av [.agg [bF o,bF (ct l n),nR lg,iI nx,iI gv],iI 0])):
 Pf.sat ar3 CC Q [k0,k1] [.agg [a,b,c,iI nx,iI gv],iI n,v2,v3,nR lg,v5,v6,v7,bF l,v9,bF o,v11,v12]:=by
 refine fJ (J3 l n) ?_ ?_
 ·exact agB hl hw fun vs h=>h
 ·rintro vs ⟨a',b',rfl⟩;refine⟨rfl,?_⟩;simp[SE.den,ab]
  first|exact hQ|simpa using hQ
theorem agD{v2 v3 v5 v6 v7 a b c:IV}{n nx gv:Int}{lg:List Ap}{l o:List Fa}(hl:l.length≤100)(hw:∀f∈l,oP f)(Ry:o.length≤100)(how:∀f∈o,oP f)
 (hQ:Q (.av [.agg [bF (ct o n),bF (ct l n),nR lg,iI nx,iI gv],iI 0])):
 Pj.sat ar3 CC Q [k0,k1] [.agg [a,b,c,iI nx,iI gv],iI n,v2,v3,nR lg,v5,v6,v7,bF l,bF o]:=by
 refine fJ (J3 o n) ?_ ?_
 ·exact agy Ry how fun vs h=>h
 ·rintro vs ⟨a',b',rfl⟩;exact⟨rfl,agC hl hw hQ⟩
theorem agE{v2 v3 v5 v6 a b c:IV}{n nx gv:Int}{lg:List Ap}{l o:List Fa}(hl:l.length≤100)(hw:∀f∈l,oP f)(Ry:o.length≤18)(how:∀f∈o,oP f)
 (hQ:Q (.av [.agg [bF (ct (ee jd [] o) n),bF (ct l n),nR lg,iI nx,iI gv],iI 0])):
 Pk.sat ar3 CC Q [k0,k1] [.agg [a,b,c,iI nx,iI gv],iI n,v2,v3,nR lg,v5,v6,bF o,bF l]:=by
 refine fJ (fun vs=>vs=[bF (ee jd [] o)]) ?_ ?_
 ·simp[SE.den];exact akw Ry rfl
 ·rintro vs rfl;refine⟨rfl,agD hl hw (by rw[xo];simp;omega) (fun f hf=>how f ?_) hQ⟩
  have:∀(A o':List Fa),f∈ee jd o' A→f∈o'∨f∈A:=by
   intro A;induction A with
   |nil=>intro o' h;exact .inl h
   |cons x A ih=>
    intro o' h;rcases ih _ h with h|h
    ·rcases rJ.1 h with rfl|h
     ·exact .inr (by simp)
     ·exact .inl h
    ·exact .inr (by simp[h])
  simpa using this o [] hf
def lV(m:Me)(n:Int):Me×Int:=
 if n<1∨m.given<n then(⟨[],[],[],0,0⟩,13)else
 (⟨ct (ee jd [] (m.facts++m.past.filter fun f=>decide (f.id∈gU m n))) n,ct (m.past.filter fun f=> !decide (f.id∈gU m n)) n,m.log.filter (fun x=> !decide (n∈x.fK)),m.next,m.given⟩,0)
structure Ps(m:Me):Prop where
 w:CS m
 fp:m.facts.length+m.past.length≤18
 l:m.log.length≤12
 g:∀x∈m.log,x.gone.length≤8
theorem SmM.two{m:Me}(h:SmM m):Ps m:=⟨h.w,by have:=h.f;have:=h.p;omega,h.l,h.g⟩
end Go.Proofs.YtggffkaadeagbaaGreat
