/- A part of the proof, no condition: Right of the program and of the reference agree; what lies in memory. -/
import Derived.Test.YtggffkaadeagbaaGreatRkN
import Derived.Test.YtggffkaadeagbaaGreatEvJ
import Derived.Test.YtggffkaadeagbaaGreatRuA
import Derived.Test.YtggffkaadeagbaaGreatRgR
import Derived.Test.YtggffkaadeagbaaGreatRows
open List renaming length_pos_iff->aur,getElem_mem->asO,find?_some->auK,getElem_of_mem->auG,pairwise_iff_getElem->auY,mem_append->as8,mem_append_left->atz,mem_append_right->atx,mem_map->ath,take_of_length_le->as0,take_succ_eq_append_getElem->asX,mem_cons->aty,getElem?_eq_getElem->asL,ofFn->avW
open Go.Proofs.Tryz renaming prog->asK
open Go.Proofs.YtggffkaadeagbaaGreat.Rows renaming uptoBulkAll->auh
open Go.DataW renaming trod->atL
open List.cons renaming inj->avn
open Classical renaming axiomOfChoice->ayr
open Nat renaming mul_comm->axb,le_trans->atd
open Option.some renaming injEq->asP
open Option renaming some->aa,none->ah
open Bool renaming true->ab,false->af
set_option linter.all false
namespace Go.Proofs.YtggffkaadeagbaaGreat
open Go Go.Ev
theorem v36(p:Pg)(hd:Sm p.decls)(f:Fa)(hf:yX f)(g:Int):∃b,(b=ab↔pM p.decls g f)/\CC 36 af [dm p,ef f,iI g] (iB b):=by
 refine CC.qP _ aq3 n36 t36 (by intro x hx;simp at hx;rcases hx with rfl|rfl|rfl;exact fx p;exact Fc f;exact .raw _) (by rfl) ?_;have o1:=λo:pM p.decls g f=>o.a;have o2:=λo:pM p.decls g f=>o.v;have o3:=λo:pM p.decls g f=>o.d;have o4:=λo:pM p.decls g f=>o.n;have o5:=λo:pM p.decls g f=>o.j;have o6:=λo:pM p.decls g f=>o.g;have oo:=λa b c d e f'=>(⟨a,b,c,d,e,f'⟩:pM p.decls g f);generalize pM p.decls g f=O at o1 o2 o3 o4 o5 o6 oo⊢;have Hl:=v45 f.a hf.1;have q9:=Hj p.decls f.a.s f.a.ts.length hd;obtain⟨b96,ajG,h96⟩:=v96 f.j hf.2;simp only[dm,ef];simp[aet,SE.den,aj];refine⟨_,Hl,?_⟩;cases b45:cC f.a<;>simp
 ·exactλo=>by have:=o1 o;simp[b45]at this
 refine⟨_,US af f.a hf.1 (lB b45),?_⟩;simp;by_cases z:varsOf f.a.ts=[]
 rotate_left
 ·right;exact⟨z,λo=>z (o2 o)⟩
 left;refine⟨z,_,q9,?_⟩;cases b47:br p.decls f.a.s f.a.ts.length<;>simp
 ·exactλo=>by have:=o3 o;simp[b47]at this
 by_cases z2:f.j=[]
 ·right;exact⟨z2,λo=>o4 o z2⟩
 left;refine⟨aur.2 z2,_,h96,?_⟩;cases b96<;>simp
 ·exactλo=>by have:=ajG.2 (o5 o);cases this
 have hj:=ajG.1 rfl;have hp:0<f.j.length:=aur.2 z2;have j1:=dN (l:=f.j) (i:=f.j.length- 1) (by omega);have jw:=Gy hp (Nat.le_refl _) hf.2;have gh:=asO (l:=f.j) (n:=f.j.length- 1) (by omega);have z7:=Ih hj.2 (by omega);simp only[iL]at j1;simp[j1,jw];exact⟨λh=>oo b45 z b47 z2 hj λj fZ=>by have:=z7 j fZ;omega,λo=>o6 o _ gh⟩
abbrev DD(m:Me):Prop:=∀f∈m.facts,∀g∈m.past,g.id≠f.id
abbrev Q9(p:Pg)(m:Me):Prop:=(∀x∈m.log,gN p m x)/\(∀f∈m.past,fM (m.log.map Ap.gone) f.id=1)/\∀k,fM (m.log.map Ap.made) k<=1
theorem SH{l:List Fa}(hs:mJ l){f:Fa}(hf:f∈l):findF l f.id=aa f:=by
 obtain⟨g,hg⟩:=SC.2 ⟨f,hf,rfl⟩;have h1:=nQ hg;have h2:g.id=f.id:=by have:=auK hg;simpa using this
 rw[hg];obtain⟨i,hi,rfl⟩:=auG hf;obtain⟨j,hj,rfl⟩:=auG h1;have hp:=auY.1 hs;rcases Nat.lt_trichotomy i j with h|h|h
 ·have:=hp i j hi hj h;omega
 ·subst h;rfl
 ·have:=hp j i hj hi h;omega
theorem an4{m:Me}(h1:mJ m.facts)(h2:mJ m.past)(hd:DD m):Lk m (m.facts++m.past):=by
 refine⟨λf hf=>?_,λk hk=>?_⟩
 ·unfold cR;rcases as8.1 hf with hf|hf
  ·rw[SH h1 hf]
  ·cases he:findF m.facts f.id with
   |some g=>
    have h3:=nQ he;have h4:g.id=f.id:=by have:=auK he;simpa using this
    exact absurd h4.symm (hd g h3 f hf)
   |none=>exact SH h2 hf
 ·unfold cR
  have g1:findF m.facts k=ah:=by
   cases he:findF m.facts k with
   |none=>rfl
   |some g=>exact absurd (by have:=auK he;simpa using this) (hk g (atz _ (nQ he)))
  rw[g1];cases he:findF m.past k with
  |none=>rfl
  |some g=>exact absurd (by have:=auK he;simpa using this) (hk g (atx _ (nQ he)))
section
variable{k0 k1 k2:List IV->Prop}{x0 x1 x2 x3 x4 x5 x6 x7 x8 eD:IV}{O:Prop}
theorem an5(p:Pg)(GZ:p.rules.length<=8)(hr:∀r∈p.rules,r.keep.length+r.remove.length<=3/\0<r.keep.length+r.remove.length)(m:Me)(hm:q8 m)(fs:List Fa)(hL:Lk m fs)(yG:∀f∈fs,Gd f)(ks:List Int)(ey:∀v,v∈ks↔∃f∈m.past,f.id=v)(hR:Q9 p m↔O):
 Se.sat asK CC (ou λb=>b=ab↔O) [k0,k1,k2] [aP p.decls p.rules,aM m,x2,x3,x4,x5,x6,x7,x8,DN fs,eD,iM ks]:=by
 have hl:=hm.l;have HH:=GI (m.log.map Ap.gone)
 have jc:∀(F:Ap->List Int),(∀x∈m.log,(F x).length<=100)->∀k i,i<=12->(0:Int)<=(fM ((m.log.map F).take i) k:Nat)/\((fM ((m.log.map F).take i) k:Nat):Int)<=100000:=λF hF k i hi=>by
  have:=GI (m.log.map F) k (by simp;omega) (λl hl=>by obtain⟨x,hx,rfl⟩:=ath.1 hl;exact hF x hx) i;have:100*i<=100*12:=Nat.mul_le_mul_left _ hi;omega
 have bG:=jc Ap.gone λx hx=>by have:=(hm.x x hx).g;omega
 have bM:=jc Ap.made λx hx=>by have:=(hm.x x hx).m;omega
 clear jc HH;refine aw m.log.length (λj (q:List (Int×Int)×List (Int×Int))=>[iI j,pK q.1,pK q.2]) (λj q=>(∀x∈m.log.take j,gN p m x)/\fY q.1 (λk=>(fM ((m.log.map Ap.gone).take j) k:Nat))/\fY q.2 (λk=>(fM ((m.log.map Ap.made).take j) k:Nat))) ([],[]) ?_ ?_ λj q hj hI=>?_
 ·simp[SE.den,aj]
 ·exact⟨by simp,fY.nil.ext λk=>by simp[fM],fY.nil.ext λk=>by simp[fM]⟩
 obtain⟨oT,iR,rS⟩:=hI;by_cases ai:j<m.log.length
 ·have hw:=aD ai (by omega);have gh:=asO ai
  have eG:∀k,(fM ((m.log.map Ap.gone).take (j+1)) k:Int)=(fM ((m.log.map Ap.gone).take j) k:Nat)+((m.log[j]).gone.count k:Nat):=λk=>by
   rw[Ai (by simpa using ai)];simp
  have eM:∀k,(fM ((m.log.map Ap.made).take (j+1)) k:Int)=(fM ((m.log.map Ap.made).take j) k:Nat)+((m.log[j]).made.count k:Nat):=λk=>by
   rw[Ai (by simpa using ai)];simp
  have hi6:=an3 (Q':=ou λb=>b=ab↔O) (k0:=k0) (k1:=k1) (k2:=k2) (k3:=Hc m.log.length (λj (q:List (Int×Int)×List (Int×Int))=>[iI j,pK q.1,pK q.2]) (λj q=>(∀x∈m.log.take j,gN p m x)/\fY q.1 (λk=>(fM ((m.log.map Ap.gone).take j) k:Nat))/\fY q.2 (λk=>(fM ((m.log.map Ap.made).take j) k:Nat))) j) (x1:=aM m) (x2:=x2) (x3:=x3) (x4:=x4) (x5:=x5) (x6:=x6) (x7:=x7) (x8:=x8) (eD:=eD) p GZ hr hL yG m.log[j] (hm.x _ gh) ks ey j (by omega) q.1 q.2 iR (λk=>bG k j (by omega)) rS (λk=>bM k j (by omega))
   (λhe p' q' h1 h2=>.mk (p',q') rfl (by omega) ⟨aC ai oT he,h1.ext λk=>(eG k).symm,h2.ext λk=>(eM k).symm⟩) (λhn=>by simp;exactλo=>hn ((hR.2 o).1 _ gh))
  simp[SE.den,ai,acI ai,aj];exact hi6
 ·have hA:=aK ai oT;rw[as0 (by simp;omega)]at iR rS;have h8:=anV (x0:=aP p.decls p.rules) (x1:=aM m) (x2:=x2) (x3:=x3) (x4:=x4) (x5:=x5) (x6:=x6) (x7:=x7) (x8:=x8) (x9:=DN fs) (eD:=eD) (jg:=iI j) ks q.1 q.2 iR (k0:=λ_=>False) (k1:=λ_=>False) (k2:=λ_=>False) (k3:=λ_=>False)
  have hz:ou (λb=>b=ab↔O) (iB (decide (∀k∈ks,((fM (m.log.map Ap.gone) k:Nat):Int)=1)&&decide (∀c∈q.2,c.2<=1))):=by
   rw[afA,Bool.and_eq_true,decide_eq_true_iff,decide_eq_true_iff,rS.le1,<-hR]
   have e1:(∀k∈ks,((fM (m.log.map Ap.gone) k:Nat):Int)=1)↔∀f∈m.past,fM (m.log.map Ap.gone) f.id=1:=
    ⟨λh f hf=>by have:=h f.id ((ey _).2 ⟨f,hf,rfl⟩);omega,λh k hk=>by obtain⟨f,hf,rfl⟩:=(ey k).1 hk;have:=h f hf;omega⟩
   have e2:(∀k,((fM (m.log.map Ap.made) k:Nat):Int)<=1)↔∀k,fM (m.log.map Ap.made) k<=1:=⟨λh k=>by have:=h k;omega,λh k=>by have:=h k;omega⟩;rw[e1,e2];exact⟨λh=>⟨hA,h⟩,λh=>h.2⟩
  simp[SE.den,ai,aj,mA];exact⟨_,hz,h8⟩
theorem ajH(p:Pg)(GZ:p.rules.length<=8)(hr:∀r∈p.rules,r.keep.length+r.remove.length<=3/\0<r.keep.length+r.remove.length)(m:Me)(hm:q8 m)(fs:List Fa)(hL:Lk m fs)(yG:∀f∈fs,Gd f)(hR:Q9 p m↔O):
 NH.sat asK CC (ou λb=>b=ab↔O) [k0,k1] [aP p.decls p.rules,aM m,x2,x3,x4,x5,x6,x7,x8,DN fs]:=by
 have hl:=hm.p;refine aw m.past.length (λj (q:List Int)=>[iI j,iM q]) (λj q=>∀v,v∈q↔∃f∈m.past.take j,f.id=v) [] ?_ (by simp) λj q hj hI=>?_
 ·simp[SE.den,aj]
 by_cases ai:j<m.past.length
 ·simp[SE.den,ai,yU ai,aj,cellsOf,aA]
  exact anW j (by omega) q _ λq' wo=>.mk q' rfl (by omega) λv=>by
   rw[wo,hI,asX ai];simp only[as8,List.mem_singleton];exact⟨λh=>h.elim (λ⟨f,h1,h2⟩=>⟨f,.inl h1,h2⟩) λh=>⟨_,.inr rfl,h.symm⟩,λ⟨f,h1,h2⟩=>h1.elim (λh=>.inl ⟨f,h,h2⟩) λh=>.inr (by rw[<-h2,h])⟩
 ·rw[as0 (by omega)]at hI;simp[SE.den,ai,aj];exact an5 p GZ hr m hm fs hL yG q hI hR
def nB(l:List Fa)(j:Nat)(la:Int):Prop:=(j=0/\la=0)\/∃(h:j- 1<l.length),0<j/\la=l[j- 1].id
theorem nB.le{l:List Fa}{j:Nat}{la:Int}(h:nB l j la)(hs:mJ (l.take j))(hj:j<=l.length):∀f∈l.take j,f.id<=la:=by
 intro f hf;rcases h with⟨rfl,rfl⟩|⟨h,h0,rfl⟩
 ·simp at hf
 ·obtain⟨i,hi,rfl⟩:=auG hf;simp at hi;rw[List.getElem_take];by_cases e:i=j- 1
  ·subst e;exact Int.le_refl _
  ·have:=auY.1 hs i (j- 1) (by simp;omega) (by simp;omega) (by omega);simp at this;omega
theorem nB.no{l:List Fa}{j:Nat}{la:Int}(h:nB l j la)(ai:j<l.length)(hle:l[j].id<=la){ds:List De}{n g:Int}:¬iJ ds n g l:=λo=>by
 rcases h with⟨rfl,rfl⟩|⟨h,h0,rfl⟩
 ·have:=(o.i _ (asO ai)).1;omega
 ·exact aa8 ai h0 hle o.s
theorem nB.ge{l:List Fa}{j:Nat}{la:Int}(h:nB l j la)(hi:∀f∈l.take j,1<=f.id)(hj:j<=l.length):0<=la:=by
 rcases h with⟨rfl,rfl⟩|⟨h,h0,rfl⟩
 ·omega
 ·have:=hi l[j- 1] (List.mem_take_iff_getElem.2 ⟨j- 1,by omega,rfl⟩);omega
theorem nB.step{l:List Fa}{j:Nat}(ai:j<l.length):nB l (j+1) l[j].id:=.inr ⟨by simpa using ai,by omega,rfl⟩
theorem nB.srt{l:List Fa}{j:Nat}{la:Int}(h:nB l j la)(ai:j<l.length)(zi:¬l[j].id<=la)(hs:mJ (l.take j)):mJ (l.take (j+1)):=
 Ii ai hs λh0 h'=>by
  rcases h with⟨rfl,rfl⟩|⟨h,_,rfl⟩
  ·omega
  ·omega
theorem ajI(p:Pg)(hp:yW p)(hr:∀r∈p.rules,r.keep.length+r.remove.length<=3/\0<r.keep.length+r.remove.length)(m:Me)(hm:q8 m)(hn:∀f∈m.facts++m.past,yX f)(EP:iJ p.decls m.next m.given m.facts)(hR:(iJ p.decls m.next m.given m.past/\DD m/\Q9 p m)↔O):
 NI.sat asK CC (ou λb=>b=ab↔O) [k0] [aP p.decls p.rules,aM m,x2,x3,x4,DN m.facts]:=by
 have hl:=hm.p;have hd:=hp.d;refine aw m.past.length (λj (q:Int×Bool×List Fa)=>[iI j,iI q.1,iB q.2.1,DN q.2.2]) (λj q=>q.2.2=m.facts++m.past.take j/\nB m.past j q.1/\mJ (m.past.take j)/\(∀f∈m.past.take j,1<=f.id/\f.id<m.next)/\(∀f∈m.past.take j,pM p.decls m.given f)/\∀f∈m.facts,∀g∈m.past.take j,g.id≠f.id) (0,af,m.facts) ?_ ⟨by simp,.inl ⟨rfl,rfl⟩,by simp[mJ],by simp,by simp,by simp⟩ λj q hj hI=>?_
 ·simp[SE.den,aj]
 obtain⟨la,fl,q⟩:=q;simp only at hI;obtain⟨hq,z7,wD,hid,NX,yn⟩:=hI;by_cases ai:j<m.past.length
 ·have hw:=aD ai (by omega);have gh:=asO ai;have jk:=atx m.facts gh;obtain⟨b,hb,h36⟩:=v36 p (by unfold Sm;omega) m.past[j] (hn _ jk) m.given;simp only[dm,ef]at h36;have hle:=z7.le wD hj;have tl:=z7.ge (λf hf=>(hid f hf).1) hj;simp[SE.den,ai,hw,yU ai,aj];by_cases y1:m.past[j].id<=la
  ·left;exact⟨y1,cE hR (z7.no ai y1)⟩
  right;refine⟨by omega,?_⟩;by_cases y2:m.next<=m.past[j].id
  ·left;exact⟨y2,cE hR λo=>by have:=(o.i _ gh).2;omega⟩
  right;refine⟨by omega,_,h36,?_⟩;cases b<;>simp
  ·exact cE hR λo=>by have:=hb.2 (o.f _ gh);cases this
  rcases Kl q m.past[j].id with⟨i,f,hf,g1,g2,g3⟩|⟨g1,g2'⟩
  ·try simp only[iI]at g1
   simp[g1,g2,AE,ef,aj];rw[hq]at hf;rcases as8.1 hf with hf|hf
   ·exactλo=>(hR.2 o).2.1 f hf _ gh g3.symm
   ·have:=hle f hf;omega
  ·try simp only[iI]at g1
   simp[g1,aj];refine .mk (m.past[j].id,ab,q++[m.past[j]]) (by simp[AE,ef]) (by omega) ⟨?_,.step ai,z7.srt ai y1 wD,aC (p:=λf:Fa=>1<=f.id/\f.id<m.next) ai hid ⟨by omega,by omega⟩,aC ai NX (hb.1 rfl),λf hf=>aC (p:=λg:Fa=>g.id≠f.id) ai (yn f hf) ?_⟩
   ·simp only;rw[hq,asX ai,List.append_assoc]
   ·exactλe=>g2' f (by rw[hq];exact atz _ hf) e.symm
 ·rw[as0 (by omega)]at hq wD hid NX yn;subst hq;simp[SE.den,ai,aj];have hf2:iJ p.decls m.next m.given m.past:=⟨hid,NX,wD⟩
  have hg:∀f∈m.facts++m.past,Gd f:=λf hf=>⟨by
   rcases as8.1 hf with hf|hf
   ·exact(EP.f f hf).n
   ·exact(NX f hf).n,hm.j f hf⟩
  have:=ajH (k0:=k0) (k1:=Hc m.past.length (λj (q:Int×Bool×List Fa)=>[iI j,iI q.1,iB q.2.1,DN q.2.2]) (λj q=>q.2.2=m.facts++m.past.take j/\nB m.past j q.1/\mJ (m.past.take j)/\(∀f∈m.past.take j,1<=f.id/\f.id<m.next)/\(∀f∈m.past.take j,pM p.decls m.given f)/\∀f∈m.facts,∀g∈m.past.take j,g.id≠f.id) j) (x2:=x2) (x3:=x3) (x4:=x4) (x5:=DN m.facts) (x6:=iI j) (x7:=iI la) (x8:=iB fl) p hp.r hr m hm (m.facts++m.past) (an4 EP.s wD yn) hg (cD (cD hR hf2) yn);simpa using this
theorem ajJ(p:Pg)(hp:yW p)(hr:∀r∈p.rules,r.keep.length+r.remove.length<=3/\0<r.keep.length+r.remove.length)(m:Me)(hm:q8 m)(hn:∀f∈m.facts++m.past,yX f)(hR:(iJ p.decls m.next m.given m.facts/\iJ p.decls m.next m.given m.past/\DD m/\Q9 p m)↔O):
 NJ.sat asK CC (ou λb=>b=ab↔O) [] [aP p.decls p.rules,aM m,x2]:=by
 have hl:=hm.f;have hd:=hp.d;refine aw m.facts.length (λj (q:Int×List Fa)=>[iI j,iI q.1,DN q.2]) (λj q=>q.2=m.facts.take j/\nB m.facts j q.1/\mJ (m.facts.take j)/\(∀f∈m.facts.take j,1<=f.id/\f.id<m.next)/\∀f∈m.facts.take j,pM p.decls m.given f) (0,[]) ?_ ⟨by simp,.inl ⟨rfl,rfl⟩,by simp[mJ],by simp,by simp⟩ λj q hj hI=>?_
 ·simp[SE.den,aj]
 obtain⟨la,q⟩:=q;simp only at hI;obtain⟨hq,z7,wD,hid,NX⟩:=hI;by_cases ai:j<m.facts.length
 ·have hw:=aD ai (by omega);have gh:=asO ai;have jk:=atz m.past gh;obtain⟨b,hb,h36⟩:=v36 p (by unfold Sm;omega) m.facts[j] (hn _ jk) m.given;simp only[dm,ef]at h36;have hle:=z7.le wD hj;have tl:=z7.ge (λf hf=>(hid f hf).1) hj;simp[SE.den,ai,hw,yU ai,aj];by_cases y1:m.facts[j].id<=la
  ·left;exact⟨y1,cE hR (z7.no ai y1)⟩
  right;refine⟨by omega,?_⟩;by_cases y2:m.next<=m.facts[j].id
  ·left;exact⟨y2,cE hR λo=>by have:=(o.i _ gh).2;omega⟩
  right;refine⟨by omega,_,h36,?_⟩;cases b<;>simp
  ·exact cE hR λo=>by have:=hb.2 (o.f _ gh);cases this
  rcases Kl q m.facts[j].id with⟨i,f,hf,g1,g2,g3⟩|⟨g1,g2'⟩
  ·rw[hq]at hf;have:=hle f hf;omega
  ·try simp only[iI]at g1
   simp[g1,aj];refine .mk (m.facts[j].id,q++[m.facts[j]]) (by simp[AE,ef]) (by omega) ⟨?_,.step ai,z7.srt ai y1 wD,aC (p:=λf:Fa=>1<=f.id/\f.id<m.next) ai hid ⟨by omega,by omega⟩,aC ai NX (hb.1 rfl)⟩;simp only;rw[hq,asX ai]
 ·rw[as0 (by omega)]at hq wD hid NX;subst hq;simp[SE.den,ai,aj];have EP:iJ p.decls m.next m.given m.facts:=⟨hid,NX,wD⟩;exact ajI p hp hr m hm hn EP (cD hR EP)
end
theorem af6{ls:List (List Int)}{k:Int}(h:k∉ls.flatten):fM ls k=0:=List.count_eq_zero.2 h
theorem X0(p:Pg)(m:Me):(iZ p=0/\(1<=m.next/\m.next<=2147483648)/\(0<=m.given/\m.given<=64)/\iJ p.decls m.next m.given m.facts/\iJ p.decls m.next m.given m.past/\DD m/\Q9 p m)↔eX p m:=by
 constructor
 ·rintro⟨h1,h2,h3,h4,h5,h6,h7,h8,h9⟩;refine⟨y7.1 h1,h2,h3,h4,h5,h7,λf hf=>⟨?_,h9 _⟩,λf hf=>⟨h8 f hf,h9 _⟩⟩;cases he:findF m.past f.id with
  |none=>rfl
  |some g=>exact absurd (by have:=auK he;simpa using this) (h6 f hf g (nQ he))
 ·rintro⟨h1,h2,h3,h4,h5,h6,h7,h8⟩;refine⟨y7.2 h1,h2,h3,h4,h5,λf hf g hg=>J1 (h7 f hf).1 g hg,h6,λf hf=>(h8 f hf).1,λk=>?_⟩;by_cases hk:k∈(m.log.map Ap.made).flatten
  ·obtain⟨l,hl,py⟩:=List.mem_flatten.1 hk;obtain⟨x,hx,rfl⟩:=ath.1 hl;obtain⟨n,h,_,_,_,_,_,hB⟩:=h6 x hx;obtain⟨f,hf,_⟩:=hB.m k py
   have hid:f.id=k:=by
    unfold cR at hf;split at hf
    ·cases hf;rename_i g;have:=auK g;simpa using this
    ·have:=auK hf;simpa using this
   rcases as8.1 (AB hf)with h|h
   ·have:=(h7 f h).2;rwa[hid]at this
   ·have:=(h8 f h).2;rwa[hid]at this
  ·rw[af6 hk];omega
theorem v13(p:Pg)(hp:yW p)(m:Me)(hm:q8 m)(hn:∀f∈m.facts++m.past,yX f):∃b,(b=ab↔eX p m)/\CC 13 af [dm p,dr m] (iB b):=by
 have hs:Sf.sat asK CC (ou λb=>b=ab↔eX p m) [] [dm p,dr m]:=by
  have Dw:=v11 p hp;have hR:=X0 p m;have hl:=hm.l;have hf:=hm.f;have hpp:=hm.p;have hw:IntKind.i64.wrap ((m.facts.length:Int)+m.past.length)=m.facts.length+m.past.length:=cQ (by omega) (by omega);generalize eX p m=O at hR⊢
  have OQ:iZ p=0->∀r∈p.rules,r.keep.length+r.remove.length<=3/\0<r.keep.length+r.remove.length:=λh0 r hr=>⟨(hp.rs r hr).h,by
   have:=((y7.1 h0).o.r r hr).ne;rw[<-List.length_append];exact aur.2 this⟩
  generalize iZ p=N at Dw hR OQ;simp only[dm,dr]at*
  simp[Sf,SE.den,aj,hw];refine⟨_,Dw,?_⟩;simp[ov];by_cases z0:N=0
  rotate_left
  ·left;exact⟨z0,cE hR z0⟩
  have hR:=cD hR z0;right;refine⟨z0,?_⟩;by_cases z1:m.next<1
  ·left;exact⟨z1,cE hR (by omega)⟩
  right;refine⟨by omega,?_⟩;by_cases z2:2147483648<m.next
  ·left;exact⟨z2,cE hR (by omega)⟩
  have hR:=cD hR (by omega);right;refine⟨by omega,?_⟩;by_cases z3:m.given<0
  ·left;exact⟨z3,cE hR (by omega)⟩
  right;refine⟨by omega,?_⟩;by_cases z4:64<m.given
  ·left;exact⟨z4,cE hR (by omega)⟩
  have hR:=cD hR (by omega);right;refine⟨by omega,?_⟩;have hc:=aa1 ((m.facts.length:Int)+m.past.length) m.log.length;simp only[iI]at hc;simp[hc,aA];right;refine⟨by split<;>omega,?_⟩;exact ajJ p hp (OQ z0) m hm hn hR
 obtain⟨z,⟨b,rfl,hb⟩,h2⟩:=yR (by rfl) hs;exact⟨b,hb,CC.of ann n13 (t13 _) (by intro y hy;simp at hy;rcases hy with rfl|rfl;exact fx p;exact iQ m) (.raw _) h2⟩
end Go.Proofs.YtggffkaadeagbaaGreat
namespace Go.Proofs.YtggffkaadeagbaaGreat
open Go Go.Ev
def aa9:List Nat:=[123,127,126,186,189,44,79,30,102,9,10,23,31,15,257,149,89,148,198,147,199,50,191,71,214,93,163,49,152,64,164,158,95,108,206,250,213,130,131,107,129,155,34,90,51,202,153,201,200,151,203,150,204,154,91,41,67,101,99,109,157,210,12,26,28,25,14,19,100,40,39,70,69,35,53,52,68,42,58,98,96,75,211,136,83,192,85,11,24,27,22,13,29,61,36,33,32,84,47,143,46,190,66,87,45,138,133,88,128,249,121,78,183,256,156,16,17,18]
def aa_:List Nat:=[48,118,216]
def aba:List Nat:=[185,188,254]
def abb:List Nat:=[155,159,103,173000080,500139,500140,500097,600086]
def X1:ak:=
 (uD 5 (vK 2 10 lH (rV 1 1 1 2 1 3 1 4) (mB 3 3 rm (jo 16 cB (mB 4 4 rm (lp 17 (vR lH (rV 1 1 1 2 1 3 1 4) cB) (cY (uE 5 5) (gT 5) (.aS (K8 5 2) (lp 18 (vR lH (rV 1 1 1 2 1 3 1 4) cB) (cY (uE 5 6) (gT 6) (.aS (K8 6 2) (kD 19 (wY (fE 5 0) (fE 5 1) (vR (fE 5 2) (fE 5 3) (fE 5 4))) (wY (fE 6 0) (fE 6 1) (vR (fE 6 2) (fE 6 3) (fE 6 4))) (uC kF (kg .eql 3 (gT 5) (gT 6) (kg .eql 3 (K8 5 2) (K8 6 2) (lp 15 .an (.nr pF)) bf) bf))))))))))))))
def arx:a_:=⟨aa9,aa_,aba,[],abb⟩
theorem ex4:aH asK arx 400 af 4=X1:=by kernel_rfl
def LZ:ak:=
 (.loop (n9 cx 1 3 (pf 7)) (K5 dz 3 8 dz 2 cB 8 (kC 2 11 (.rw vD) (qB 4 72 10 4 (n9 mV 11 0 (rl (iF 11) (Ol 1 vD))) (xk 9 (B_ 2 8 (rl (ue 9) (.var 12)))))) (Wx (wY (n9 iE 1 1 (vR uj mV vD)) vD HS))))
def Vp:ak:=
 (fv dz 6 dz 2 cB 6 (lq 2 7 (jn 2 cB 6 (kC 2 8 (jZ 8) (lp 51 (WG 0 7 0 (iC (jZ 8))) (lU 9 9 (Om 7) 1 6))))) (.aS vD (mC 4 72 mD uw LZ)))
def Vq:ak:=
 (fv dz 5 dz 2 cB 5 (vM 2 6 49 6 6 (mB 7 7 Gi (jn 2 cB 5 (vM 2 8 50 8 8 (eC 9 (qI (jI 9) .gtr (jI 9) Gi (F8 5))))))) Vp)
def Kn:ak:=
 (uD 5 (eC 2 (jo 12 lH (vV ej 31 ej (WA (WB mD mD 6 HS) (iC ej)) (kD 14 lH (rV 1 1 1 2 1 3 1 4) (mB 4 4 Gi (pE 1 4 64 vF (ua dz dz 40 vF (cY uf dz (ua (WH dz) (WH dz) 500 vF (cY uf lE (cY vB dz (ua (mU vB dz) (mU vB dz) 5000 vF (.aS dz (ua (mU me dz) (mU me dz) 2147483648 vF Vq)))))))))))))))
def an6:a_:=⟨aa9,aa_,aba,[⟨0,18,22,[(0,(13,0))],[(3,0),(1,3)],[(0,115)],[]⟩,⟨0,18,14,[(0,(11,0))],[],[],[]⟩,⟨0,18,9,[(0,(10,0))],[],[],[]⟩],abb⟩
theorem ary:aH asK an6 400 af 18=Kn:=by kernel_rfl
end Go.Proofs.YtggffkaadeagbaaGreat
namespace Go.Proofs.YtggffkaadeagbaaGreat
open Go Go.Ev
end Go.Proofs.YtggffkaadeagbaaGreat
namespace Go.Proofs.YtggffkaadeagbaaGreat
open Go Go.Ev
variable{H:Type}{enc:TypeId×Value->H}{w:World}{sp:Nat->Bool}{held:Bool}
abbrev bk(d:DataW H):Nat:=Rows.uptoBulk d
theorem BE:∀{l:List (DataW H)} {d:DataW H},d∈l->bk d<=auh l
 |e::l,d,h=>by
  rcases aty.1 h with h|h
  ·subst h;simp only[auh];show bk d<=bk d+_;omega
  ·have:=BE h;simp only[auh];omega
theorem abc:∀(l:List (DataW H)) (ns:List Nat),ns.length=l.length->(∀(i:Nat) (h:i<ns.length) (h':i<l.length),ns[i]<=bk l[i])->ns.sum<=auh l
 |[],[],_,_=>by simp
 |d::l,n::ns,h,hb=>by
  have h0:=hb 0 (by simp) (by simp);have ih:=abc l ns (by simpa using h) λi h1 h2=>by have:=hb (i+1) (by simpa using h1) (by simpa using h2);simpa using this
  simp only[List.sum_cons,auh];simp only[List.getElem_cons_zero]at h0;show n+ns.sum<=bk d+_;omega
theorem GJ:∀{l:List Nat} {n:Nat},n∈l->n<=l.sum
 |m::l,n,h=>by
  rcases aty.1 h with h|h
  ·subst h;simp
  ·have:=GJ h;simp;omega
theorem Ix:∀l:List Tm,cg l=(l.map jN).sum
 |[]=>rfl
 |t::l=>by simp[cg,Ix l]
theorem pc{P:Program}{α:Type}(f:α->IV){s:Nat}(hs:0<s)(bH:∀a,(cellsOf (f a)).length=s)(Ok:α->Prop)(μ:α->Nat){t e:TypeId}(ht:P.underlying t=aa (.slice e))(hP:P.cellsOf e=s){fuel:Nat}{u:Value}{x:DataW H×List MemPlace}
 (oJ:∀n us x',n<fuel->atL enc P w 0 sp held n e us=aa x'->us.length=s->bk x'.1<=bk x.1->∃a,Ok a/\μ a<=bk x'.1/\aB (eH (allM w)) (cellsOf (f a)) us)
 (h:atL enc P w 0 sp held fuel t [u]=aa x):∃l:List α,l.length<=9223372036854775807/\(∀a∈l,Ok a)/\(l.map μ).sum<bk x.1/\Rv (eH (allM w)) (.tree s (l.map f)) u:=by
 rcases DataW.trod_slice ht h with⟨h1,h2⟩|⟨a,len,cap,elems,rest,n,hfu,h1,hx,_,l5,hcm,hlen,aE,_,_⟩
 ·obtain rfl:=(avn h1).1;refine⟨[],by simp,by simp,?_,.dY s ah 0 hs (λ_=>rfl)⟩;rw[h2];show 0<1;omega
 ·obtain rfl:=(avn h1).1;have hbx:bk x.1=auh (elems.map (·.1))+auh (rest.map (·.1))+1:=by rw[hx];rfl
  by_cases jC:len=0
  ·subst jC;exact⟨[],by simp,by simp,by rw[hbx];simp,.dY s (aa a) cap hs (by simp)⟩
  ·have key:∀i:Fin len,∃p:List Value×α,w.cells? 0 (a.add (i.1*s)) s=aa p.1/\Ok p.2/\μ p.2<=bk (elems[i.1]'(by have:=i.2;omega)).1/\aB (eH (allM w)) (cellsOf (f p.2)) p.1:=λi=>by
    have hi:=aE i.1 i.2;rw[hP]at hi;have uS:elems[i.1]?=aa (elems[i.1]'(by have:=i.2;omega)):=asL (by have:=i.2;omega)
    rw[uS]at hi;obtain⟨us,yo,rF⟩:=Option.bind_eq_some_iff.1 hi
    have hle:bk (elems[i.1]'(by have:=i.2;omega)).1<=bk x.1:=by
     have:=BE (l:=elems.map (·.1)) (d:=(elems[i.1]'(by have:=i.2;omega)).1) (ath.2 ⟨_,asO (by have:=i.2;omega),rfl⟩)
     rw[hbx];omega
    obtain⟨b,cN,ew,fk⟩:=oJ n us _ (by omega) rF (kT yo).1 hle;exact⟨(us,b),yo,cN,ew,fk⟩
   obtain⟨g,hg⟩:=ayr key
   have JQ:a.spot=ah:=by
    obtain⟨pR,_,_⟩:=hg ⟨0,by omega⟩;obtain⟨rD,fa⟩:=kT pR;have h0:=fa 0 hs;rw[asL (by omega)]at h0;have:=World.cell?_spot h0;simpa[Addr.add]using this
   obtain⟨b,off,spot⟩:=a;simp only at JQ;subst JQ
   have ik:∀i (hi:i<len) j,j<s->w.cell? ⟨b,off+(i*s+j),ah⟩=(g ⟨i,hi⟩).1[j]? :=λi hi j hj=>by
    have:=(kT (hg ⟨i,hi⟩).1).2 j hj;rw[C1,C1]at this;rw[<-Nat.add_assoc];exact this
   refine⟨avW λi=>(g i).2,by simp;have:maxLen=9223372036854775807:=rfl;omega,?_,?_,?_⟩
   ·intro c hc;obtain⟨i,rfl⟩:=(List.mem_ofFn (f:=λi=>(g i).2)).1 hc;exact(hg i).2.1
   ·rw[hbx]
    have:=abc (elems.map (·.1)) ((avW λi=>(g i).2).map μ) (by simp[hlen]) λi h1 h2=>by
     have hi:i<len:=by simpa using h1
     have:=(hg ⟨i,hi⟩).2.2.1;simpa using this
    omega
   ·have oJ:((avW λi=>(g i).2).map f).length=len:=by simp
    have hR:=Rv.tree (ι:=eH (allM w)) s ((avW λi=>(g i).2).map f) b off cap (λk=>(w.cell? ⟨b,off+k,ah⟩).getD Go.undef) hs (by rw[oJ];exact l5) ?_ ?_ ?_
    ·rw[oJ]at hR;exact hR
    ·intro e' ic;obtain⟨c,_,rfl⟩:=ath.1 ic;exact bH c
    ·intro k hk;rw[oJ]at hk;have hi:k/s<len:=Nat.div_lt_of_lt_mul (by rw[axb];exact hk);have hj:k % s<s:=Nat.mod_lt _ hs;have hc:=ik (k/s) hi (k % s) hj;have cH:k/s*s+k % s=k:=by rw[axb];exact Nat.div_add_mod k s
     rw[cH]at hc;have rD:=(kT (hg ⟨k/s,hi⟩).1).1;rw[asL (by omega)]at hc;rw[JP hc,hc];rfl
    ·intro i e' j c ic hc;rw[List.getElem?_map,List.getElem?_ofFn]at ic;split at ic
     ·rename_i hi;simp only[Option.map_some,asP]at ic;subst ic;have hj:j<s:=by have:=(List.getElem?_eq_some_iff.1 hc).1;rw[bH]at this;exact this
      have mO:=ik i hi j hj;have rD:=(kT (hg ⟨i,hi⟩).1).1;rw[asL (by omega)]at mO;simp only[mO,Option.getD_some];exact(hg ⟨i,hi⟩).2.2.2.2 j c _ hc (asL _)
     ·simp at ic
theorem kV{P:Program}{t:TypeId}{fs:Array Field}{cs:List Value}{fuel:Nat}{x:DataW H×List MemPlace}(ht:P.underlying t=aa (.struct fs))(h:atL enc P w 0 sp held fuel t cs=aa x):
 ∃n,fuel=n+1/\∀(i:Nat) (ty:TypeId) (off k:Nat),(fs[i]?).map (λf:Field=>(f.type,f.offset))=aa (ty,off)->P.cellsOf ty=k->∃y,bk y.1<bk x.1/\atL enc P w 0 sp held n ty ((cs.drop off).take k)=aa y:=by
 obtain⟨xs,n,h1,hx,_,h4,h5⟩:=DataW.trod_struct ht h;refine⟨n,h1,λi ty off k hi hk=>?_⟩;obtain⟨f,hf,OV⟩:=Option.map_eq_some_iff.1 hi;simp only[Prod.mk.injEq]at OV;obtain⟨rfl,rfl⟩:=OV
 have Dp:i<xs.length:=by
  rw[h4];exact(Array.getElem?_eq_some_iff.1 hf).1
 have:=h5 i f hf;rw[asL Dp,hk]at this;refine⟨_,?_,this⟩;have hb:bk x.1=auh (xs.map (·.1))+1:=by rw[hx];rfl
 have:=BE (l:=xs.map (·.1)) (d:=xs[i].1) (ath.2 ⟨_,asO Dp,rfl⟩);rw[hb];omega
theorem arz:∀(fuel:Nat) (us:List Value) (x:DataW H×List MemPlace),atL enc asK w 0 sp held fuel 84 us=aa x->us.length=4->∃t:Tm,oM t/\jN t<=bk x.1/\aB (eH (allM w)) (cellsOf (c7 t)) us:=by
 intro fuel;induction fuel using Nat.strongRecOn with
 |ind fuel ih=>
  intro us x h hl;obtain⟨a,b,c,d,rfl⟩:=adZ hl;obtain⟨n,hn,hf⟩:=kV alo h;obtain⟨_,_,h0⟩:=hf 0 3 0 1 alv Hg;obtain⟨_,_,h1⟩:=hf 1 3 1 1 alw Hg;obtain⟨_,_,h2⟩:=hf 2 9 2 1 alx ZX;obtain⟨y,hy,h3⟩:=hf 3 48 3 1 aly acN;obtain⟨k,r0⟩:=rO h0;obtain⟨m,r1⟩:=rO h1;obtain⟨s,w2,r2⟩:=Fh h2;obtain⟨ts,hs,hw,hb,r3⟩:=pc (w:=w) c7 (s:=4) (by omega) ZY oM jN adY ahK (λn' pQ x' Dt iN cu _=>ih n' (by omega) pQ x' iN cu) h3;refine⟨.mk k m s ts,?_,?_,?_⟩
  ·rw[ny];exact⟨w2,hs,hw⟩
  ·rw[<-Ix]at hb;simp only[jN];split<;>omega
  ·rw[vi];exact aB.cons r0 (aB.cons r1 (aB.cons r2 (aB.cons r3 aB.nil)))
theorem aeK{n:Nat}{u:Value}{x:DataW H×List MemPlace}(h:atL enc asK w 0 sp held n 48 [u]=aa x):∃l:List Tm,Sm l/\(∀f∈l,oM f)/\cg l<=bk x.1/\Rd w (iT l) u:=by
 obtain⟨l,h1,h2,h3,h4⟩:=pc (w:=w) c7 (s:=4) (by omega) ZY oM jN adY ahK (λn' pQ x' _ iN cu _=>arz n' pQ x' iN cu) h;exact⟨l,h1,h2,by rw[Ix];omega,h4⟩
abbrev ZA(a:At):Nat:=cg a.ts
abbrev ZG(a:Gl):Nat:=cg a.ts
theorem ajK(fuel:Nat)(us:List Value)(x:DataW H×List MemPlace)(h:atL enc asK w 0 sp held fuel 50 us=aa x)(hl:us.length=2):∃f:At,nz f/\ZA f<=bk x.1/\aB (eH (allM w)) (cellsOf (qd f)) us:=by
 obtain⟨a,b,rfl⟩:=XB hl;obtain⟨n,hn,hf⟩:=kV adX h;obtain⟨_,_,h0⟩:=hf 0 9 0 1 alz ZX;obtain⟨_,hy,h1⟩:=hf 1 48 1 1 alA acN;obtain⟨s,w0,r0⟩:=Fh h0;obtain⟨ts,w1,v1,z1,r1⟩:=aeK h1;exact⟨⟨s,ts⟩,⟨w0,w1,v1⟩,by show cg ts<=_;omega,aB.cons r0 (aB.cons r1 aB.nil)⟩
theorem X2{n:Nat}{u:Value}{x:DataW H×List MemPlace}(h:atL enc asK w 0 sp held n 34 [u]=aa x):∃l:List At,Sm l/\(∀f∈l,nz f/\ZA f<=bk x.1)/\Rd w (h_ l) u:=by
 obtain⟨l,h1,h2,h3,h4⟩:=pc (w:=w) qd (s:=2) (by omega) (λ_=>rfl) nz ZA aeh ahJ (λn' pQ x' _ iN cu _=>ajK n' pQ x' iN cu) h;exact⟨l,h1,λf hf=>⟨h2 f hf,by have:=GJ (ath.2 ⟨f,hf,rfl⟩:ZA f∈l.map ZA);omega⟩,h4⟩
theorem arA(fuel:Nat)(us:List Value)(x:DataW H×List MemPlace)(h:atL enc asK w 0 sp held fuel 88 us=aa x)(hl:us.length=3):∃f:Gl,ta f/\ZG f<=bk x.1/\aB (eH (allM w)) (cellsOf (Ic f)) us:=by
 obtain⟨a,b,c,rfl⟩:=amT hl;obtain⟨n,hn,hf⟩:=kV amC h;obtain⟨_,_,h0⟩:=hf 0 3 0 1 amQ Hg;obtain⟨_,_,h1⟩:=hf 1 9 1 1 amR ZX;obtain⟨_,hy,h2⟩:=hf 2 48 2 1 amS acN;obtain⟨op,r0⟩:=rO h0;obtain⟨s,w1,r1⟩:=Fh h1;obtain⟨ts,w2,v2,z2,r2⟩:=aeK h2;exact⟨⟨op,s,ts⟩,⟨w1,w2,v2⟩,by show cg ts<=_;omega,aB.cons r0 (aB.cons r1 (aB.cons r2 aB.nil))⟩
theorem aeL{n:Nat}{u:Value}{x:DataW H×List MemPlace}(h:atL enc asK w 0 sp held n 66 [u]=aa x):∃l:List Gl,Sm l/\(∀f∈l,ta f/\ZG f<=bk x.1)/\Rd w (rP l) u:=by
 obtain⟨l,h1,h2,h3,h4⟩:=pc (w:=w) Ic (s:=3) (by omega) (λ_=>rfl) ta ZG amF aqI (λn' pQ x' _ iN cu _=>arA n' pQ x' iN cu) h;exact⟨l,h1,λf hf=>⟨h2 f hf,by have:=GJ (ath.2 ⟨f,hf,rfl⟩:ZG f∈l.map ZG);omega⟩,h4⟩
def Vs(B:Nat)(r:Rl):Prop:=(∀a∈r.keep++r.remove,cg a.ts<=B)/\∀a∈r.guard++r.body,cg a.ts<=B
theorem arB(fuel:Nat)(us:List Value)(x:DataW H×List MemPlace)(h:atL enc asK w 0 sp held fuel 68 us=aa x)(hl:us.length=6):∃f:Rl,(RdR f/\Vs (bk x.1) f)/\aB (eH (allM w)) (cellsOf (ph f)) us:=by
 obtain⟨a,b,c,d,e,f,rfl⟩:=ad0 hl;obtain⟨n,hn,hf⟩:=kV amB h;obtain⟨_,_,h0⟩:=hf 0 9 0 1 amK ZX;obtain⟨_,y1,h1⟩:=hf 1 34 1 1 amL ain;obtain⟨_,y2,h2⟩:=hf 2 34 2 1 amM ain;obtain⟨_,y3,h3⟩:=hf 3 66 3 1 amN aio;obtain⟨_,y4,h4⟩:=hf 4 66 4 1 amO aio;obtain⟨_,_,h5⟩:=hf 5 3 5 1 amP Hg;obtain⟨s,w0,r0⟩:=Fh h0;obtain⟨keep,w1,v1,r1⟩:=X2 h1;obtain⟨rem,w2,v2,r2⟩:=X2 h2;obtain⟨guard,w3,v3,r3⟩:=aeL h3;obtain⟨body,w4,v4,r4⟩:=aeL h4;obtain⟨vars,r5⟩:=rO h5;refine⟨⟨s,keep,rem,guard,body,vars⟩,⟨⟨⟨w0,λa ha=>?_,λa ha=>?_⟩,w1,w2,w3,w4⟩,λa ha=>?_,λa ha=>?_⟩,aB.cons r0 (aB.cons r1 (aB.cons r2 (aB.cons r3 (aB.cons r4 (aB.cons r5 aB.nil)))))⟩
 ·rcases as8.1 ha with ha|ha
  ·exact(v1 a ha).1
  ·exact(v2 a ha).1
 ·rcases as8.1 ha with ha|ha
  ·exact(v3 a ha).1
  ·exact(v4 a ha).1
 ·rcases as8.1 ha with ha|ha
  ·have:cg a.ts<=_:=(v1 a ha).2;omega
  ·have:cg a.ts<=_:=(v2 a ha).2;omega
 ·rcases as8.1 ha with ha|ha
  ·have:cg a.ts<=_:=(v3 a ha).2;omega
  ·have:cg a.ts<=_:=(v4 a ha).2;omega
theorem Vs.mono{B B':Nat}{r:Rl}(h:Vs B r)(hb:B<=B'):Vs B' r:=⟨λa ha=>atd (h.1 a ha) hb,λa ha=>atd (h.2 a ha) hb⟩
theorem an7{fuel:Nat}{us:List Value}{x:DataW H×List MemPlace}(h:atL enc asK w 0 sp held fuel 25 us=aa x)(hl:us.length=2):∃p:Pg,NmP p/\(∀r∈p.rules,Vs (bk x.1) r)/\Rd w (dm p) (.agg us.toArray):=by
 obtain⟨a,b,rfl⟩:=XB hl;obtain⟨n,hn,hf⟩:=kV aeg h;obtain⟨_,_,h0⟩:=hf 0 22 0 1 amG aqE;obtain⟨y,hy,h1⟩:=hf 1 23 1 1 amH aqF;obtain⟨ds,w0,v0,r0⟩:=C2 (w:=w) Rg (s:=2) (by omega) (λ_=>rfl) (λd=>Sm d.s) amD aqG (λn' pQ x' _ iN cu=>aqK n' pQ x' iN cu) h0
 obtain⟨rs,w1,v1,_,r1⟩:=pc (w:=w) ph (s:=6) (by omega) (λ_=>rfl) (λr=>RdR r/\Vs (bk y.1) r) (λ_=>0) amE aqH (λn' pQ x' _ iN cu hb=>by
  obtain⟨r,hr,hv⟩:=arB n' pQ x' iN cu;exact⟨r,⟨hr.1,hr.2.mono hb⟩,Nat.zero_le _,hv⟩) h1
 refine⟨⟨ds,rs⟩,⟨w0,w1,v0,λr hr=>(v1 r hr).1⟩,λr hr=>(v1 r hr).2.mono (by omega),?_⟩;have hR:aB (eH (allM w)) [eK ds,yV rs] [a,b]:=aB.cons r0 (aB.cons r1 aB.nil);exact Rv.agg _ _ hR.1 hR.2
theorem arC(fuel:Nat)(us:List Value)(x:DataW H×List MemPlace)(h:atL enc asK w 0 sp held fuel 52 us=aa x)(hl:us.length=4):∃f:Fa,yX f/\cg f.a.ts<=bk x.1/\aB (eH (allM w)) (cellsOf (ef f)) us:=by
 obtain⟨a,b,c,d,rfl⟩:=adZ hl;obtain⟨n,hn,hf⟩:=kV alp h;obtain⟨_,_,h0⟩:=hf 0 3 0 1 alB Hg;obtain⟨_,y1,h1⟩:=hf 1 50 1 2 alC ahJ;obtain⟨_,_,h2⟩:=hf 2 47 3 1 alD QP;obtain⟨id,r0⟩:=rO h0;obtain⟨j,hj,r3⟩:=Br h2;obtain⟨f,hA,hz,hv⟩:=ajK n _ _ h1 rfl;refine⟨⟨id,f,j⟩,⟨hA,hj⟩,by show cg f.ts<=_;have:cg f.ts<=_:=hz;omega,?_⟩;obtain⟨n',Dt,hg⟩:=kV adX h1;have UA:aB (eH (allM w)) [iS f.s,iT f.ts] [b,c]:=hv;obtain⟨fa,T2⟩:=UA;exact aB.cons r0 (aB.cons (T2 0 _ _ rfl rfl) (aB.cons (T2 1 _ _ rfl rfl) (aB.cons r3 aB.nil)))
theorem aeM{n:Nat}{u:Value}{x:DataW H×List MemPlace}(h:atL enc asK w 0 sp held n 26 [u]=aa x):∃l:List Fa,Sm l/\(∀f∈l,yX f/\cg f.a.ts<=bk x.1)/\Rd w (gL l) u:=by
 obtain⟨l,h1,h2,h3,h4⟩:=pc (w:=w) ef (s:=4) (by omega) (λ_=>rfl) yX (λf=>cg f.a.ts) als aqg (λn' pQ x' _ iN cu _=>arC n' pQ x' iN cu) h;exact⟨l,h1,λf hf=>⟨h2 f hf,by have:=GJ (ath.2 ⟨f,hf,rfl⟩:cg f.a.ts∈l.map λf=>cg f.a.ts);omega⟩,h4⟩
theorem arD{fuel:Nat}{us:List Value}{x:DataW H×List MemPlace}(h:atL enc asK w 0 sp held fuel 29 us=aa x)(hl:us.length=5):∃m:Me,DI m/\(∀f∈m.facts++m.past,yX f/\cg f.a.ts<=bk x.1)/\Rd w (dr m) (.agg us.toArray):=by
 obtain⟨a,b,c,d,e,rfl⟩:=alP hl;obtain⟨n,hn,hf⟩:=kV adW h;obtain⟨_,y0,h0⟩:=hf 0 26 0 1 alK ahI;obtain⟨_,y1,h1⟩:=hf 1 26 1 1 alL ahI;obtain⟨_,_,h2⟩:=hf 2 27 2 1 alM aqf;obtain⟨_,_,h3⟩:=hf 3 3 3 1 alN Hg;obtain⟨_,_,h4⟩:=hf 4 3 4 1 alO Hg;obtain⟨facts,w0,v0,r0⟩:=aeM h0;obtain⟨past,w1,v1,r1⟩:=aeM h1;obtain⟨log,w2,v2,r2⟩:=alQ h2;obtain⟨nx,r3⟩:=rO h3;obtain⟨gv,r4⟩:=rO h4;refine⟨⟨facts,past,log,nx,gv⟩,⟨w0,w1,w2,λf hf=>(v0 f hf).1.wf,λf hf=>(v1 f hf).1.wf,v2⟩,λf hf=>?_,?_⟩
 ·rcases as8.1 hf with hf|hf
  ·exact⟨(v0 f hf).1,by have:=(v0 f hf).2;omega⟩
  ·exact⟨(v1 f hf).1,by have:=(v1 f hf).2;omega⟩
 have hR:aB (eH (allM w)) [gL facts,gL past,Fb log,iI nx,iI gv] [a,b,c,d,e]:=aB.cons r0 (aB.cons r1 (aB.cons r2 (aB.cons r3 (aB.cons r4 aB.nil))));exact Rv.agg _ _ hR.1 hR.2
end Go.Proofs.YtggffkaadeagbaaGreat
