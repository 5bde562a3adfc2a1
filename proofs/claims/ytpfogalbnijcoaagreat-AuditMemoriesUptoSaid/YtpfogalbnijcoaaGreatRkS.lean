/- A part of the proof, no condition: Right of the program and of the reference agree; what lies in memory. -/
import Derived.Test.YtpfogalbnijcoaaGreatRkN
open List renaming length_pos_iff->atQ,getElem_mem->ar5,find?_some->atZ,getElem_of_mem->atU,pairwise_iff_getElem->aue,mem_append->asn,mem_append_left->asN,mem_append_right->asM,mem_map->asv,take_of_length_le->asf,take_succ_eq_append_getElem->ase
open Go.Proofs.Tryz renaming prog->ar1
open Option renaming some->aa,none->ah
open Bool renaming true->ab,false->af
set_option linter.all false
namespace Go.Proofs.YtpfogalbnijcoaaGreat
open Go Go.Ev
theorem v36(p:Pg)(hd:Sm p.decls)(f:Fa)(hf:yO f)(g:Int):∃b,(b=ab↔pc p.decls g f)/\CC 25 af [eI p,eX f,iI g] (iB b):=by
 refine CC.qq _ apZ n36 t36 (by intro x hx;simp at hx;rcases hx with rfl|rfl|rfl;exact eJ p;exact Mz f;exact .raw _) (by rfl) ?_;have o1:=λo:pc p.decls g f=>o.a;have o2:=λo:pc p.decls g f=>o.v;have o3:=λo:pc p.decls g f=>o.d;have o4:=λo:pc p.decls g f=>o.n;have o5:=λo:pc p.decls g f=>o.j;have o6:=λo:pc p.decls g f=>o.g;have oo:=λa b c d e f'=>(⟨a,b,c,d,e,f'⟩:pc p.decls g f);generalize pc p.decls g f=O at o1 o2 o3 o4 o5 o6 oo⊢;have h45:=v45 f.a hf.1;have we:=JP p.decls f.a.s f.a.ts.length hd;obtain⟨b96,aiQ,h96⟩:=v96 f.j hf.2;simp only[eI,eX];simp[adG,SE.den,aj];refine⟨_,h45,?_⟩;cases b45:dy f.a<;>simp
 ·exactλo=>by have:=o1 o;simp[b45]at this
 refine⟨_,c46 af f.a hf.1 (nS b45),?_⟩;simp;by_cases z:varsOf f.a.ts=[]
 rotate_left
 ·right;exact⟨z,λo=>z (o2 o)⟩
 left;refine⟨z,_,we,?_⟩;cases b47:bB p.decls f.a.s f.a.ts.length<;>simp
 ·exactλo=>by have:=o3 o;simp[b47]at this
 by_cases z2:f.j=[]
 ·right;exact⟨z2,λo=>o4 o z2⟩
 left;refine⟨atQ.2 z2,_,h96,?_⟩;cases b96<;>simp
 ·exactλo=>by have:=aiQ.2 (o5 o);cases this
 have hj:=aiQ.1 rfl;have hp:0<f.j.length:=atQ.2 z2;have j1:=dI (l:=f.j) (i:=f.j.length- 1) (by omega);have jw:=CO hp (Nat.le_refl _) hf.2;have iV:=ar5 (l:=f.j) (n:=f.j.length- 1) (by omega);have zW:=HM hj.2 (by omega);simp only[iL]at j1;simp[j1,jw];exact⟨λh=>oo b45 z b47 z2 hj λj fO=>by have:=zW j fO;omega,λo=>o6 o _ iV⟩
abbrev DD(m:Me):Prop:=∀f∈m.facts,∀g∈m.past,g.id≠f.id
abbrev Q9(p:Pg)(m:Me):Prop:=(∀x∈m.log,gG p m x)/\(∀f∈m.past,fz (m.log.map Ap.gone) f.id=1)/\∀k,fz (m.log.map Ap.made) k<=1
theorem R_{l:List Fa}(hs:l_ l){f:Fa}(hf:f∈l):findF l f.id=aa f:=by
 obtain⟨g,hg⟩:=RZ.2 ⟨f,hf,rfl⟩;have h1:=np hg;have h2:g.id=f.id:=by have:=atZ hg;simpa using this
 rw[hg];obtain⟨i,hi,rfl⟩:=atU hf;obtain⟨j,hj,rfl⟩:=atU h1;have hp:=aue.1 hs;rcases Nat.lt_trichotomy i j with h|h|h
 ·have:=hp i j hi hj h;omega
 ·subst h;rfl
 ·have:=hp j i hj hi h;omega
theorem am0{m:Me}(h1:l_ m.facts)(h2:l_ m.past)(hd:DD m):Lk m (m.facts++m.past):=by
 refine⟨λf hf=>?_,λk hk=>?_⟩
 ·unfold cN;rcases asn.1 hf with hf|hf
  ·rw[R_ h1 hf]
  ·cases he:findF m.facts f.id with
   |some g=>
    have h3:=np he;have h4:g.id=f.id:=by have:=atZ he;simpa using this
    exact absurd h4.symm (hd g h3 f hf)
   |none=>exact R_ h2 hf
 ·unfold cN
  have g1:findF m.facts k=ah:=by
   cases he:findF m.facts k with
   |none=>rfl
   |some g=>exact absurd (by have:=atZ he;simpa using this) (hk g (asN _ (np he)))
  rw[g1];cases he:findF m.past k with
  |none=>rfl
  |some g=>exact absurd (by have:=atZ he;simpa using this) (hk g (asM _ (np he)))
section
variable{k0 k1 k2:List IV->Prop}{x0 x1 x2 x3 x4 x5 x6 x7 x8 ek:IV}{O:Prop}
theorem am1(p:Pg)(GB:p.rules.length<=8)(hr:∀r∈p.rules,r.keep.length+r.remove.length<=3/\0<r.keep.length+r.remove.length)(m:Me)(hm:yP m)(fs:List Fa)(hL:Lk m fs)(yy:∀f∈fs,Gd f)(ks:List Int)(eb:∀v,v∈ks↔∃f∈m.past,f.id=v)(hR:Q9 p m↔O):
 RC.sat ar1 CC (nQ λb=>b=ab↔O) [k0,k1,k2] [aP p.decls p.rules,aM m,x2,x3,x4,x5,x6,x7,x8,Dl fs,ek,iM ks]:=by
 have hl:=hm.l;have Hh:=Gf (m.log.map Ap.gone)
 have iO:∀(F:Ap->List Int),(∀x∈m.log,(F x).length<=100)->∀k i,i<=12->(0:Int)<=(fz ((m.log.map F).take i) k:Nat)/\((fz ((m.log.map F).take i) k:Nat):Int)<=100000:=λF hF k i hi=>by
  have:=Gf (m.log.map F) k (by simp;omega) (λl hl=>by obtain⟨x,hx,rfl⟩:=asv.1 hl;exact hF x hx) i;have:100*i<=100*12:=Nat.mul_le_mul_left _ hi;omega
 have bG:=iO Ap.gone λx hx=>by have:=(hm.x x hx).g;omega
 have bM:=iO Ap.made λx hx=>by have:=(hm.x x hx).m;omega
 clear iO Hh;refine aw m.log.length (λj (q:List (Int×Int)×List (Int×Int))=>[iI j,o9 q.1,o9 q.2]) (λj q=>(∀x∈m.log.take j,gG p m x)/\fN q.1 (λk=>(fz ((m.log.map Ap.gone).take j) k:Nat))/\fN q.2 (λk=>(fz ((m.log.map Ap.made).take j) k:Nat))) ([],[]) ?_ ?_ λj q hj hI=>?_
 ·simp[SE.den,aj]
 ·exact⟨by simp,fN.nil.ext λk=>by simp[fz],fN.nil.ext λk=>by simp[fz]⟩
 obtain⟨oj,iw,rj⟩:=hI;by_cases ai:j<m.log.length
 ·have hw:=aD ai (by omega);have iV:=ar5 ai
  have eG:∀k,(fz ((m.log.map Ap.gone).take (j+1)) k:Int)=(fz ((m.log.map Ap.gone).take j) k:Nat)+((m.log[j]).gone.count k:Nat):=λk=>by
   rw[Ad (by simpa using ai)];simp
  have eM:∀k,(fz ((m.log.map Ap.made).take (j+1)) k:Int)=(fz ((m.log.map Ap.made).take j) k:Nat)+((m.log[j]).made.count k:Nat):=λk=>by
   rw[Ad (by simpa using ai)];simp
  have hi6:=amZ (Q':=nQ λb=>b=ab↔O) (k0:=k0) (k1:=k1) (k2:=k2) (k3:=P_ m.log.length (λj (q:List (Int×Int)×List (Int×Int))=>[iI j,o9 q.1,o9 q.2]) (λj q=>(∀x∈m.log.take j,gG p m x)/\fN q.1 (λk=>(fz ((m.log.map Ap.gone).take j) k:Nat))/\fN q.2 (λk=>(fz ((m.log.map Ap.made).take j) k:Nat))) j) (x1:=aM m) (x2:=x2) (x3:=x3) (x4:=x4) (x5:=x5) (x6:=x6) (x7:=x7) (x8:=x8) (ek:=ek) p GB hr hL yy m.log[j] (hm.x _ iV) ks eb j (by omega) q.1 q.2 iw (λk=>bG k j (by omega)) rj (λk=>bM k j (by omega))
   (λhe p' q' h1 h2=>.mk (p',q') rfl (by omega) ⟨aB ai oj he,h1.ext λk=>(eG k).symm,h2.ext λk=>(eM k).symm⟩) (λhn=>by simp;exactλo=>hn ((hR.2 o).1 _ iV))
  simp[SE.den,ai,yK ai,aj];exact hi6
 ·have hA:=aI ai oj;rw[asf (by simp;omega)]at iw rj;have h8:=amR (x0:=aP p.decls p.rules) (x1:=aM m) (x2:=x2) (x3:=x3) (x4:=x4) (x5:=x5) (x6:=x6) (x7:=x7) (x8:=x8) (x9:=Dl fs) (ek:=ek) (iU:=iI j) ks q.1 q.2 iw (k0:=λ_=>False) (k1:=λ_=>False) (k2:=λ_=>False) (k3:=λ_=>False)
  have hz:nQ (λb=>b=ab↔O) (iB (decide (∀k∈ks,((fz (m.log.map Ap.gone) k:Nat):Int)=1)&&decide (∀c∈q.2,c.2<=1))):=by
   rw[aeR,Bool.and_eq_true,decide_eq_true_iff,decide_eq_true_iff,rj.le1,<-hR]
   have e1:(∀k∈ks,((fz (m.log.map Ap.gone) k:Nat):Int)=1)↔∀f∈m.past,fz (m.log.map Ap.gone) f.id=1:=
    ⟨λh f hf=>by have:=h f.id ((eb _).2 ⟨f,hf,rfl⟩);omega,λh k hk=>by obtain⟨f,hf,rfl⟩:=(eb k).1 hk;have:=h f hf;omega⟩
   have e2:(∀k,((fz (m.log.map Ap.made) k:Nat):Int)<=1)↔∀k,fz (m.log.map Ap.made) k<=1:=⟨λh k=>by have:=h k;omega,λh k=>by have:=h k;omega⟩;rw[e1,e2];exact⟨λh=>⟨hA,h⟩,λh=>h.2⟩
  simp[SE.den,ai,aj,lX];exact⟨_,hz,h8⟩
theorem aiR(p:Pg)(GB:p.rules.length<=8)(hr:∀r∈p.rules,r.keep.length+r.remove.length<=3/\0<r.keep.length+r.remove.length)(m:Me)(hm:yP m)(fs:List Fa)(hL:Lk m fs)(yy:∀f∈fs,Gd f)(hR:Q9 p m↔O):
 M0.sat ar1 CC (nQ λb=>b=ab↔O) [k0,k1] [aP p.decls p.rules,aM m,x2,x3,x4,x5,x6,x7,x8,Dl fs]:=by
 have hl:=hm.p;refine aw m.past.length (λj (q:List Int)=>[iI j,iM q]) (λj q=>∀v,v∈q↔∃f∈m.past.take j,f.id=v) [] ?_ (by simp) λj q hj hI=>?_
 ·simp[SE.den,aj]
 by_cases ai:j<m.past.length
 ·simp[SE.den,ai,yL ai,aj,cellsOf,aA]
  exact amS j (by omega) q _ λq' vS=>.mk q' rfl (by omega) λv=>by
   rw[vS,hI,ase ai];simp only[asn,List.mem_singleton];exact⟨λh=>h.elim (λ⟨f,h1,h2⟩=>⟨f,.inl h1,h2⟩) λh=>⟨_,.inr rfl,h.symm⟩,λ⟨f,h1,h2⟩=>h1.elim (λh=>.inl ⟨f,h,h2⟩) λh=>.inr (by rw[<-h2,h])⟩
 ·rw[asf (by omega)]at hI;simp[SE.den,ai,aj];exact am1 p GB hr m hm fs hL yy q hI hR
def mT(l:List Fa)(j:Nat)(la:Int):Prop:=(j=0/\la=0)\/∃(h:j- 1<l.length),0<j/\la=l[j- 1].id
theorem mT.le{l:List Fa}{j:Nat}{la:Int}(h:mT l j la)(hs:l_ (l.take j))(hj:j<=l.length):∀f∈l.take j,f.id<=la:=by
 intro f hf;rcases h with⟨rfl,rfl⟩|⟨h,h0,rfl⟩
 ·simp at hf
 ·obtain⟨i,hi,rfl⟩:=atU hf;simp at hi;rw[List.getElem_take];by_cases e:i=j- 1
  ·subst e;exact Int.le_refl _
  ·have:=aue.1 hs i (j- 1) (by simp;omega) (by simp;omega) (by omega);simp at this;omega
theorem mT.no{l:List Fa}{j:Nat}{la:Int}(h:mT l j la)(ai:j<l.length)(hle:l[j].id<=la){ds:List De}{n g:Int}:¬ik ds n g l:=λo=>by
 rcases h with⟨rfl,rfl⟩|⟨h,h0,rfl⟩
 ·have:=(o.i _ (ar5 ai)).1;omega
 ·exact aak ai h0 hle o.s
theorem mT.ge{l:List Fa}{j:Nat}{la:Int}(h:mT l j la)(hi:∀f∈l.take j,1<=f.id)(hj:j<=l.length):0<=la:=by
 rcases h with⟨rfl,rfl⟩|⟨h,h0,rfl⟩
 ·omega
 ·have:=hi l[j- 1] (List.mem_take_iff_getElem.2 ⟨j- 1,by omega,rfl⟩);omega
theorem mT.step{l:List Fa}{j:Nat}(ai:j<l.length):mT l (j+1) l[j].id:=.inr ⟨by simpa using ai,by omega,rfl⟩
theorem mT.srt{l:List Fa}{j:Nat}{la:Int}(h:mT l j la)(ai:j<l.length)(za:¬l[j].id<=la)(hs:l_ (l.take j)):l_ (l.take (j+1)):=
 HN ai hs λh0 h'=>by
  rcases h with⟨rfl,rfl⟩|⟨h,_,rfl⟩
  ·omega
  ·omega
theorem aiS(p:Pg)(hp:wI p)(hr:∀r∈p.rules,r.keep.length+r.remove.length<=3/\0<r.keep.length+r.remove.length)(m:Me)(hm:yP m)(hn:∀f∈m.facts++m.past,yO f)(El:ik p.decls m.next m.given m.facts)(hR:(ik p.decls m.next m.given m.past/\DD m/\Q9 p m)↔O):
 M1.sat ar1 CC (nQ λb=>b=ab↔O) [k0] [aP p.decls p.rules,aM m,x2,x3,x4,Dl m.facts]:=by
 have hl:=hm.p;have hd:=hp.d;refine aw m.past.length (λj (q:Int×Bool×List Fa)=>[iI j,iI q.1,iB q.2.1,Dl q.2.2]) (λj q=>q.2.2=m.facts++m.past.take j/\mT m.past j q.1/\l_ (m.past.take j)/\(∀f∈m.past.take j,1<=f.id/\f.id<m.next)/\(∀f∈m.past.take j,pc p.decls m.given f)/\∀f∈m.facts,∀g∈m.past.take j,g.id≠f.id) (0,af,m.facts) ?_ ⟨by simp,.inl ⟨rfl,rfl⟩,by simp[l_],by simp,by simp,by simp⟩ λj q hj hI=>?_
 ·simp[SE.den,aj]
 obtain⟨la,fl,q⟩:=q;simp only at hI;obtain⟨hq,zW,wb,hid,Ng,xZ⟩:=hI;by_cases ai:j<m.past.length
 ·have hw:=aD ai (by omega);have iV:=ar5 ai;have eg:=asM m.facts iV;obtain⟨b,hb,h36⟩:=v36 p (by unfold Sm;omega) m.past[j] (hn _ eg) m.given;simp only[eI,eX]at h36;have hle:=zW.le wb hj;have sV:=zW.ge (λf hf=>(hid f hf).1) hj;simp[SE.den,ai,hw,yL ai,aj];by_cases y1:m.past[j].id<=la
  ·left;exact⟨y1,cA hR (zW.no ai y1)⟩
  right;refine⟨by omega,?_⟩;by_cases y2:m.next<=m.past[j].id
  ·left;exact⟨y2,cA hR λo=>by have:=(o.i _ iV).2;omega⟩
  right;refine⟨by omega,_,h36,?_⟩;cases b<;>simp
  ·exact cA hR λo=>by have:=hb.2 (o.f _ iV);cases this
  rcases JU q m.past[j].id with⟨i,f,hf,g1,g2,g3⟩|⟨g1,g2'⟩
  ·try simp only[iI]at g1
   simp[g1,g2,Ay,eX,aj];rw[hq]at hf;rcases asn.1 hf with hf|hf
   ·exactλo=>(hR.2 o).2.1 f hf _ iV g3.symm
   ·have:=hle f hf;omega
  ·try simp only[iI]at g1
   simp[g1,aj];refine .mk (m.past[j].id,ab,q++[m.past[j]]) (by simp[Ay,eX]) (by omega) ⟨?_,.step ai,zW.srt ai y1 wb,aB (p:=λf:Fa=>1<=f.id/\f.id<m.next) ai hid ⟨by omega,by omega⟩,aB ai Ng (hb.1 rfl),λf hf=>aB (p:=λg:Fa=>g.id≠f.id) ai (xZ f hf) ?_⟩
   ·simp only;rw[hq,ase ai,List.append_assoc]
   ·exactλe=>g2' f (by rw[hq];exact asN _ hf) e.symm
 ·rw[asf (by omega)]at hq wb hid Ng xZ;subst hq;simp[SE.den,ai,aj];have ZZ:ik p.decls m.next m.given m.past:=⟨hid,Ng,wb⟩
  have hg:∀f∈m.facts++m.past,Gd f:=λf hf=>⟨by
   rcases asn.1 hf with hf|hf
   ·exact(El.f f hf).n
   ·exact(Ng f hf).n,hm.j f hf⟩
  have:=aiR (k0:=k0) (k1:=P_ m.past.length (λj (q:Int×Bool×List Fa)=>[iI j,iI q.1,iB q.2.1,Dl q.2.2]) (λj q=>q.2.2=m.facts++m.past.take j/\mT m.past j q.1/\l_ (m.past.take j)/\(∀f∈m.past.take j,1<=f.id/\f.id<m.next)/\(∀f∈m.past.take j,pc p.decls m.given f)/\∀f∈m.facts,∀g∈m.past.take j,g.id≠f.id) j) (x2:=x2) (x3:=x3) (x4:=x4) (x5:=Dl m.facts) (x6:=iI j) (x7:=iI la) (x8:=iB fl) p hp.r hr m hm (m.facts++m.past) (am0 El.s wb xZ) hg (cz (cz hR ZZ) xZ);simpa using this
theorem aiT(p:Pg)(hp:wI p)(hr:∀r∈p.rules,r.keep.length+r.remove.length<=3/\0<r.keep.length+r.remove.length)(m:Me)(hm:yP m)(hn:∀f∈m.facts++m.past,yO f)(hR:(ik p.decls m.next m.given m.facts/\ik p.decls m.next m.given m.past/\DD m/\Q9 p m)↔O):
 M3.sat ar1 CC (nQ λb=>b=ab↔O) [] [aP p.decls p.rules,aM m,x2]:=by
 have hl:=hm.f;have hd:=hp.d;refine aw m.facts.length (λj (q:Int×List Fa)=>[iI j,iI q.1,Dl q.2]) (λj q=>q.2=m.facts.take j/\mT m.facts j q.1/\l_ (m.facts.take j)/\(∀f∈m.facts.take j,1<=f.id/\f.id<m.next)/\∀f∈m.facts.take j,pc p.decls m.given f) (0,[]) ?_ ⟨by simp,.inl ⟨rfl,rfl⟩,by simp[l_],by simp,by simp⟩ λj q hj hI=>?_
 ·simp[SE.den,aj]
 obtain⟨la,q⟩:=q;simp only at hI;obtain⟨hq,zW,wb,hid,Ng⟩:=hI;by_cases ai:j<m.facts.length
 ·have hw:=aD ai (by omega);have iV:=ar5 ai;have eg:=asN m.past iV;obtain⟨b,hb,h36⟩:=v36 p (by unfold Sm;omega) m.facts[j] (hn _ eg) m.given;simp only[eI,eX]at h36;have hle:=zW.le wb hj;have sV:=zW.ge (λf hf=>(hid f hf).1) hj;simp[SE.den,ai,hw,yL ai,aj];by_cases y1:m.facts[j].id<=la
  ·left;exact⟨y1,cA hR (zW.no ai y1)⟩
  right;refine⟨by omega,?_⟩;by_cases y2:m.next<=m.facts[j].id
  ·left;exact⟨y2,cA hR λo=>by have:=(o.i _ iV).2;omega⟩
  right;refine⟨by omega,_,h36,?_⟩;cases b<;>simp
  ·exact cA hR λo=>by have:=hb.2 (o.f _ iV);cases this
  rcases JU q m.facts[j].id with⟨i,f,hf,g1,g2,g3⟩|⟨g1,g2'⟩
  ·rw[hq]at hf;have:=hle f hf;omega
  ·try simp only[iI]at g1
   simp[g1,aj];refine .mk (m.facts[j].id,q++[m.facts[j]]) (by simp[Ay,eX]) (by omega) ⟨?_,.step ai,zW.srt ai y1 wb,aB (p:=λf:Fa=>1<=f.id/\f.id<m.next) ai hid ⟨by omega,by omega⟩,aB ai Ng (hb.1 rfl)⟩;simp only;rw[hq,ase ai]
 ·rw[asf (by omega)]at hq wb hid Ng;subst hq;simp[SE.den,ai,aj];have El:ik p.decls m.next m.given m.facts:=⟨hid,Ng,wb⟩;exact aiS p hp hr m hm hn El (cz hR El)
end
theorem afm{ls:List (List Int)}{k:Int}(h:k∉ls.flatten):fz ls k=0:=List.count_eq_zero.2 h
theorem Xj(p:Pg)(m:Me):(qT p=0/\(1<=m.next/\m.next<=2147483648)/\(0<=m.given/\m.given<=64)/\ik p.decls m.next m.given m.facts/\ik p.decls m.next m.given m.past/\DD m/\Q9 p m)↔gH p m:=by
 constructor
 ·rintro⟨h1,h2,h3,h4,h5,h6,h7,h8,h9⟩;refine⟨yV.1 h1,h2,h3,h4,h5,h7,λf hf=>⟨?_,h9 _⟩,λf hf=>⟨h8 f hf,h9 _⟩⟩;cases he:findF m.past f.id with
  |none=>rfl
  |some g=>exact absurd (by have:=atZ he;simpa using this) (h6 f hf g (np he))
 ·rintro⟨h1,h2,h3,h4,h5,h6,h7,h8⟩;refine⟨yV.2 h1,h2,h3,h4,h5,λf hf g hg=>Jy (h7 f hf).1 g hg,h6,λf hf=>(h8 f hf).1,λk=>?_⟩;by_cases hk:k∈(m.log.map Ap.made).flatten
  ·obtain⟨l,hl,oL⟩:=List.mem_flatten.1 hk;obtain⟨x,hx,rfl⟩:=asv.1 hl;obtain⟨n,h,_,_,_,_,_,hB⟩:=h6 x hx;obtain⟨f,hf,_⟩:=hB.m k oL
   have hid:f.id=k:=by
    unfold cN at hf;split at hf
    ·cases hf;rename_i g;have:=atZ g;simpa using this
    ·have:=atZ hf;simpa using this
   rcases asn.1 (Aw hf)with h|h
   ·have:=(h7 f h).2;rwa[hid]at this
   ·have:=(h8 f h).2;rwa[hid]at this
  ·rw[afm hk];omega
theorem v13(p:Pg)(hp:wI p)(m:Me)(hm:yP m)(hn:∀f∈m.facts++m.past,yO f):∃b,(b=ab↔gH p m)/\CC 10 af [eI p,fF m] (iB b):=by
 have hs:RD.sat ar1 CC (nQ λb=>b=ab↔gH p m) [] [eI p,fF m]:=by
  have Iu:=v11 p hp;have hR:=Xj p m;have hl:=hm.l;have hf:=hm.f;have hpp:=hm.p;have hw:IntKind.i64.wrap ((m.facts.length:Int)+m.past.length)=m.facts.length+m.past.length:=dQ (by omega) (by omega);generalize gH p m=O at hR⊢
  have Oa:qT p=0->∀r∈p.rules,r.keep.length+r.remove.length<=3/\0<r.keep.length+r.remove.length:=λh0 r hr=>⟨(hp.rs r hr).h,by
   have:=((yV.1 h0).o.r r hr).ne;rw[<-List.length_append];exact atQ.2 this⟩
  generalize qT p=N at Iu hR Oa;simp only[eI,fF]at*
  simp[RD,SE.den,aj,hw];refine⟨_,Iu,?_⟩;simp[yN];by_cases z0:N=0
  rotate_left
  ·left;exact⟨z0,cA hR z0⟩
  have hR:=cz hR z0;right;refine⟨z0,?_⟩;by_cases z1:m.next<1
  ·left;exact⟨z1,cA hR (by omega)⟩
  right;refine⟨by omega,?_⟩;by_cases z2:2147483648<m.next
  ·left;exact⟨z2,cA hR (by omega)⟩
  have hR:=cz hR (by omega);right;refine⟨by omega,?_⟩;by_cases z3:m.given<0
  ·left;exact⟨z3,cA hR (by omega)⟩
  right;refine⟨by omega,?_⟩;by_cases z4:64<m.given
  ·left;exact⟨z4,cA hR (by omega)⟩
  have hR:=cz hR (by omega);right;refine⟨by omega,?_⟩;have hc:=aad ((m.facts.length:Int)+m.past.length) m.log.length;simp only[iI]at hc;simp[hc,aA];right;refine⟨by split<;>omega,?_⟩;exact aiT p hp (Oa z0) m hm hn hR
 obtain⟨z,⟨b,rfl,hb⟩,h2⟩:=yJ (by rfl) hs;exact⟨b,hb,CC.of amk n13 (t13 _) (by intro y hy;simp at hy;rcases hy with rfl|rfl;exact eJ p;exact lS m) (.raw _) h2⟩
end Go.Proofs.YtpfogalbnijcoaaGreat
