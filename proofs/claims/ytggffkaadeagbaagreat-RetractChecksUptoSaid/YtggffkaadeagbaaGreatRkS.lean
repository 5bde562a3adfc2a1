/- A part of the proof, no condition: Right of the program and of the reference agree; what lies in memory. -/
import Derived.Test.YtggffkaadeagbaaGreatRkN
import Derived.Test.YtggffkaadeagbaaGreatEvJ
import Derived.Test.YtggffkaadeagbaaGreatRuA
import Derived.Test.YtggffkaadeagbaaGreatRgR
import Derived.Test.YtggffkaadeagbaaGreatRows
open List renaming length_pos_iff->asr,getElem_mem->aqI,find?_some->asz,getElem_of_mem->asu,pairwise_iff_getElem->asM,mem_append->aqX,mem_append_left->arp,mem_append_right->arn,mem_map->aq5,take_of_length_le->aqT,take_succ_eq_append_getElem->aqR,mem_cons->arv,getElem?_eq_getElem->aqE,ofFn->atN
open Go.Proofs.Tryz renaming prog->aqD
open Go.Proofs.YtggffkaadeagbaaGreat.Rows renaming uptoBulkAll->ar6
open Go.DataW renaming trod->arB
open List.cons renaming inj->atf
open Classical renaming axiomOfChoice->awm
open Nat renaming mul_comm->au6,le_trans->aq2
open Option.some renaming injEq->aqH
set_option linter.all false
namespace Go.Proofs.YtggffkaadeagbaaGreat
open Go Go.Ev
theorem v36(p:Pg)(hd:Sm p.decls)(f:Fa)(hf:Aq f)(g:Int):∃b,(b=true↔oI p.decls g f)∧CC 36 false [f_ p,eT f,iI g] (iB b):=by
 refine CC.q7 _ aoZ n36 t36 (by intro x hx;simp at hx;rcases hx with rfl|rfl|rfl;exact ga p;exact LX f;exact .raw _) (by rfl) ?_;have o1:=fun o:oI p.decls g f=>o.a;have o2:=fun o:oI p.decls g f=>o.v;have o3:=fun o:oI p.decls g f=>o.d;have o4:=fun o:oI p.decls g f=>o.n;have o5:=fun o:oI p.decls g f=>o.j;have o6:=fun o:oI p.decls g f=>o.g;have oo:=fun a b c d e f'=>(⟨a,b,c,d,e,f'⟩:oI p.decls g f);generalize oI p.decls g f=O at o1 o2 o3 o4 o5 o6 oo⊢;have Zs:=v45 f.a hf.1;have vo:=Jf p.decls f.a.s f.a.ts.length hd;obtain⟨b96,ahW,h96⟩:=v96 f.j hf.2;simp only[f_,eT];simp[acN,SE.den,af];refine⟨_,Zs,?_⟩;cases b45:dr f.a<;>simp
 ·exact fun o=>by have:=o1 o;simp[b45]at this
 refine⟨_,c46 false f.a hf.1 (ny b45),?_⟩;simp;by_cases z:varsOf f.a.ts=[]
 rotate_left
 ·right;exact⟨z,fun o=>z (o2 o)⟩
 left;refine⟨z,_,vo,?_⟩;cases b47:bu p.decls f.a.s f.a.ts.length<;>simp
 ·exact fun o=>by have:=o3 o;simp[b47]at this
 by_cases z2:f.j=[]
 ·right;exact⟨z2,fun o=>o4 o z2⟩
 left;refine⟨asr.2 z2,_,h96,?_⟩;cases b96<;>simp
 ·exact fun o=>by have:=ahW.2 (o5 o);cases this
 have hj:=ahW.1 rfl;have hp:0<f.j.length:=asr.2 z2;have j1:=dC (l:=f.j) (i:=f.j.length- 1) (by omega);have jw:=Ft hp (Nat.le_refl _) hf.2;have iE:=aqI (l:=f.j) (n:=f.j.length- 1) (by omega);have yV:=Hb hj.2 (by omega);simp only[iL]at j1;simp[j1,jw];exact⟨fun h=>oo b45 z b47 z2 hj fun j fJ=>by have:=yV j fJ;omega,fun o=>o6 o _ iE⟩
abbrev DD(m:Me):Prop:=∀f∈m.facts,∀g∈m.past,g.id≠f.id
abbrev Q9(p:Pg)(m:Me):Prop:=(∀x∈m.log,gw p m x)∧(∀f∈m.past,ft (m.log.map Ap.gone) f.id=1)∧∀k,ft (m.log.map Ap.made) k≤1
theorem Rn{l:List Fa}(hs:lU l){f:Fa}(hf:f∈l):findF l f.id=some f:=by
 obtain⟨g,hg⟩:=Rj.2 ⟨f,hf,rfl⟩;have h1:=mS hg;have h2:g.id=f.id:=by have:=asz hg;simpa using this
 rw[hg];obtain⟨i,hi,rfl⟩:=asu hf;obtain⟨j,hj,rfl⟩:=asu h1;have hp:=asM.1 hs;rcases Nat.lt_trichotomy i j with h|h|h
 ·have:=hp i j hi hj h;omega
 ·subst h;rfl
 ·have:=hp j i hj hi h;omega
theorem amc{m:Me}(h1:lU m.facts)(h2:lU m.past)(hd:DD m):Lk m (m.facts++m.past):=by
 refine⟨fun f hf=>?_,fun k hk=>?_⟩
 ·unfold cJ;rcases aqX.1 hf with hf|hf
  ·rw[Rn h1 hf]
  ·cases he:findF m.facts f.id with
   |some g=>
    have h3:=mS he;have h4:g.id=f.id:=by have:=asz he;simpa using this
    exact absurd h4.symm (hd g h3 f hf)
   |none=>exact Rn h2 hf
 ·unfold cJ
  have g1:findF m.facts k=none:=by
   cases he:findF m.facts k with
   |none=>rfl
   |some g=>exact absurd (by have:=asz he;simpa using this) (hk g (arp _ (mS he)))
  rw[g1];cases he:findF m.past k with
  |none=>rfl
  |some g=>exact absurd (by have:=asz he;simpa using this) (hk g (arn _ (mS he)))
section
variable{k0 k1 k2:List IV→Prop}{x0 x1 x2 x3 x4 x5 x6 x7 x8 eh:IV}{O:Prop}
theorem amd(p:Pg)(FU:p.rules.length≤8)(hr:∀r∈p.rules,r.keep.length+r.remove.length≤3∧0<r.keep.length+r.remove.length)(m:Me)(hm:Cy m)(fs:List Fa)(hL:Lk m fs)(xA:∀f∈fs,Gd f)(ks:List Int)(d_:∀v,v∈ks↔∃f∈m.past,f.id=v)(hR:Q9 p m↔O):
 QX.sat aqD CC (nu fun b=>b=true↔O) [k0,k1,k2] [aP p.decls p.rules,aM m,x2,x3,x4,x5,x6,x7,x8,CB fs,eh,iM ks]:=by
 have hl:=hm.l;have GD:=FC (m.log.map Ap.gone)
 have iw:∀(F:Ap→List Int),(∀x∈m.log,(F x).length≤100)→∀k i,i≤12→(0:Int)≤(ft ((m.log.map F).take i) k:Nat)∧((ft ((m.log.map F).take i) k:Nat):Int)≤100000:=fun F hF k i hi=>by
  have:=FC (m.log.map F) k (by simp;omega) (fun l hl=>by obtain⟨x,hx,rfl⟩:=aq5.1 hl;exact hF x hx) i;have:100*i≤100*12:=Nat.mul_le_mul_left _ hi;omega
 have bG:=iw Ap.gone fun x hx=>by have:=(hm.x x hx).g;omega
 have bM:=iw Ap.made fun x hx=>by have:=(hm.x x hx).m;omega
 clear iw GD;refine ao m.log.length (fun j (q:List (Int×Int)×List (Int×Int))=>[iI j,oG q.1,oG q.2]) (fun j q=>(∀x∈m.log.take j,gw p m x)∧fI q.1 (fun k=>(ft ((m.log.map Ap.gone).take j) k:Nat))∧fI q.2 (fun k=>(ft ((m.log.map Ap.made).take j) k:Nat))) ([],[]) ?_ ?_ fun j q hj hI=>?_
 ·simp[SE.den,af]
 ·exact⟨by simp,fI.nil.ext fun k=>by simp[ft],fI.nil.ext fun k=>by simp[ft]⟩
 obtain⟨nQ,jh,qO⟩:=hI;by_cases aa:j<m.log.length
 ·have hw:=az aa (by omega);have iE:=aqI aa
  have eG:∀k,(ft ((m.log.map Ap.gone).take (j+1)) k:Int)=(ft ((m.log.map Ap.gone).take j) k:Nat)+((m.log[j]).gone.count k:Nat):=fun k=>by
   rw[za (by simpa using aa)];simp
  have eM:∀k,(ft ((m.log.map Ap.made).take (j+1)) k:Int)=(ft ((m.log.map Ap.made).take j) k:Nat)+((m.log[j]).made.count k:Nat):=fun k=>by
   rw[za (by simpa using aa)];simp
  have hi6:=amb (Q':=nu fun b=>b=true↔O) (k0:=k0) (k1:=k1) (k2:=k2) (k3:=Pw m.log.length (fun j (q:List (Int×Int)×List (Int×Int))=>[iI j,oG q.1,oG q.2]) (fun j q=>(∀x∈m.log.take j,gw p m x)∧fI q.1 (fun k=>(ft ((m.log.map Ap.gone).take j) k:Nat))∧fI q.2 (fun k=>(ft ((m.log.map Ap.made).take j) k:Nat))) j) (x1:=aM m) (x2:=x2) (x3:=x3) (x4:=x4) (x5:=x5) (x6:=x6) (x7:=x7) (x8:=x8) (eh:=eh) p FU hr hL xA m.log[j] (hm.x _ iE) ks d_ j (by omega) q.1 q.2 jh (fun k=>bG k j (by omega)) qO (fun k=>bM k j (by omega))
   (fun he p' q' h1 h2=>.mk (p',q') rfl (by omega) ⟨ay aa nQ he,h1.ext fun k=>(eG k).symm,h2.ext fun k=>(eM k).symm⟩) (fun hn=>by simp;exact fun o=>hn ((hR.2 o).1 _ iE))
  simp[SE.den,aa,aa3 aa,af];exact hi6
 ·have hA:=aF aa nQ;rw[aqT (by simp;omega)]at jh qO;have h8:=al4 (x0:=aP p.decls p.rules) (x1:=aM m) (x2:=x2) (x3:=x3) (x4:=x4) (x5:=x5) (x6:=x6) (x7:=x7) (x8:=x8) (x9:=CB fs) (eh:=eh) (iD:=iI j) ks q.1 q.2 jh (k0:=fun _=>False) (k1:=fun _=>False) (k2:=fun _=>False) (k3:=fun _=>False)
  have hz:nu (fun b=>b=true↔O) (iB (decide (∀k∈ks,((ft (m.log.map Ap.gone) k:Nat):Int)=1)&&decide (∀c∈q.2,c.2≤1))):=by
   rw[adX,Bool.and_eq_true,decide_eq_true_iff,decide_eq_true_iff,qO.le1,←hR]
   have e1:(∀k∈ks,((ft (m.log.map Ap.gone) k:Nat):Int)=1)↔∀f∈m.past,ft (m.log.map Ap.gone) f.id=1:=
    ⟨fun h f hf=>by have:=h f.id ((d_ _).2 ⟨f,hf,rfl⟩);omega,fun h k hk=>by obtain⟨f,hf,rfl⟩:=(d_ k).1 hk;have:=h f hf;omega⟩
   have e2:(∀k,((ft (m.log.map Ap.made) k:Nat):Int)≤1)↔∀k,ft (m.log.map Ap.made) k≤1:=⟨fun h k=>by have:=h k;omega,fun h k=>by have:=h k;omega⟩;rw[e1,e2];exact⟨fun h=>⟨hA,h⟩,fun h=>h.2⟩
  simp[SE.den,aa,af,lL];exact⟨_,hz,h8⟩
theorem ahX(p:Pg)(FU:p.rules.length≤8)(hr:∀r∈p.rules,r.keep.length+r.remove.length≤3∧0<r.keep.length+r.remove.length)(m:Me)(hm:Cy m)(fs:List Fa)(hL:Lk m fs)(xA:∀f∈fs,Gd f)(hR:Q9 p m↔O):
 Mr.sat aqD CC (nu fun b=>b=true↔O) [k0,k1] [aP p.decls p.rules,aM m,x2,x3,x4,x5,x6,x7,x8,CB fs]:=by
 have hl:=hm.p;refine ao m.past.length (fun j (q:List Int)=>[iI j,iM q]) (fun j q=>∀v,v∈q↔∃f∈m.past.take j,f.id=v) [] ?_ (by simp) fun j q hj hI=>?_
 ·simp[SE.den,af]
 by_cases aa:j<m.past.length
 ·simp[SE.den,aa,xM aa,af,cellsOf,aw]
  exact al5 j (by omega) q _ fun q' vb=>.mk q' rfl (by omega) fun v=>by
   rw[vb,hI,aqR aa];simp only[aqX,List.mem_singleton];exact⟨fun h=>h.elim (fun⟨f,h1,h2⟩=>⟨f,.inl h1,h2⟩) fun h=>⟨_,.inr rfl,h.symm⟩,fun⟨f,h1,h2⟩=>h1.elim (fun h=>.inl ⟨f,h,h2⟩) fun h=>.inr (by rw[←h2,h])⟩
 ·rw[aqT (by omega)]at hI;simp[SE.den,aa,af];exact amd p FU hr m hm fs hL xA q hI hR
def mE(l:List Fa)(j:Nat)(la:Int):Prop:=(j=0∧la=0)∨∃(h:j- 1<l.length),0<j∧la=l[j- 1].id
theorem mE.le{l:List Fa}{j:Nat}{la:Int}(h:mE l j la)(hs:lU (l.take j))(hj:j≤l.length):∀f∈l.take j,f.id≤la:=by
 intro f hf;rcases h with⟨rfl,rfl⟩|⟨h,h0,rfl⟩
 ·simp at hf
 ·obtain⟨i,hi,rfl⟩:=asu hf;simp at hi;rw[List.getElem_take];by_cases e:i=j- 1
  ·subst e;exact Int.le_refl _
  ·have:=asM.1 hs i (j- 1) (by simp;omega) (by simp;omega) (by omega);simp at this;omega
theorem mE.no{l:List Fa}{j:Nat}{la:Int}(h:mE l j la)(aa:j<l.length)(hle:l[j].id≤la){ds:List De}{n g:Int}:¬ia ds n g l:=fun o=>by
 rcases h with⟨rfl,rfl⟩|⟨h,h0,rfl⟩
 ·have:=(o.i _ (aqI aa)).1;omega
 ·exact Zw aa h0 hle o.s
theorem mE.ge{l:List Fa}{j:Nat}{la:Int}(h:mE l j la)(hi:∀f∈l.take j,1≤f.id)(hj:j≤l.length):0≤la:=by
 rcases h with⟨rfl,rfl⟩|⟨h,h0,rfl⟩
 ·omega
 ·have:=hi l[j- 1] (List.mem_take_iff_getElem.2 ⟨j- 1,by omega,rfl⟩);omega
theorem mE.step{l:List Fa}{j:Nat}(aa:j<l.length):mE l (j+1) l[j].id:=.inr ⟨by simpa using aa,by omega,rfl⟩
theorem mE.srt{l:List Fa}{j:Nat}{la:Int}(h:mE l j la)(aa:j<l.length)(yc:¬l[j].id≤la)(hs:lU (l.take j)):lU (l.take (j+1)):=
 Hc aa hs fun h0 h'=>by
  rcases h with⟨rfl,rfl⟩|⟨h,_,rfl⟩
  ·omega
  ·omega
theorem ahY(p:Pg)(hp:Ao p)(hr:∀r∈p.rules,r.keep.length+r.remove.length≤3∧0<r.keep.length+r.remove.length)(m:Me)(hm:Cy m)(hn:∀f∈m.facts++m.past,Aq f)(DI:ia p.decls m.next m.given m.facts)(hR:(ia p.decls m.next m.given m.past∧DD m∧Q9 p m)↔O):
 Ms.sat aqD CC (nu fun b=>b=true↔O) [k0] [aP p.decls p.rules,aM m,x2,x3,x4,CB m.facts]:=by
 have hl:=hm.p;have hd:=hp.d;refine ao m.past.length (fun j (q:Int×Bool×List Fa)=>[iI j,iI q.1,iB q.2.1,CB q.2.2]) (fun j q=>q.2.2=m.facts++m.past.take j∧mE m.past j q.1∧lU (m.past.take j)∧(∀f∈m.past.take j,1≤f.id∧f.id<m.next)∧(∀f∈m.past.take j,oI p.decls m.given f)∧∀f∈m.facts,∀g∈m.past.take j,g.id≠f.id) (0,false,m.facts) ?_ ⟨by simp,.inl ⟨rfl,rfl⟩,by simp[lU],by simp,by simp,by simp⟩ fun j q hj hI=>?_
 ·simp[SE.den,af]
 obtain⟨la,fl,q⟩:=q;simp only at hI;obtain⟨hq,yV,vn,hid,MH,xg⟩:=hI;by_cases aa:j<m.past.length
 ·have hw:=az aa (by omega);have iE:=aqI aa;have iJ:=arn m.facts iE;obtain⟨b,hb,Zy⟩:=v36 p (by unfold Sm;omega) m.past[j] (hn _ iJ) m.given;simp only[f_,eT]at Zy;have hle:=yV.le vn hj;have sg:=yV.ge (fun f hf=>(hid f hf).1) hj;simp[SE.den,aa,hw,xM aa,af];by_cases y1:m.past[j].id≤la
  ·left;exact⟨y1,cw hR (yV.no aa y1)⟩
  right;refine⟨by omega,?_⟩;by_cases y2:m.next≤m.past[j].id
  ·left;exact⟨y2,cw hR fun o=>by have:=(o.i _ iE).2;omega⟩
  right;refine⟨by omega,_,Zy,?_⟩;cases b<;>simp
  ·exact cw hR fun o=>by have:=hb.2 (o.f _ iE);cases this
  rcases Jk q m.past[j].id with⟨i,f,hf,g1,g2,g3⟩|⟨g1,g2'⟩
  ·try simp only[iI]at g1
   simp[g1,g2,zw,eT,af];rw[hq]at hf;rcases aqX.1 hf with hf|hf
   ·exact fun o=>(hR.2 o).2.1 f hf _ iE g3.symm
   ·have:=hle f hf;omega
  ·try simp only[iI]at g1
   simp[g1,af];refine .mk (m.past[j].id,true,q++[m.past[j]]) (by simp[zw,eT]) (by omega) ⟨?_,.step aa,yV.srt aa y1 vn,ay (p:=fun f:Fa=>1≤f.id∧f.id<m.next) aa hid ⟨by omega,by omega⟩,ay aa MH (hb.1 rfl),fun f hf=>ay (p:=fun g:Fa=>g.id≠f.id) aa (xg f hf) ?_⟩
   ·simp only;rw[hq,aqR aa,List.append_assoc]
   ·exact fun e=>g2' f (by rw[hq];exact arp _ hf) e.symm
 ·rw[aqT (by omega)]at hq vn hid MH xg;subst hq;simp[SE.den,aa,af];have Y7:ia p.decls m.next m.given m.past:=⟨hid,MH,vn⟩
  have hg:∀f∈m.facts++m.past,Gd f:=fun f hf=>⟨by
   rcases aqX.1 hf with hf|hf
   ·exact(DI.f f hf).n
   ·exact(MH f hf).n,hm.j f hf⟩
  have:=ahX (k0:=k0) (k1:=Pw m.past.length (fun j (q:Int×Bool×List Fa)=>[iI j,iI q.1,iB q.2.1,CB q.2.2]) (fun j q=>q.2.2=m.facts++m.past.take j∧mE m.past j q.1∧lU (m.past.take j)∧(∀f∈m.past.take j,1≤f.id∧f.id<m.next)∧(∀f∈m.past.take j,oI p.decls m.given f)∧∀f∈m.facts,∀g∈m.past.take j,g.id≠f.id) j) (x2:=x2) (x3:=x3) (x4:=x4) (x5:=CB m.facts) (x6:=iI j) (x7:=iI la) (x8:=iB fl) p hp.r hr m hm (m.facts++m.past) (amc DI.s vn xg) hg (cu (cu hR Y7) xg);simpa using this
theorem ahZ(p:Pg)(hp:Ao p)(hr:∀r∈p.rules,r.keep.length+r.remove.length≤3∧0<r.keep.length+r.remove.length)(m:Me)(hm:Cy m)(hn:∀f∈m.facts++m.past,Aq f)(hR:(ia p.decls m.next m.given m.facts∧ia p.decls m.next m.given m.past∧DD m∧Q9 p m)↔O):
 Mu.sat aqD CC (nu fun b=>b=true↔O) [] [aP p.decls p.rules,aM m,x2]:=by
 have hl:=hm.f;have hd:=hp.d;refine ao m.facts.length (fun j (q:Int×List Fa)=>[iI j,iI q.1,CB q.2]) (fun j q=>q.2=m.facts.take j∧mE m.facts j q.1∧lU (m.facts.take j)∧(∀f∈m.facts.take j,1≤f.id∧f.id<m.next)∧∀f∈m.facts.take j,oI p.decls m.given f) (0,[]) ?_ ⟨by simp,.inl ⟨rfl,rfl⟩,by simp[lU],by simp,by simp⟩ fun j q hj hI=>?_
 ·simp[SE.den,af]
 obtain⟨la,q⟩:=q;simp only at hI;obtain⟨hq,yV,vn,hid,MH⟩:=hI;by_cases aa:j<m.facts.length
 ·have hw:=az aa (by omega);have iE:=aqI aa;have iJ:=arp m.past iE;obtain⟨b,hb,Zy⟩:=v36 p (by unfold Sm;omega) m.facts[j] (hn _ iJ) m.given;simp only[f_,eT]at Zy;have hle:=yV.le vn hj;have sg:=yV.ge (fun f hf=>(hid f hf).1) hj;simp[SE.den,aa,hw,xM aa,af];by_cases y1:m.facts[j].id≤la
  ·left;exact⟨y1,cw hR (yV.no aa y1)⟩
  right;refine⟨by omega,?_⟩;by_cases y2:m.next≤m.facts[j].id
  ·left;exact⟨y2,cw hR fun o=>by have:=(o.i _ iE).2;omega⟩
  right;refine⟨by omega,_,Zy,?_⟩;cases b<;>simp
  ·exact cw hR fun o=>by have:=hb.2 (o.f _ iE);cases this
  rcases Jk q m.facts[j].id with⟨i,f,hf,g1,g2,g3⟩|⟨g1,g2'⟩
  ·rw[hq]at hf;have:=hle f hf;omega
  ·try simp only[iI]at g1
   simp[g1,af];refine .mk (m.facts[j].id,q++[m.facts[j]]) (by simp[zw,eT]) (by omega) ⟨?_,.step aa,yV.srt aa y1 vn,ay (p:=fun f:Fa=>1≤f.id∧f.id<m.next) aa hid ⟨by omega,by omega⟩,ay aa MH (hb.1 rfl)⟩;simp only;rw[hq,aqR aa]
 ·rw[aqT (by omega)]at hq vn hid MH;subst hq;simp[SE.den,aa,af];have DI:ia p.decls m.next m.given m.facts:=⟨hid,MH,vn⟩;exact ahY p hp hr m hm hn DI (cu hR DI)
end
theorem aes{ls:List (List Int)}{k:Int}(h:k∉ls.flatten):ft ls k=0:=List.count_eq_zero.2 h
theorem Wp(p:Pg)(m:Me):(pC p=0∧(1≤m.next∧m.next≤2147483648)∧(0≤m.given∧m.given≤64)∧ia p.decls m.next m.given m.facts∧ia p.decls m.next m.given m.past∧DD m∧Q9 p m)↔kJ p m:=by
 constructor
 ·rintro⟨h1,h2,h3,h4,h5,h6,h7,h8,h9⟩;refine⟨xU.1 h1,h2,h3,h4,h5,h7,fun f hf=>⟨?_,h9 _⟩,fun f hf=>⟨h8 f hf,h9 _⟩⟩;cases he:findF m.past f.id with
  |none=>rfl
  |some g=>exact absurd (by have:=asz he;simpa using this) (h6 f hf g (mS he))
 ·rintro⟨h1,h2,h3,h4,h5,h6,h7,h8⟩;refine⟨xU.2 h1,h2,h3,h4,h5,fun f hf g hg=>IZ (h7 f hf).1 g hg,h6,fun f hf=>(h8 f hf).1,fun k=>?_⟩;by_cases hk:k∈(m.log.map Ap.made).flatten
  ·obtain⟨l,hl,ot⟩:=List.mem_flatten.1 hk;obtain⟨x,hx,rfl⟩:=aq5.1 hl;obtain⟨n,h,_,_,_,_,_,hB⟩:=h6 x hx;obtain⟨f,hf,_⟩:=hB.m k ot
   have hid:f.id=k:=by
    unfold cJ at hf;split at hf
    ·cases hf;rename_i g;have:=asz g;simpa using this
    ·have:=asz hf;simpa using this
   rcases aqX.1 (zr hf)with h|h
   ·have:=(h7 f h).2;rwa[hid]at this
   ·have:=(h8 f h).2;rwa[hid]at this
  ·rw[aes hk];omega
theorem v13(p:Pg)(hp:Ao p)(m:Me)(hm:Cy m)(hn:∀f∈m.facts++m.past,Aq f):∃b,(b=true↔kJ p m)∧CC 13 false [f_ p,gG m] (iB b):=by
 have hs:QY.sat aqD CC (nu fun b=>b=true↔kJ p m) [] [f_ p,gG m]:=by
  have HP:=v11 p hp;have hR:=Wp p m;have hl:=hm.l;have hf:=hm.f;have hpp:=hm.p;have hw:IntKind.i64.wrap ((m.facts.length:Int)+m.past.length)=m.facts.length+m.past.length:=dL (by omega) (by omega);generalize kJ p m=O at hR⊢
  have NA:pC p=0→∀r∈p.rules,r.keep.length+r.remove.length≤3∧0<r.keep.length+r.remove.length:=fun h0 r hr=>⟨(hp.rs r hr).h,by
   have:=((xU.1 h0).o.r r hr).ne;rw[←List.length_append];exact asr.2 this⟩
  generalize pC p=N at HP hR NA;simp only[f_,gG]at*
  simp[QY,SE.den,af,hw];refine⟨_,HP,?_⟩;simp[xO];by_cases z0:N=0
  rotate_left
  ·left;exact⟨z0,cw hR z0⟩
  have hR:=cu hR z0;right;refine⟨z0,?_⟩;by_cases z1:m.next<1
  ·left;exact⟨z1,cw hR (by omega)⟩
  right;refine⟨by omega,?_⟩;by_cases z2:2147483648<m.next
  ·left;exact⟨z2,cw hR (by omega)⟩
  have hR:=cu hR (by omega);right;refine⟨by omega,?_⟩;by_cases z3:m.given<0
  ·left;exact⟨z3,cw hR (by omega)⟩
  right;refine⟨by omega,?_⟩;by_cases z4:64<m.given
  ·left;exact⟨z4,cw hR (by omega)⟩
  have hR:=cu hR (by omega);right;refine⟨by omega,?_⟩;have hc:=Zm ((m.facts.length:Int)+m.past.length) m.log.length;simp only[iI]at hc;simp[hc,aw];right;refine⟨by split<;>omega,?_⟩;exact ahZ p hp (NA z0) m hm hn hR
 obtain⟨z,⟨b,rfl,hb⟩,h2⟩:=xL (by rfl) hs;exact⟨b,hb,CC.of alx n13 (t13 _) (by intro y hy;simp at hy;rcases hy with rfl|rfl;exact ga p;exact pj m) (.raw _) h2⟩
end Go.Proofs.YtggffkaadeagbaaGreat
namespace Go.Proofs.YtggffkaadeagbaaGreat
open Go Go.Ev
def ah0:List Nat:=[123,127,126,186,189,44,79,30,102,9,10,23,31,15,257,149,89,148,198,147,199,50,191,71,214,93,163,49,152,64,164,158,95,108,206,250,213,130,131,107,129,155,34,90,51,202,153,201,200,151,203,150,204,154,91,41,67,101,99,109,157,210,12,26,28,25,14,19,100,40,39,70,69,35,53,52,68,42,58,98,96,75,211,136,83,192,85,11,24,27,22,13,29,61,36,33,32,84,47,143,46,190,66,87,45,138,133,88,128,249,121,78,183,256,156,16,17,18]
def ah1:List Nat:=[48,118,216]
def ah2:List Nat:=[185,188,254]
def ah3:List Nat:=[155,159,103,173000080,500139,500140,500097,600086]
def abD:ab:=
 (Bl 5 (sX 10 nf (uy 1 1 1 2 1 3 1 4) (qp 2 2 uc (kC 11 nf 3 (kB 12 nf (vA fz g_ fz (sX 13 nf (uy 1 1 1 2 1 3 1 4) (uG 5 14 nf (uy 1 1 1 2 1 3 1 4) (yD jy 4 jI jy (sU 15 .an (.nr s9)) a_))) a_))))))
def apq:bj:=⟨ah0,ah1,ah2,[],ah3⟩
theorem ex3:aI aqD apq 400 false 3=abD:=by kernel_rfl
end Go.Proofs.YtggffkaadeagbaaGreat
namespace Go.Proofs.YtggffkaadeagbaaGreat
open Go Go.Ev
theorem n3:(aqD.funcs[3]?).map (·.params.size)=some 2:=by kernel_rfl
theorem t3(z:IV):aN aqD 3 z=true:=by kernel_rfl
theorem Zz{a b:Bool}{P:Prop}(h1:a=true↔P)(h2:b=true↔P):a=b:=by
 have:=h1.trans h2.symm;cases a<;>cases b<;>simp_all
theorem c3(p:Pg)(m:Me)(hp:NmP p)(hm:IQ m)(hn:∀f∈m.facts++m.past,Aq f)(hz:SzP p)(hzm:SzM m):CC 3 false [f_ p,gG m] (iB true):=by
 refine CC.of ex3 n3 (t3 _) (by intro z hz;simp at hz;rcases hz with rfl|rfl;exact ga p;exact pj m) (by simp) ?_;obtain⟨b10,f10,FQ⟩:=e10 p hp m hm;cases b10 with
 |false=>
  simp only[f_,gG]at*
  simp[abD,SE.den,af];refine⟨_,FQ,?_⟩;simp
 |true=>
 obtain⟨hP,hL⟩:=f10 rfl;have HP:=v11 p hP;have H3:=v12 p hP hz;obtain⟨b,hb,h13⟩:=v13 p hP m hL hn;obtain⟨b',pY,h14⟩:=v14 p hP hz m hL hn hzm;obtain rfl:=Zz hb pY;generalize pC p=N at*
 simp only[f_,gG]at*
 simp[abD,SE.den,af];refine⟨_,FQ,?_⟩;simp;refine⟨_,HP,?_⟩;simp;refine⟨_,H3,?_⟩;simp;refine⟨_,h13,?_⟩;simp;refine⟨_,h14,?_⟩;simp;exact⟨_,c15,by simp⟩
end Go.Proofs.YtggffkaadeagbaaGreat
namespace Go.Proofs.YtggffkaadeagbaaGreat
open Go Go.Ev
variable{H:Type}{enc:TypeId×Value→H}{w:World}{sp:Nat→Bool}{held:Bool}
abbrev bk(d:DataW H):Nat:=Rows.uptoBulk d
theorem Ew:∀{l:List (DataW H)} {d:DataW H},d∈l→bk d≤ar6 l
 |e::l,d,h=>by
  rcases arv.1 h with h|h
  ·subst h;simp only[ar6];show bk d≤bk d+_;omega
  ·have:=Ew h;simp only[ar6];omega
theorem ZB:∀(l:List (DataW H)) (ns:List Nat),ns.length=l.length→(∀(i:Nat) (h:i<ns.length) (h':i<l.length),ns[i]≤bk l[i])→ns.sum≤ar6 l
 |[],[],_,_=>by simp
 |d::l,n::ns,h,hb=>by
  have h0:=hb 0 (by simp) (by simp);have ih:=ZB l ns (by simpa using h) fun i h1 h2=>by have:=hb (i+1) (by simpa using h1) (by simpa using h2);simpa using this
  simp only[List.sum_cons,ar6];simp only[List.getElem_cons_zero]at h0;show n+ns.sum≤bk d+_;omega
theorem FD:∀{l:List Nat} {n:Nat},n∈l→n≤l.sum
 |m::l,n,h=>by
  rcases arv.1 h with h|h
  ·subst h;simp
  ·have:=FD h;simp;omega
theorem Hq:∀l:List Tm,cm l=(l.map jl).sum
 |[]=>rfl
 |t::l=>by simp[cm,Hq l]
theorem nZ{P:Program}{α:Type}(f:α→IV){s:Nat}(hs:0<s)(bC:∀a,(cellsOf (f a)).length=s)(Ok:α→Prop)(μ:α→Nat){t e:TypeId}(ht:P.underlying t=some (.slice e))(hP:P.cellsOf e=s){fuel:Nat}{u:Value}{x:DataW H×List MemPlace}
 (nK:∀n us x',n<fuel→arB enc P w 0 sp held n e us=some x'→us.length=s→bk x'.1≤bk x.1→∃a,Ok a∧μ a≤bk x'.1∧ax (eo (allM w)) (cellsOf (f a)) us)
 (h:arB enc P w 0 sp held fuel t [u]=some x):∃l:List α,l.length≤9223372036854775807∧(∀a∈l,Ok a)∧(l.map μ).sum<bk x.1∧Rv (eo (allM w)) (.tree s (l.map f)) u:=by
 rcases DataW.trod_slice ht h with⟨h1,h2⟩|⟨a,len,cap,elems,rest,n,hfu,h1,hx,_,ll,hcm,hlen,aA,_,_⟩
 ·obtain rfl:=(atf h1).1;refine⟨[],by simp,by simp,?_,.dN s none 0 hs (fun _=>rfl)⟩;rw[h2];show 0<1;omega
 ·obtain rfl:=(atf h1).1;have hbx:bk x.1=ar6 (elems.map (·.1))+ar6 (rest.map (·.1))+1:=by rw[hx];rfl
  by_cases ja:len=0
  ·subst ja;exact⟨[],by simp,by simp,by rw[hbx];simp,.dN s (some a) cap hs (by simp)⟩
  ·have key:∀i:Fin len,∃p:List Value×α,w.cells? 0 (a.add (i.1*s)) s=some p.1∧Ok p.2∧μ p.2≤bk (elems[i.1]'(by have:=i.2;omega)).1∧ax (eo (allM w)) (cellsOf (f p.2)) p.1:=fun i=>by
    have hi:=aA i.1 i.2;rw[hP]at hi;have tL:elems[i.1]?=some (elems[i.1]'(by have:=i.2;omega)):=aqE (by have:=i.2;omega)
    rw[tL]at hi;obtain⟨us,xh,qB⟩:=Option.bind_eq_some_iff.1 hi
    have hle:bk (elems[i.1]'(by have:=i.2;omega)).1≤bk x.1:=by
     have:=Ew (l:=elems.map (·.1)) (d:=(elems[i.1]'(by have:=i.2;omega)).1) (aq5.2 ⟨_,aqI (by have:=i.2;omega),rfl⟩)
     rw[hbx];omega
    obtain⟨b,cD,dZ,e_⟩:=nK n us _ (by omega) qB (j_ xh).1 hle;exact⟨(us,b),xh,cD,dZ,e_⟩
   obtain⟨g,hg⟩:=awm key
   have IN:a.spot=none:=by
    obtain⟨oN,_,_⟩:=hg ⟨0,by omega⟩;obtain⟨qz,eN⟩:=j_ oN;have h0:=eN 0 hs;rw[aqE (by omega)]at h0;have:=World.cell?_spot h0;simpa[Addr.add]using this
   obtain⟨b,off,spot⟩:=a;simp only at IN;subst IN
   have gS:∀i (hi:i<len) j,j<s→w.cell? ⟨b,off+(i*s+j),none⟩=(g ⟨i,hi⟩).1[j]? :=fun i hi j hj=>by
    have:=(j_ (hg ⟨i,hi⟩).1).2 j hj;rw[BO,BO]at this;rw[←Nat.add_assoc];exact this
   refine⟨atN fun i=>(g i).2,by simp;have:maxLen=9223372036854775807:=rfl;omega,?_,?_,?_⟩
   ·intro c hc;obtain⟨i,rfl⟩:=(List.mem_ofFn (f:=fun i=>(g i).2)).1 hc;exact(hg i).2.1
   ·rw[hbx]
    have:=ZB (elems.map (·.1)) ((atN fun i=>(g i).2).map μ) (by simp[hlen]) fun i h1 h2=>by
     have hi:i<len:=by simpa using h1
     have:=(hg ⟨i,hi⟩).2.2.1;simpa using this
    omega
   ·have nK:((atN fun i=>(g i).2).map f).length=len:=by simp
    have hR:=Rv.tree (ι:=eo (allM w)) s ((atN fun i=>(g i).2).map f) b off cap (fun k=>(w.cell? ⟨b,off+k,none⟩).getD Go.undef) hs (by rw[nK];exact ll) ?_ ?_ ?_
    ·rw[nK]at hR;exact hR
    ·intro e' gO;obtain⟨c,_,rfl⟩:=aq5.1 gO;exact bC c
    ·intro k hk;rw[nK]at hk;have hi:k/s<len:=Nat.div_lt_of_lt_mul (by rw[au6];exact hk);have hj:k % s<s:=Nat.mod_lt _ hs;have hc:=gS (k/s) hi (k % s) hj;have cy:k/s*s+k % s=k:=by rw[au6];exact Nat.div_add_mod k s
     rw[cy]at hc;have qz:=(j_ (hg ⟨k/s,hi⟩).1).1;rw[aqE (by omega)]at hc;rw[IM hc,hc];rfl
    ·intro i e' j c gO hc;rw[List.getElem?_map,List.getElem?_ofFn]at gO;split at gO
     ·rename_i hi;simp only[Option.map_some,aqH]at gO;subst gO;have hj:j<s:=by have:=(List.getElem?_eq_some_iff.1 hc).1;rw[bC]at this;exact this
      have lZ:=gS i hi j hj;have qz:=(j_ (hg ⟨i,hi⟩).1).1;rw[aqE (by omega)]at lZ;simp only[lZ,Option.getD_some];exact(hg ⟨i,hi⟩).2.2.2.2 j c _ hc (aqE _)
     ·simp at gO
theorem kc{P:Program}{t:TypeId}{fs:Array Field}{cs:List Value}{fuel:Nat}{x:DataW H×List MemPlace}(ht:P.underlying t=some (.struct fs))(h:arB enc P w 0 sp held fuel t cs=some x):
 ∃n,fuel=n+1∧∀(i:Nat) (ty:TypeId) (off k:Nat),(fs[i]?).map (fun f:Field=>(f.type,f.offset))=some (ty,off)→P.cellsOf ty=k→∃y,bk y.1<bk x.1∧arB enc P w 0 sp held n ty ((cs.drop off).take k)=some y:=by
 obtain⟨xs,n,h1,hx,_,h4,h5⟩:=DataW.trod_struct ht h;refine⟨n,h1,fun i ty off k hi hk=>?_⟩;obtain⟨f,hf,NG⟩:=Option.map_eq_some_iff.1 hi;simp only[Prod.mk.injEq]at NG;obtain⟨rfl,rfl⟩:=NG
 have Cf:i<xs.length:=by
  rw[h4];exact(Array.getElem?_eq_some_iff.1 hf).1
 have:=h5 i f hf;rw[aqE Cf,hk]at this;refine⟨_,?_,this⟩;have hb:bk x.1=ar6 (xs.map (·.1))+1:=by rw[hx];rfl
 have:=Ew (l:=xs.map (·.1)) (d:=xs[i].1) (aq5.2 ⟨_,aqI Cf,rfl⟩);rw[hb];omega
theorem apr:∀(fuel:Nat) (us:List Value) (x:DataW H×List MemPlace),arB enc aqD w 0 sp held fuel 84 us=some x→us.length=4→∃t:Tm,nN t∧jl t≤bk x.1∧ax (eo (allM w)) (cellsOf (dB t)) us:=by
 intro fuel;induction fuel using Nat.strongRecOn with
 |ind fuel ih=>
  intro us x h hl;obtain⟨a,b,c,d,rfl⟩:=ach hl;obtain⟨n,hn,hf⟩:=kc ajz h;obtain⟨_,_,h0⟩:=hf 0 3 0 1 ajF Ga;obtain⟨_,_,h1⟩:=hf 1 3 1 1 ajG Ga;obtain⟨_,_,h2⟩:=hf 2 9 2 1 ajH Yc;obtain⟨y,hy,h3⟩:=hf 3 48 3 1 ajI aa8;obtain⟨k,r0⟩:=qK h0;obtain⟨m,r1⟩:=qK h1;obtain⟨s,w2,r2⟩:=D7 h2;obtain⟨ts,hs,hw,hb,r3⟩:=nZ (w:=w) dB (s:=4) (by omega) Yd nN jl acg afZ (fun n' oM x' Cj ib cd _=>ih n' (by omega) oM x' ib cd) h3;refine⟨.mk k m s ts,?_,?_,?_⟩
  ·rw[mC];exact⟨w2,hs,hw⟩
  ·rw[←Hq]at hb;simp only[jl];split<;>omega
  ·rw[ug];exact ax.cons r0 (ax.cons r1 (ax.cons r2 (ax.cons r3 ax.nil)))
theorem ac4{n:Nat}{u:Value}{x:DataW H×List MemPlace}(h:arB enc aqD w 0 sp held n 48 [u]=some x):∃l:List Tm,Sm l∧(∀f∈l,nN f)∧cm l≤bk x.1∧Rd w (iT l) u:=by
 obtain⟨l,h1,h2,h3,h4⟩:=nZ (w:=w) dB (s:=4) (by omega) Yd nN jl acg afZ (fun n' oM x' _ ib cd _=>apr n' oM x' ib cd) h;exact⟨l,h1,h2,by rw[Hq];omega,h4⟩
abbrev ZA(a:At):Nat:=cm a.ts
abbrev ZG(a:Gl):Nat:=cm a.ts
theorem ah4(fuel:Nat)(us:List Value)(x:DataW H×List MemPlace)(h:arB enc aqD w 0 sp held fuel 50 us=some x)(hl:us.length=2):∃f:At,rZ f∧ZA f≤bk x.1∧ax (eo (allM w)) (cellsOf (BQ f)) us:=by
 obtain⟨a,b,rfl⟩:=VZ hl;obtain⟨n,hn,hf⟩:=kc acf h;obtain⟨_,_,h0⟩:=hf 0 9 0 1 ajJ Yc;obtain⟨_,hy,h1⟩:=hf 1 48 1 1 ajK aa8;obtain⟨s,w0,r0⟩:=D7 h0;obtain⟨ts,w1,v1,z1,r1⟩:=ac4 h1;exact⟨⟨s,ts⟩,⟨w0,w1,v1⟩,by show cm ts≤_;omega,ax.cons r0 (ax.cons r1 ax.nil)⟩
theorem ac5{n:Nat}{u:Value}{x:DataW H×List MemPlace}(h:arB enc aqD w 0 sp held n 34 [u]=some x):∃l:List At,Sm l∧(∀f∈l,rZ f∧ZA f≤bk x.1)∧Rd w (mP l) u:=by
 obtain⟨l,h1,h2,h3,h4⟩:=nZ (w:=w) BQ (s:=2) (by omega) (fun _=>rfl) rZ ZA akP afY (fun n' oM x' _ ib cd _=>ah4 n' oM x' ib cd) h;exact⟨l,h1,fun f hf=>⟨h2 f hf,by have:=FD (aq5.2 ⟨f,hf,rfl⟩:ZA f∈l.map ZA);omega⟩,h4⟩
theorem aps(fuel:Nat)(us:List Value)(x:DataW H×List MemPlace)(h:arB enc aqD w 0 sp held fuel 88 us=some x)(hl:us.length=3):∃f:Gl,r6 f∧ZG f≤bk x.1∧ax (eo (allM w)) (cellsOf (G9 f)) us:=by
 obtain⟨a,b,c,rfl⟩:=ak4 hl;obtain⟨n,hn,hf⟩:=kc akM h;obtain⟨_,_,h0⟩:=hf 0 3 0 1 ak1 Ga;obtain⟨_,_,h1⟩:=hf 1 9 1 1 ak2 Yc;obtain⟨_,hy,h2⟩:=hf 2 48 2 1 ak3 aa8;obtain⟨op,r0⟩:=qK h0;obtain⟨s,w1,r1⟩:=D7 h1;obtain⟨ts,w2,v2,z2,r2⟩:=ac4 h2;exact⟨⟨op,s,ts⟩,⟨w1,w2,v2⟩,by show cm ts≤_;omega,ax.cons r0 (ax.cons r1 (ax.cons r2 ax.nil))⟩
theorem ac6{n:Nat}{u:Value}{x:DataW H×List MemPlace}(h:arB enc aqD w 0 sp held n 66 [u]=some x):∃l:List Gl,Sm l∧(∀f∈l,r6 f∧ZG f≤bk x.1)∧Rd w (qL l) u:=by
 obtain⟨l,h1,h2,h3,h4⟩:=nZ (w:=w) G9 (s:=3) (by omega) (fun _=>rfl) r6 ZG akQ aoF (fun n' oM x' _ ib cd _=>aps n' oM x' ib cd) h;exact⟨l,h1,fun f hf=>⟨h2 f hf,by have:=FD (aq5.2 ⟨f,hf,rfl⟩:ZG f∈l.map ZG);omega⟩,h4⟩
def Uc(B:Nat)(r:Rl):Prop:=(∀a∈r.keep++r.remove,cm a.ts≤B)∧∀a∈r.guard++r.body,cm a.ts≤B
theorem apt(fuel:Nat)(us:List Value)(x:DataW H×List MemPlace)(h:arB enc aqD w 0 sp held fuel 68 us=some x)(hl:us.length=6):∃f:Rl,(RdR f∧Uc (bk x.1) f)∧ax (eo (allM w)) (cellsOf (oc f)) us:=by
 obtain⟨a,b,c,d,e,f,rfl⟩:=aci hl;obtain⟨n,hn,hf⟩:=kc akL h;obtain⟨_,_,h0⟩:=hf 0 9 0 1 akV Yc;obtain⟨_,y1,h1⟩:=hf 1 34 1 1 akW agD;obtain⟨_,y2,h2⟩:=hf 2 34 2 1 akX agD;obtain⟨_,y3,h3⟩:=hf 3 66 3 1 akY agE;obtain⟨_,y4,h4⟩:=hf 4 66 4 1 akZ agE;obtain⟨_,_,h5⟩:=hf 5 3 5 1 ak0 Ga;obtain⟨s,w0,r0⟩:=D7 h0;obtain⟨keep,w1,v1,r1⟩:=ac5 h1;obtain⟨rem,w2,v2,r2⟩:=ac5 h2;obtain⟨guard,w3,v3,r3⟩:=ac6 h3;obtain⟨body,w4,v4,r4⟩:=ac6 h4;obtain⟨vars,r5⟩:=qK h5;refine⟨⟨s,keep,rem,guard,body,vars⟩,⟨⟨⟨w0,fun a ha=>?_,fun a ha=>?_⟩,w1,w2,w3,w4⟩,fun a ha=>?_,fun a ha=>?_⟩,ax.cons r0 (ax.cons r1 (ax.cons r2 (ax.cons r3 (ax.cons r4 (ax.cons r5 ax.nil)))))⟩
 ·rcases aqX.1 ha with ha|ha
  ·exact(v1 a ha).1
  ·exact(v2 a ha).1
 ·rcases aqX.1 ha with ha|ha
  ·exact(v3 a ha).1
  ·exact(v4 a ha).1
 ·rcases aqX.1 ha with ha|ha
  ·have:cm a.ts≤_:=(v1 a ha).2;omega
  ·have:cm a.ts≤_:=(v2 a ha).2;omega
 ·rcases aqX.1 ha with ha|ha
  ·have:cm a.ts≤_:=(v3 a ha).2;omega
  ·have:cm a.ts≤_:=(v4 a ha).2;omega
theorem Uc.mono{B B':Nat}{r:Rl}(h:Uc B r)(hb:B≤B'):Uc B' r:=⟨fun a ha=>aq2 (h.1 a ha) hb,fun a ha=>aq2 (h.2 a ha) hb⟩
theorem ame{fuel:Nat}{us:List Value}{x:DataW H×List MemPlace}(h:arB enc aqD w 0 sp held fuel 25 us=some x)(hl:us.length=2):∃p:Pg,NmP p∧(∀r∈p.rules,Uc (bk x.1) r)∧Rd w (f_ p) (.agg us.toArray):=by
 obtain⟨a,b,rfl⟩:=VZ hl;obtain⟨n,hn,hf⟩:=kc acC h;obtain⟨_,_,h0⟩:=hf 0 22 0 1 akR aoB;obtain⟨y,hy,h1⟩:=hf 1 23 1 1 akS aoC;obtain⟨ds,w0,v0,r0⟩:=BP (w:=w) P_ (s:=2) (by omega) (fun _=>rfl) (fun d=>Sm d.s) akN aoD (fun n' oM x' _ ib cd=>aoH n' oM x' ib cd) h0
 obtain⟨rs,w1,v1,_,r1⟩:=nZ (w:=w) oc (s:=6) (by omega) (fun _=>rfl) (fun r=>RdR r∧Uc (bk y.1) r) (fun _=>0) akO aoE (fun n' oM x' _ ib cd hb=>by
  obtain⟨r,hr,hv⟩:=apt n' oM x' ib cd;exact⟨r,⟨hr.1,hr.2.mono hb⟩,Nat.zero_le _,hv⟩) h1
 refine⟨⟨ds,rs⟩,⟨w0,w1,v0,fun r hr=>(v1 r hr).1⟩,fun r hr=>(v1 r hr).2.mono (by omega),?_⟩;have hR:ax (eo (allM w)) [eI ds,xN rs] [a,b]:=ax.cons r0 (ax.cons r1 ax.nil);exact Rv.agg _ _ hR.1 hR.2
theorem apu(fuel:Nat)(us:List Value)(x:DataW H×List MemPlace)(h:arB enc aqD w 0 sp held fuel 52 us=some x)(hl:us.length=4):∃f:Fa,Aq f∧cm f.a.ts≤bk x.1∧ax (eo (allM w)) (cellsOf (eT f)) us:=by
 obtain⟨a,b,c,d,rfl⟩:=ach hl;obtain⟨n,hn,hf⟩:=kc ajA h;obtain⟨_,_,h0⟩:=hf 0 3 0 1 ajL Ga;obtain⟨_,y1,h1⟩:=hf 1 50 1 2 ajM afY;obtain⟨_,_,h2⟩:=hf 2 47 3 1 ajN PI;obtain⟨id,r0⟩:=qK h0;obtain⟨j,hj,r3⟩:=Al h2;obtain⟨f,hA,hz,hv⟩:=ah4 n _ _ h1 rfl;refine⟨⟨id,f,j⟩,⟨hA,hj⟩,by show cm f.ts≤_;have:cm f.ts≤_:=hz;omega,?_⟩;obtain⟨n',Cj,hg⟩:=kc acf h1;have Tt:ax (eo (allM w)) [iS f.s,iT f.ts] [b,c]:=hv;obtain⟨eN,SR⟩:=Tt;exact ax.cons r0 (ax.cons (SR 0 _ _ rfl rfl) (ax.cons (SR 1 _ _ rfl rfl) (ax.cons r3 ax.nil)))
theorem ac7{n:Nat}{u:Value}{x:DataW H×List MemPlace}(h:arB enc aqD w 0 sp held n 26 [u]=some x):∃l:List Fa,Sm l∧(∀f∈l,Aq f∧cm f.a.ts≤bk x.1)∧Rd w (kb l) u:=by
 obtain⟨l,h1,h2,h3,h4⟩:=nZ (w:=w) eT (s:=4) (by omega) (fun _=>rfl) Aq (fun f=>cm f.a.ts) ajD aod (fun n' oM x' _ ib cd _=>apu n' oM x' ib cd) h;exact⟨l,h1,fun f hf=>⟨h2 f hf,by have:=FD (aq5.2 ⟨f,hf,rfl⟩:cm f.a.ts∈l.map fun f=>cm f.a.ts);omega⟩,h4⟩
theorem apv{fuel:Nat}{us:List Value}{x:DataW H×List MemPlace}(h:arB enc aqD w 0 sp held fuel 29 us=some x)(hl:us.length=5):∃m:Me,IQ m∧(∀f∈m.facts++m.past,Aq f∧cm f.a.ts≤bk x.1)∧Rd w (gG m) (.agg us.toArray):=by
 obtain⟨a,b,c,d,e,rfl⟩:=ajZ hl;obtain⟨n,hn,hf⟩:=kc ace h;obtain⟨_,y0,h0⟩:=hf 0 26 0 1 ajU afX;obtain⟨_,y1,h1⟩:=hf 1 26 1 1 ajV afX;obtain⟨_,_,h2⟩:=hf 2 27 2 1 ajW aoc;obtain⟨_,_,h3⟩:=hf 3 3 3 1 ajX Ga;obtain⟨_,_,h4⟩:=hf 4 3 4 1 ajY Ga;obtain⟨facts,w0,v0,r0⟩:=ac7 h0;obtain⟨past,w1,v1,r1⟩:=ac7 h1;obtain⟨log,w2,v2,r2⟩:=aj0 h2;obtain⟨nx,r3⟩:=qK h3;obtain⟨gv,r4⟩:=qK h4;refine⟨⟨facts,past,log,nx,gv⟩,⟨w0,w1,w2,fun f hf=>(v0 f hf).1.wf,fun f hf=>(v1 f hf).1.wf,v2⟩,fun f hf=>?_,?_⟩
 ·rcases aqX.1 hf with hf|hf
  ·exact⟨(v0 f hf).1,by have:=(v0 f hf).2;omega⟩
  ·exact⟨(v1 f hf).1,by have:=(v1 f hf).2;omega⟩
 have hR:ax (eo (allM w)) [kb facts,kb past,D3 log,iI nx,iI gv] [a,b,c,d,e]:=ax.cons r0 (ax.cons r1 (ax.cons r2 (ax.cons r3 (ax.cons r4 ax.nil))));exact Rv.agg _ _ hR.1 hR.2
end Go.Proofs.YtggffkaadeagbaaGreat
