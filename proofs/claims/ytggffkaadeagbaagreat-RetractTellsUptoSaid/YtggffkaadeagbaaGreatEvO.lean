/- Lemmas over the model, without conditions of their own: code on expressions is sound (1). -/
import Derived.Test.YtggffkaadeagbaaGreatEvN
open Nat renaming le_refl->asR,eq_of_beq_eq_true->asV,blt->atQ
open List renaming getElem?_append_left->asY,append_assoc->atf,getElem?_set_ne->avT,all_eq_true->as6,mem_of_getElem?->asZ,getElem?_eq_some_iff->asM,getElem?_map->as4,getElem?_range->avs,getElem?_eq_getElem->asL,map_cons->atJ,nodup_cons->awu,length_map->auk,prefix_refl->atB,append_nil->as9,isEmpty_iff->atY,eq_nil_of_length_eq_zero->atr,any_eq_true->aws,mem_filter->atW
open Option renaming map_eq_some_iff->asS,bind_some->asU,bind_eq_some_iff->as_,map_some->atl
open Option.some renaming injEq->asP
open Bool renaming and_eq_true->asN,not_eq_true'->atD,or_eq_true->atw,false_eq_true->atn,not_false->axM,not_true->avI,false_and->axN
open Prod.mk renaming injEq->ati
open Array renaming getElem?_eq_some_iff->atI
open Go.Op renaming equal->avX,equalIn->aue
open Classical renaming propDecidable->ayq
open List.cons renaming injEq->atK
open Prod renaming fst->avx
open Option renaming some->aa,none->ah
open Bool renaming true->ab,false->af
set_option linter.all false
namespace Go.Ev
variable{P:Program}{N:Nat}{σ ao:St}{R R':Rs}{φ aL:Ph}{E:Nat->Env}{ν q0 vs:List IV}{V:SS}{d t:Nat}
theorem J.Qn{Γ:Gm SE}{L:List (LO SE)}(hJ:J (au P ν) R φ Γ L E σ){pv:PV SE}(h:VR (au P ν) R φ L σ ((E d).at t) pv):J (au P ν) R φ (Pq d t pv Γ) L E σ:=by
 refine{hJ with slot:=λd' t' Dy E4=>?_};rcases nL E4 with⟨rfl,rfl,rfl⟩|⟨_,h3⟩
 ·exact h
 ·exact hJ.slot d' t' Dy (HF Γ h3).2
theorem Xe(hJ:J (au P ν) R φ V.g V.l E σ)(d t:Nat):∃R',J (au P ν) R' φ (xN d t V).g (xN d t V).l E σ/\(xN d t V).n=V.n/\(xN d t V).ln=V.ln:=by
 unfold xN;split
 ·rename_i k hg;split
  ·rename_i s st cut fr es hk;obtain⟨R',h1,h2,h3⟩:=G4 hJ k;have hv:=hJ.slot d t _ hg;have T0:cI (au P ν) R' φ (pY k V).l σ ((E d).at t) (.sr k):=h1.My hv;obtain⟨y,a1,a2,a3⟩:=PM h2 (h3 _ _ _ _ _ hk) T0;refine⟨R',h2.Qn (pv:=.one (.w fr es)) ⟨y,a1,a2,a3⟩,?_,?_⟩
   ·rw[EZ];exact h1.2.1
   ·rw[Xd];exact h1.2.2.1
  ·exact⟨R,hJ,rfl,rfl⟩
 ·exact⟨R,hJ,rfl,rfl⟩
theorem z8:∀(ws:List (Nat×Nat×Nat)) {V:SS} {R:Rs},J (au P ν) R φ V.g V.l E σ->∃R',J (au P ν) R' φ (settle ws V).g (settle ws V).l E σ/\(settle ws V).n=V.n/\(settle ws V).ln=V.ln
 |[],V,R,hJ=>⟨R,hJ,rfl,rfl⟩
 |(d,t,m)::ws,V,R,hJ=>by
  simp only[settle];split
  ·obtain⟨R1,h1,h2,h3⟩:=Xe hJ d t;obtain⟨R2,h4,h5,h6⟩:=z8 ws h1;exact⟨R2,h4,h5.trans h2,h6.trans h3⟩
  ·exact z8 ws hJ
theorem Qo{L:List (LO SE)}{Γ:Gm SE}(hJ:J (au P ν) R φ Γ L E σ){x:IV}{b:Bool}{s:Nat}(hx:cI (au P ν) R φ L σ x (.nl b s)):
 J (au P ν) R φ Γ (L++[.row s af af af (.tr s .an)]) E σ/\kO (au P ν) (au P ν) R φ L σ R φ (L++[.row s af af af (.tr s .an)]) σ (λ_=>False)/\cI (au P ν) R φ (L++[.row s af af af (.tr s .an)]) σ x (.sr L.length):=by
 obtain⟨hs,hx⟩:=hx;have hz:(SE.tr s .an).den P ν=aa (.tree s []):=by simp[SE.den,hs]
 obtain⟨h1,h2⟩:=hJ.Bf (fr:=af) hs hz;exact⟨h2,h1,s,af,af,af,_,[],by simp,hz,.inl ⟨xQ hJ (asR _),rfl,by subst hx;cases b<;>simp⟩⟩
theorem All2.set{α β:Type}{r:α->β->Prop}:∀{as:List α} {bs:List β} {i:Nat} {b:β},All2 r as bs->(∀a,as[i]?=aa a->r a b)->All2 r as (bs.set i b)
 |[],[],i,b,_,_=>by simp;trivial
 |a::as,b'::bs,i,b,h,hr=>by
  cases i with
  |zero=>exact⟨hr a rfl,h.2⟩
  |succ i=>exact⟨h.1,All2.set h.2 λa ha=>hr a (by simpa using ha)⟩
 |[],_::_,_,_,h,_=>h.elim
 |_::_,[],_,_,h,_=>h.elim
theorem Zs(hJ:J (au P ν) R φ V.g V.l E σ)(d t j:Nat):J (au P ν) R φ (A7 d t j V).g (A7 d t j V).l E σ/\(A7 d t j V).n=V.n/\(A7 d t j V).ln=V.ln:=by
 unfold A7;split
 ·rename_i b s hg;split
  ·obtain⟨h1,_,h2⟩:=Qo hJ (x:=(E d).at t) (b:=b) (s:=s) (hJ.slot d t _ hg);exact⟨h1.Qn (pv:=.one (.sr V.l.length)) h2,rfl,rfl⟩
  ·exact⟨hJ,rfl,rfl⟩
 ·rename_i cs hg;split
  ·rename_i b s hc;obtain⟨xs,zd,wS⟩:=hJ.slot d t _ hg;obtain⟨x,hx,hr⟩:=wS.As hc;obtain⟨h1,h3,h2⟩:=Qo hJ hr;refine⟨h1.Qn (pv:=.ag _) ⟨xs,zd,(wS.mono λ_ _ bS=>bS.step h3 (Cl.aZ _)).set λa ha=>?_⟩,rfl,rfl⟩;rw[hx]at ha;cases ha;exact h2
  ·exact⟨hJ,rfl,rfl⟩
 ·exact⟨hJ,rfl,rfl⟩
theorem Zt(hJ:J (au P ν) R φ V.g V.l E σ)(k j:Nat):J (au P ν) R φ (A8 k j V).g (A8 k j V).l E σ/\(A8 k j V).n=V.n/\(A8 k j V).ln=V.ln:=by
 unfold A8;split
 ·rename_i cs hk;split
  ·rename_i b s hc;obtain⟨id,cJ,g1,g2,g3,g4⟩:=hJ.obj k _ hk;obtain⟨x,hx,hr⟩:=g4.As hc;obtain⟨h1,h3,h2⟩:=Qo hJ hr;have py:=dj hk;have nK:(V.l++[LO.row s af af af (SE.tr s SE.an)])[k]?=aa (.var cs):=by rw[asY py];exact hk
   obtain⟨dK,bD⟩:=h1.tQ (R':=R) (bad:=λ_=>False) (kj:=.var (cs.set j (.sr V.l.length))) (eT:=.cells cJ 0 0) g1 nK (λ_ _=>rfl)
    (λm hm=>by rw[g2]at hm;cases hm) (λm _ _ _ hm=>by rw[g2]at hm;cases hm) (λm _ _ _ hm=>by rw[g2]at hm;cases hm)
    (λ_ _=>⟨_,rfl⟩) (λ_ _ h=>by cases h) (λ_ _ _ _ _ h=>by cases h) (λ_ _ pv _=>pv.aZ) (λ_ o _ _=>o.aZ)
    (λdK=>⟨id,cJ,g1,g2,by rw[St.c_,if_pos rfl],((g4.mono λ_ _ bS=>bS.step h3 (Cl.aZ _)).set λa ha=>by rw[hx]at ha;cases ha;exact h2).mono λ_ _ bS=>bS.step dK (Cl.aZ _)⟩)
   have IS:σ.put id (.cells cJ 0 0)=σ:=by
    unfold St.put
    have:σ.t.set id (.cells cJ 0 0)=σ.t:=T.WF.ext (hJ.wf.set _ _) hJ.wf λi=>by
     rw[T.gj];split
     ·rename_i hh;subst hh;exact g3.symm
     ·rfl
    rw[this]
   rw[IS]at bD
   have sC:(V.l++[LO.row s af af af (SE.tr s SE.an)]).set k (LO.var (cs.set j (Cl.sr V.l.length)))=V.l.set k (LO.var (cs.set j (Cl.sr V.l.length)))++[LO.row s af af af (SE.tr s SE.an)]:=by
    rw[List.set_append_left _ _ py]
   rw[sC]at bD;exact⟨bD,rfl,rfl⟩
  ·exact⟨hJ,rfl,rfl⟩
 ·exact⟨hJ,rfl,rfl⟩
theorem CS(h:Hint):∀(l:List (Nat×Nat×Nat)) {V:SS},J (au P ν) R φ V.g V.l E σ->J (au P ν) R φ (u_ h l V).g (u_ h l V).l E σ/\(u_ h l V).n=V.n/\(u_ h l V).ln=V.ln
 |[],V,hJ=>⟨hJ,rfl,rfl⟩
 |(d,t,j)::l,V,hJ=>by
  simp only[u_];split
  ·obtain⟨h1,h2,h3⟩:=Zs hJ d t j;obtain⟨h4,h5,h6⟩:=CS h l h1;exact⟨h4,h5.trans h2,h6.trans h3⟩
  ·exact CS h l hJ
theorem JC:∀(l:List (Nat×Nat)) {V:SS},J (au P ν) R φ V.g V.l E σ->J (au P ν) R φ (va l V).g (va l V).l E σ/\(va l V).n=V.n/\(va l V).ln=V.ln
 |[],V,hJ=>⟨hJ,rfl,rfl⟩
 |(k,j)::l,V,hJ=>by
  simp only[va];obtain⟨h1,h2,h3⟩:=Zt hJ k j;obtain⟨h4,h5,h6⟩:=JC l h1;exact⟨h4,h5.trans h2,h6.trans h3⟩
theorem Qp(h:Hint)(hJ:J (au P ν) R φ V.g V.l E σ):∃R',J (au P ν) R' φ (vb h (settle h.yy V)).g (vb h (settle h.yy V)).l E σ/\(vb h (settle h.yy V)).n=V.n/\(vb h (settle h.yy V)).ln=V.ln:=by
 obtain⟨R',h1,h2,h3⟩:=z8 h.yy hJ;obtain⟨h4,h5,h6⟩:=CS h h.I2.reverse h1;obtain⟨h7,h8,h9⟩:=JC h.yx.reverse h4;exact⟨R',h7,h8.trans (h5.trans h2),h9.trans (h6.trans h3)⟩
end Go.Ev
namespace Go.Ev
variable{P:Program}{N:Nat}{σ ao:St}{R R':Rs}{φ aL:Ph}{E:Nat->Env}{ν:List IV}{ro:Nat}{ι:Io}{w:World}{cfg:a_}{self:nX}
variable{C:Cr}{Q:IV->Prop}{K:List (List IV->Prop)}{V:SS}{d f0:Nat}{o:Oper}{k:PV SE->SS->ak}{L:List (LO SE)}{Γ:Gm SE}
theorem JD{g:FuncId}{bs:List (Nat×Nat)}{args:List (PV SE)}{t:TypeId}{c:FuncId}{uT:List (Nat×Nat)}(h:FY cfg g bs args=aa (t,c,uT)):bs=[]/\args=[.one (.fn c uT)]/\guardOf cfg g=aa t:=by
 unfold FY at h;split at h
 ·rw[asS]at h;obtain⟨t',h1,h2⟩:=h;cases h2;exact⟨rfl,rfl,h1⟩
 ·cases h
theorem E6{j:Nat}(h:ED d V=aa j):cA d 2 V.g=aa (.one (.pt j 0 1))/\V.l[j]?=aa (.var [.v (.i 0)]):=by
 unfold ED at h;split at h
 ·rename_i j' hg;split at h
  ·rename_i z hj;split at h
   ·rename_i hz;cases h;have:z=0:=by simpa using hz
    subst this;exact⟨hg,hj⟩
   ·cases h
  ·cases h
 ·cases h
theorem Qq(hJ:J (au P ν) R φ V.g V.l E σ){j:Nat}(h:ED d V=aa j){rz:Nat}(he:(E d).at 2=.ptr rz 0 0 1):φ j=aa rz/\R rz=ah/\σ.at rz=aa (.cells [.int 0] 0 0):=by
 obtain⟨hg,hj⟩:=E6 h;obtain⟨id,cs,h1,h2,h3⟩:=hJ.slot d 2 _ hg;obtain⟨bB,cJ,h4,h5,h6,h7⟩:=hJ.obj j _ hj;rw[he]at h3;have hid:id=rz:=by injection h3 with e;exact e.symm
 subst hid;rw[h1]at h4;cases h4;refine⟨h1,h5,?_⟩;rw[h6]
 match cJ,h7 with
 |[x],h7=>
  obtain⟨y,h8,h9,_⟩:=h7.1;simp only[au,SE.den,asP]at h8;subst h8;rw[cb h9]
theorem J.Zu(hJ:J (au P ν) R φ Γ L E σ){j id:Nat}{cs cz:List (Cl SE)}{cJ:List IV}(h1:φ j=aa id)(hj:L[j]?=aa (.var cs))(h2:R id=ah)(hc:All2 (cI (au P ν) R φ L σ) cJ cz):
 J (au P ν) R φ Γ (L.set j (.var cz)) E (σ.put id (.cells cJ 0 0))/\kO (au P ν) (au P ν) R φ L σ R φ (L.set j (.var cz)) (σ.put id (.cells cJ 0 0)) (λ_=>False):=by
 obtain⟨dK,bD⟩:=hJ.tQ (R':=R) (bad:=λ_=>False) (kj:=.var cz) (eT:=.cells cJ 0 0) h1 hj (λ_ _=>rfl)
  (λm hm=>by rw[h2]at hm;cases hm) (λm _ _ _ hm=>by rw[h2]at hm;cases hm) (λm _ _ _ hm=>by rw[h2]at hm;cases hm)
  (λ_ _=>⟨_,rfl⟩) (λ_ _ h=>by cases h) (λ_ _ _ _ _ h=>by cases h) (λ_ _ pv _=>pv.aZ) (λ_ o _ _=>o.aZ)
  (λdK=>⟨id,_,h1,h2,by rw[St.c_,if_pos rfl],hc.mono λ_ _ bS=>bS.step dK (Cl.aZ _)⟩)
 exact⟨bD,dK⟩
theorem J.afg(hJ:J (au P ν) R φ Γ L E σ)(ob eT:Ob):J (au P ν) R (bX φ L.length σ.n) Γ ((L++[LO.dead]).set L.length LO.dead) E ((σ.add ob).put σ.n eT)/\
 kO (au P ν) (au P ν) R φ L σ R (bX φ L.length σ.n) (L++[LO.dead]) (σ.add ob) (λ_=>False)/\
 kO (au P ν) (au P ν) R (bX φ L.length σ.n) (L++[LO.dead]) (σ.add ob) R (bX φ L.length σ.n) ((L++[LO.dead]).set L.length LO.dead) ((σ.add ob).put σ.n eT) (λ_=>False):=by
 have hs:=FR hJ ob .dead;have bD:=hJ.yv ob .dead trivial;have hn:=hJ.rJ
 obtain⟨dP,ff⟩:=bD.tQ (k:=L.length) (id:=σ.n) (lo:=.dead) (R':=R) (bad:=λ_=>False) (kj:=.dead) (eT:=eT) (by simp[bX]) (by simp) (λ_ _=>rfl)
  (λm hm=>by rw[hn]at hm;cases hm) (λm _ _ _ hm=>by rw[hn]at hm;cases hm) (λm _ _ _ hm=>by rw[hn]at hm;cases hm)
  (λ_ h=>by cases h) (λ_ _ h=>by cases h) (λ_ _ _ _ _ h=>by cases h) (λ_ _ pv _=>pv.aZ) (λ_ o _ _=>o.aZ) (λ_=>trivial)
 exact⟨ff,hs,dP⟩
theorem M1(hC:jr P C)(bj:pI P C Q self)(hJ:J (au P ν) R φ V.g V.l E σ)(hn:ν.length=V.n)(hK:K.length=V.lv)(ct:(E d).n=V.nt){g c:FuncId}{t:TypeId}{dst:Option Nat}{uT:List (Nat×Nat)}{cl:IV}(hg:g<P.funcs.size)
 (ek:VR (au P ν) R φ V.l σ cl (.one (.fn c uT)))(hs:(I6 P cfg self d f0 dst g t c uT V k).sat P C Q K ν){RW:Nat->IV->St->Prop}
 (hk:∀(pv:PV SE) (V':SS) μ K' R' aL E' ao v,wy P d E K ν V.nt V' μ K' R' aL E' ao->E' d=E d->VR (au P (ν++μ)) R' aL V'.l ao v pv->(k pv V').sat P C Q K' (ν++μ)->∃b,∀N,b<=N->ao.n<=N/\RW N v ao):
 ∃b,∀N,b<=N->dQ P N g [cl] σ (RW N):=by
 unfold I6 at hs;obtain⟨xs,z,hx,hc,hs⟩:=hs;obtain⟨t',rfl,aoZ⟩:=(hC _ _ _ _ hc).2.2.2.1 g hg rfl
 have htt:t'=t:=by
  unfold iY at hx;simp[d_,SE.den]at hx;omega
 subst htt;have hJu:J (au P (ν++[z])) R φ V.g V.l E σ:=hJ.up λe z h=>SE.c9 P e h;have ao0:VR (au P (ν++[z])) R φ V.l σ cl (.one (.fn c uT)):=ek;have jd:All2 (cI (au P (ν++[z])) R φ V.l σ) [.int 0] [.v (.i 0)]:=⟨⟨.int 0,rfl,.raw _,rfl⟩,trivial⟩;have bE:=FR hJu (.cells [.int 0] 0 0) (.var [.v (.i 0)])
 have bD:J (au P (ν++[z])) R (bX φ V.l.length σ.n) V.g (V.l++[.var [.v (.i 0)]]) E (σ.add (.cells [.int 0] 0 0)):=
  hJu.yv _ _ ⟨σ.n,[.int 0],by simp[bX],hJu.rJ,by simp,jd.mono λ_ _ bS=>bS.step bE (Cl.aZ _)⟩
 have hpt:VR (au P (ν++[z])) R (bX φ V.l.length σ.n) (V.l++[.var [.v (.i 0)]]) (σ.add (.cells [.int 0] 0 0)) (.ptr σ.n 0 0 1) (.one (.pt V.l.length 0 1)):=⟨σ.n,[.v (.i 0)],by simp[bX],by simp,rfl⟩;have acn:VR (au P (ν++[z])) R (bX φ V.l.length σ.n) (V.l++[.var [.v (.i 0)]]) (σ.add (.cells [.int 0] 0 0)) cl (.one (.fn c uT)):=ao0.step bE (PV.aZ _)
 let e1:Env:=(⟨3,.lf⟩:Env).put (aa 2) (.ptr σ.n 0 0 1)
 have mP:e1.at 2=.ptr σ.n 0 0 1:=dT (by decide);have ao1:e1.n=3:=eZ ..
 have ff:J (au P (ν++[z])) R (bX φ V.l.length σ.n) ((d+1,2,.one (.pt V.l.length 0 1))::jU (d+1) V.g) (V.l++[.var [.v (.i 0)]]) (ri E (d+1) e1) (σ.add (.cells [.int 0] 0 0)):=by
  refine{bD with slot:=λd' t pv E4=>?_};rcases nL E4 with⟨rfl,rfl,rfl⟩|⟨aW,E4⟩
  ·rw[cm,mP];exact hpt
  ·obtain⟨h1,h2⟩:=uH E4;rw[gK _ _ _ h1];exact bD.slot d' t pv h2
 have bV:∃fn,P.funcs[c]?=aa fn/\fn.body.isSome=ab/\(fn.name != "runtime.NumGoroutine")=ab:=by
  unfold sU at hs;split at hs<;>first|(exact hs.elim)|skip
  rename_i fn bV;split at hs<;>first|(exact hs.elim)|skip
  rename_i body hb;split at hs<;>first|(exact hs.elim)|skip
  split at hs<;>first|(exact hs.elim)|skip
  rename_i mO;simp only[asN]at mO;exact⟨fn,bV,by simp[hb],mO.2⟩
 obtain⟨fn,bV,hb,lK⟩:=bV;obtain⟨ys,iV,qZ⟩:=kG (args:=[]) acn bV hb lK;rw[List.nil_append]at iV
 obtain⟨_,_,_,_,b,hcx⟩:=CQ (d:=d+1) (V:={V with n:=V.n+1,l:=V.l++[.var [.v (.i 0)]],g:=(d+1,2,.one (.pt V.l.length 0 1))::jU (d+1) V.g,nt:=3}) (ν:=ν++[z]) (E:=ri E (d+1) e1)
  (RW:=λN _ dw=>dw.at σ.n=aa (.cells [.int 0] 0 0)/\dw.n<=N/\RW N (.int 0) (dw.put σ.n (.cells [.int 0] 0 0)))
  (PW:=λN v dw=>∃u,v=.du t' (.agg [.raw u])/\aj (.raw u)=ab/\dw.at σ.n=aa (.cells [.int 0] 0 0)/\dw.n+1<=N/\σ.n<dw.n/\RW N (.raw u) (xM dw σ.n (.raw u)))
  bj ff (by simp[hn]) hK (by rw[cm,ao1]) qZ hs (by
   intro pv V' μ K' R' aL E' ao v hf nN hv bt;split at bt<;>first|(exact bt.elim)|skip
   rename_i j hj;have Qr:(E' (d+1)).at 2=.ptr σ.n 0 0 1:=by rw[nN,cm,mP]
   obtain⟨h1,h2,h3⟩:=Qq hf.hJ hj Qr;obtain⟨_,Ds⟩:=E6 hj;obtain⟨uU,_⟩:=hf.hJ.Zu h1 Ds h2 (cJ:=[.int 0]) (cz:=[.v (.i 0)]) ⟨⟨.int 0,rfl,.raw _,rfl⟩,trivial⟩;have yQ:E' d=E d:=by rw[hf.hE d (by omega),gK _ _ _ (by omega)]
   obtain⟨b,hb⟩:=hk (.one (.v (.i 0))) {V' with g:=jU (d+1) V'.g,nt:=V.nt,l:=V'.l.set j (.var [.v (.i 0)])} ([z]++μ) K' R' aL E' (ao.put σ.n (.cells [.int 0] 0 0)) (.int 0)
    ⟨hf.hK,hf.f_,rfl,by rw[<-atf];exact zY (V:={V' with l:=V'.l.set j (.var [.v (.i 0)])}) uU (d+1),by rw[<-atf];exact hf.hn,λi hi=>by rw[hf.hE i (by omega),gK _ _ _ (by omega)],by rw[yQ]⟩ yQ
    (by rw[<-atf];exact⟨.int 0,rfl,.raw _,rfl⟩) (by rw[<-atf];exact bt)
   exact⟨max b ao.n,λN hN=>⟨by omega,h3,by omega,(hb N (by omega)).2⟩⟩) (by
   intro tt pv V' μ K' R' aL E' ao v hf nN hv bt;split at bt<;>first|(exact bt.elim)|skip
   rename_i e j hj;split at bt<;>first|(exact bt.elim)|skip
   rename_i htt;have:=asV htt;subst this;obtain⟨⟨y0,hy0⟩,bt⟩:=bt;have Qr:(E' (d+1)).at 2=.ptr σ.n 0 0 1:=by rw[nN,cm,mP]
   obtain⟨h1,h2,h3⟩:=Qq hf.hJ hj Qr;obtain⟨_,Ds⟩:=E6 hj;obtain⟨vs,rfl,ij⟩:=hv
   obtain⟨x0,rfl,y,AZ,IY,MB⟩:∃x0,vs=[x0]/\∃y,au P (ν++[z]++μ) e=aa y/\iX x0 y/\aj y=ab:=by
    match vs,ij with
    |[x0],ij=>exact⟨x0,rfl,ij.1⟩
   have hyr:aA y=ab:=by
    have abV:e.den P (ν++[z]++μ)=aa y:=AZ;simp only[SE.den,abV,asU]at hy0;split at hy0
    ·assumption
    ·cases hy0
   obtain⟨u,rfl⟩:∃u,y=.raw u:=by
    cases y<;>simp[aA]at hyr;exact⟨_,rfl⟩
   have hxu:=cb IY;subst hxu;obtain⟨M3,bN,gG⟩:=hf.hJ.afg (.cells [.int 0] 0 0) (.cells [.raw u] 0 0);have ao2:=dj Ds;have aci:bX aL V'.l.length ao.n j=aa σ.n:=by simp[bX,show j≠V'.l.length by omega,h1]
   have ao3:((V'.l++[LO.dead]).set V'.l.length LO.dead)[j]?=aa (.var [.v (.i 0)]):=by
    rw[avT (by omega),asY ao2];exact Ds
   obtain⟨hJb,_⟩:=M3.Zu aci ao3 h2 (cJ:=[.raw u]) (cz:=[.v e]) ⟨⟨.raw u,AZ,.raw _,MB⟩,trivial⟩;have ai:=(hf.hJ.lt j σ.n h1).2;have yQ:E' d=E d:=by rw[hf.hE d (by omega),gK _ _ _ (by omega)]
   obtain⟨b,hb⟩:=hk (.one (.v e)) {V' with g:=jU (d+1) V'.g,nt:=V.nt,l:=((V'.l++[LO.dead]).set V'.l.length LO.dead).set j (.var [.v e])} ([z]++μ) K' R' (bX aL V'.l.length ao.n) E' (xM ao σ.n (.raw u)) (.raw u)
    ⟨hf.hK,hf.f_,rfl,by rw[<-atf];exact zY (V:={V' with l:=((V'.l++[LO.dead]).set V'.l.length LO.dead).set j (.var [.v e])}) hJb (d+1),by rw[<-atf];exact hf.hn,λi hi=>by rw[hf.hE i (by omega),gK _ _ _ (by omega)],by rw[yQ]⟩ yQ
    (by rw[<-atf];exact⟨.raw u,AZ,.raw _,MB⟩) (by rw[<-atf];exact bt)
   refine⟨max b (ao.n+1),λN hN=>⟨by omega,u,rfl,MB,h3,by omega,ai,(hb N (by omega)).2⟩⟩)
 refine⟨max b (σ.n+1),λN hN=>?_⟩;exact aoZ N cl c ys σ _ _ _ iV (by omega) (hcx N (by omega)) (λv dw h=>h) λv dw h=>h
end Go.Ev
namespace Go.Ev
variable{P:Program}{N:Nat}{σ ao:St}{R R':Rs}{φ aL:Ph}{E:Nat->Env}{ν:List IV}{ro:Nat}{ι:Io}{w:World}{cfg:a_}{self:nX}
variable{C:Cr}{Q:IV->Prop}{K:List (List IV->Prop)}{V:SS}{d f0:Nat}{o:Oper}{k:PV SE->SS->ak}{L:List (LO SE)}{Γ:Gm SE}{rd:Option Nat}{df:List Df}
variable{kx:Kx}{sk:List Nat}{ops:Array Oper}{l:List Oper}{kk:SS->ak}{CW:Nat->Env->St->Prop}{CX:Nat->kc}
def mG(e:Env)(sk:List Nat):Prop:=∀t,wH sk t=ab->e.at t=.undef
theorem mG.nil(e:Env):mG e []:=λ_ h=>by cases h
theorem mG.put{e:Env}{sk:List Nat}(h:mG e sk)(dst:Option Nat)(x:IV):mG (e.put dst x) (tX sk dst):=by
 cases dst with
 |none=>exact h
 |some d=>
  intro t ht;obtain⟨h1,h2⟩:=Au ht;rw[fI h2];exact h t h1
theorem mG.add{e:Env}{sk:List Nat}(h:mG e sk){dst:Option Nat}(hd:∀t,dst=aa t->t<e.n):mG (e.put dst .undef) (F4 sk dst):=by
 cases dst with
 |none=>exact h
 |some d=>
  intro t ht;rcases zy ht with rfl|ht
  ·exact dT (hd _ rfl)
  ·exact h.put (aa d) .undef t ht
theorem mG.adK{e:Env}{sk:List Nat}(h:mG e sk){ops:Array Oper}{o:Oper}(hs:ni sk ops o=ab):aQ o ops e=af:=by
 unfold ni at hs;unfold aQ;split at hs<;>first|(cases hs;done)|skip
 rename_i j w hg;rw[hg];simp only;split at hs<;>first|(cases hs;done)|skip
 rename_i t ht;rw[ht];simp only;rw[h t hs];split
 ·rfl
 ·rfl
def Bk(P:Program)(C:Cr)(Q:IV->Prop)(cfg:a_)(self:nX)(kx:Kx)(d f0:Nat)(ops:Array Oper)(rd:Option Nat)(df:List Df)(kk:SS->ak)(CX:Nat->kc)(sk:List Nat)(l:List Oper):Prop:=
 ∀(V:SS) ν K R φ E σ,mG (E d) sk->(iA P cfg self kx d f0 af ops sk l V kk).sat P C Q K ν->J (au P ν) R φ V.g V.l E σ->ν.length=V.n->K.length=V.lv->(E d).n=V.nt->KS P C Q d E K ν V.nt kk (λN e σ=>CX N .normal e σ)->KP P C Q d E K ν V.nt kx (λN v e σ=>CX N (.b_ v) e σ)->
  ∃b,∀N,b<=N->dx P N rd ops l (E d) df σ (CX N)
theorem fN(ih:Bk P C Q cfg self kx d f0 ops rd df kk CX sk l){dst:Option Nat}(nO:∀x,mG ((E d).put dst x) sk)(hd:∀t,dst=aa t->t<(E d).n){nt:Nat}(ct:(E d).n=nt)(ey:KS P C Q d E K ν nt kk (λN e σ=>CX N .normal e σ))(nw:KP P C Q d E K ν nt kx (λN v e σ=>CX N (.b_ v) e σ))
 {V1:SS}{μ:List IV}{K1:List (List IV->Prop)}{R1:Rs}{dI:Ph}{E1:Nat->Env}{aq:St}{x:IV}{pv:PV SE}
 (hJ:J (au P (ν++μ)) R1 dI V1.g V1.l E1 aq)(hn:(ν++μ).length=V1.n)(hK:K<+:K1)(f_:K1.length=V1.lv)(kH:V1.nt=nt)(hE:∀j,j<d->E1 j=E j)(nN:E1 d=E d)
 (hx:VR (au P (ν++μ)) R1 dI V1.l aq x pv)(hs:(iA P cfg self kx d f0 af ops sk l (V1.bP d dst pv) kk).sat P C Q K1 (ν++μ)):
 ∃b,∀N,b<=N->dx P N rd ops l ((E d).put dst x) df aq (CX N):=by
 have bD:=CN (d:=d) (dst:=dst) hJ hx (by rw[nN];exact hd);have Lv:(V1.bP d dst pv).nt=nt:=by cases dst<;>exact kH
 have aco:(V1.bP d dst pv).lv=V1.lv:=by cases dst<;>rfl
 obtain⟨b,hb⟩:=ih (V1.bP d dst pv) (ν++μ) K1 R1 dI _ aq (by rw[cm,nN];exact nO x) hs bD (by rw[EZ];exact hn) (by rw[aco];exact f_) (by rw[cm,eZ,nN,ct,Lv]) (by
  rw[Lv];exact ey.fwd hK (λj hj=>by rw[gK _ _ _ (by omega)];exact hE j hj) (by rw[cm,eZ,nN])) (by
  rw[Lv];exact nw.fwd hK (λj hj=>by rw[gK _ _ _ (by omega)];exact hE j hj) (by rw[cm,eZ,nN]))
 refine⟨b,λN hN=>?_⟩;have:=hb N hN;rw[cm,nN]at this;exact this
theorem Zv{qV:Bool}{g:FuncId}{dp:List (PV SE)}(h:yC P cfg d qV o V=aa (g,dp)):
 ∃c f bs,o.op=.call c/\c.callee=.value f/\bO P d V 0 f=.one (.fn g bs)/\dp=iz P d V c.args.toList c.argTypes.toList++bs.map (λ(p:Nat×Nat)=>.one (.pt p.1 0 p.2)):=by
 unfold yC at h;split at h<;>first|(cases h;done)|skip
 split at h<;>first|(cases h;done)|skip
 rename_i c ho;split at h<;>first|(cases h;done)|skip
 rename_i f hc;split at h<;>first|(cases h;done)|skip
 rename_i g' bs hf;split at h<;>first|(cases h;done)|skip
 simp only[asP,ati]at h;obtain⟨rfl,rfl⟩:=h;exact⟨c,f,bs,ho,hc,hf,rfl⟩
theorem H4{es:List SE}{vs:List IV}(h:iY (P:=P) ν (d_ es)=aa vs):All2 (λ(e:SE) y=>e.den P ν=aa y) es vs:=by
 induction es generalizing vs with
 |nil=>
  unfold iY at h;simp only[d_,SE.den,asP]at h;subst h;trivial
 |cons e es ih=>
  unfold iY at h;simp only[d_,SE.den]at h;cases h1:e.den P ν with
  |none=>rw[h1]at h;simp at h
  |some x=>
   rw[h1]at h;simp only[asU]at h;cases h2:(d_ es).den P ν with
   |none=>rw[h2]at h;simp at h
   |some y=>
    rw[h2]at h;simp only[asU]at h;cases y<;>simp only at h<;>first|(cases h;done)|skip
    rename_i cs;cases h;exact⟨h1,ih (by unfold iY;rw[h2])⟩
theorem acp{g:FuncId}{dst:Option Nat}{dp:List (PV SE)}(h:∀fn,P.funcs[g]?=aa fn->fn.body.isSome=ab->(fn.name != "runtime.NumGoroutine")=ab->False):∃n,FZ P cfg self kx d f0 dst g dp V k=.fail n:=by
 unfold FZ;split
 ·split
  ·rename_i fn bV;split
   ·rename_i hc;simp only[asN]at hc;exact(h fn bV hc.1 hc.2).elim
   ·exact⟨_,rfl⟩
  ·exact⟨_,rfl⟩
 ·unfold sU;split
  ·rename_i fn bV;split
   ·rename_i body hb;split
    ·exact⟨_,rfl⟩
    ·split
     ·rename_i hc;simp only[asN]at hc;exact(h fn bV (by simp[hb]) hc.2).elim
     ·exact⟨_,rfl⟩
   ·exact⟨_,rfl⟩
  ·exact⟨_,rfl⟩
theorem acq(hC:jr P C)(bj:pI P C Q self)(hJ:J (au P ν) R φ V.g V.l E σ)(hn:ν.length=V.n)(hK:K.length=V.lv)(ct:(E d).n=V.nt){g:FuncId}{dst:Option Nat}{args:List IV}{dp:List (PV SE)}(bp:All2 (VR (au P ν) R φ V.l σ) args dp)
 (hs:(FZ P cfg self kx d f0 dst g dp V k).sat P C Q K ν){RW PW:Nat->IV->St->Prop}
 (hk:∀(pv:PV SE) (V':SS) μ K' R' aL E' ao v,wy P d E K ν V.nt V' μ K' R' aL E' ao->E' d=E d->VR (au P (ν++μ)) R' aL V'.l ao v pv->(k pv V').sat P C Q K' (ν++μ)->∃b,∀N,b<=N->ao.n<=N/\RW N v ao)
 (Zr:∀t (pv:PV SE) (V':SS) μ K' R' aL E' ao v,wy P d E K ν V.nt V' μ K' R' aL E' ao->E' d=E d->VR (au P (ν++μ)) R' aL V'.l ao v pv->(kx t pv V').sat P C Q K' (ν++μ)->∃b,∀N,b<=N->ao.n<=N/\PW N (.du t v) ao):
 ∃fn,P.funcs[g]?=aa fn/\fn.body.isSome=ab/\(fn.name != "runtime.NumGoroutine")=ab/\∃b,∀N,b<=N->xg P N g args σ (RW N) (PW N):=by
 unfold FZ at hs;split at hs
 ·rename_i t c uT pU;obtain⟨_,rfl,_⟩:=JD pU;split at hs<;>first|(exact hs.elim)|skip
  rename_i fn bV;split at hs<;>first|(exact hs.elim)|skip
  rename_i bQ;simp only[asN]at bQ
  match args,bp with
  |[cl],bp=>
   obtain⟨b,hb⟩:=M1 hC bj hJ hn hK ct (atI.1 bV).1 bp.1 hs hk;exact⟨fn,bV,bQ.1,bQ.2,b,λN hN=>(hb N hN).toX⟩
 ·exact CQ bj hJ hn hK ct bp hs hk Zr
theorem acr(hC:jr P C)(bj:pI P C Q self)(hJ:J (au P ν) R φ V.g V.l E σ)(hn:ν.length=V.n)(hK:K.length=V.lv)(ct:(E d).n=V.nt){g:FuncId}{dst:Option Nat}{args:List IV}{dp:List (PV SE)}(bp:All2 (VR (au P ν) R φ V.l σ) args dp)
 (hd:∀t,dst=aa t->t<(E d).n)
 {k:SS->ak}(hs:(F0 P cfg self kx d f0 dst g dp V k).sat P C Q K ν){RW PW:Nat->IV->St->Prop}
 (hk:∀(H:SS) vs R' aL E' ao v,J (au P (ν++vs)) R' aL H.g H.l E' ao->(ν++vs).length=H.n->H.lv=V.lv->H.nt=V.nt->(∀j,j<d->E' j=E j)->E' d=(E d).put dst v->(k H).sat P C Q K (ν++vs)->∃b,∀N,b<=N->ao.n<=N/\RW N v ao)
 (Zr:∀t (pv:PV SE) (V':SS) μ K' R' aL E' ao v,wy P d E K ν V.nt V' μ K' R' aL E' ao->E' d=E d->VR (au P (ν++μ)) R' aL V'.l ao v pv->(kx t pv V').sat P C Q K' (ν++μ)->∃b,∀N,b<=N->ao.n<=N/\PW N (.du t v) ao):
 ∃fn,P.funcs[g]?=aa fn/\fn.body.isSome=ab/\(fn.name != "runtime.NumGoroutine")=ab/\∃b,∀N,b<=N->xg P N g args σ (RW N) (PW N):=by
 unfold F0 at hs;simp only at hs;split at hs
 ·exact hs.elim
 ·simp only[ak.sat]at hs;refine acq (V:={V with lv:=V.lv+1}) hC bj hJ hn (by simp[hK]) ct bp hs ?_ (λt pv V' μ K' R' aL E' ao v hf=>Zr t pv V' μ K' R' aL E' ao v ⟨(List.prefix_append K _).trans hf.hK,hf.f_,hf.ct,hf.hJ,hf.hn,hf.hE,hf.Jz⟩);intro pv V' μ K' R' aL E' ao v hf nN hv bt;have bD:=CN (d:=d) (dst:=dst) hf.hJ hv (by rw[nN];exact hd);obtain⟨R2,ff,yl,_⟩:=Qp _ bD;split at bt
  ·rename_i es eg hi;obtain⟨vs,p,h1,h2,h3⟩:=bt;obtain⟨hlen,uU⟩:=Lu (q0:=ν) ff hn ⟨μ,rfl⟩ hi (H4 h1);obtain⟨t,ht⟩:=hf.hK;rw[<-ht,atf,List.getElem?_append_right (by omega),hK,Nat.sub_self]at h2;simp only[List.singleton_append,List.getElem?_cons_zero,asP]at h2;subst h2;exact hk _ vs R2 _ _ ao v uU (by rw[List.length_append,hlen,hn]) rfl rfl (λj hj=>by rw[gK _ _ _ (by omega)];exact hf.hE j hj) (by rw[cm,nN]) h3.2
  ·exact bt.elim
end Go.Ev
namespace Go.Ev
variable{P:Program}{N:Nat}{ι:Io}{w:World}{σ ao:St}{e:Env}{rd:Option Nat}{fn:FuncId}{df:List Df}
variable{ops:Array Oper}{o:Oper}{l:List Oper}{CW:kc}
theorem afh{t el:TypeId}(hu:P.underlying t=aa (.slice el))(a:Option Addr)(n c:Nat)(x y:Operand):
 pP P .eql t x y (.raw (.slice a n c)) (.raw (.slice ah 0 0))=aa (.bool a.isNone)/\pP P .neq t x y (.raw (.slice a n c)) (.raw (.slice ah 0 0))=aa (.bool (!a.isNone)):=by
 have he:aT P (avX t (.slice a n c) (.slice ah 0 0))=aa a.isNone:=by
  show aT P (aue (9999+1) t (.slice a n c) (.slice ah 0 0))=_;unfold aue;rw[bx,run_underlying hu,asU];cases a<;>rfl
 constructor
 ·show(aT P (do eqGuard .eql t x y (.slice a n c) (.slice ah 0 0);Go.binOp .eql t (.slice a n c) (.slice ah 0 0))).map lift=_;rw[bx];show(aT P (do pure (.bool (<-avX t (.slice a n c) (.slice ah 0 0))))).map lift=_;rw[bx,he];rfl
 ·show(aT P (do eqGuard .neq t x y (.slice a n c) (.slice ah 0 0);Go.binOp .neq t (.slice a n c) (.slice ah 0 0))).map lift=_;rw[bx];show(aT P (do pure (.bool (!(<-avX t (.slice a n c) (.slice ah 0 0)))))).map lift=_;rw[bx,he];rfl
theorem dx.at{v:IV}{CW:kc}(hw:aQ o ops e=ab)(hn:σ.n<=N)
 (h:∀ι w (r:Operand->Value),Inv N ι σ w->(∀x,Rv ι (ax e x) (r x))->∃ρ v,(∀x,Rv ι (ρ x) (r x))/\av P 0 ρ o σ=aa (.val v σ)/\dx P N rd ops l (e.put o.dst v) df σ CW):dx P N rd ops (o::l) e df σ CW:=by
 refine .cons hw λF ι a w Q k hl hF hi he hd hQ=>?_;refine⟨λf _=>hF.fn f,?_⟩;obtain⟨ρ,v,hρ,hv,h⟩:=h ι w _ hi he.eval;rw[Oper.semAt_eq _ _ _ (iu hv (by simp))];obtain⟨u,w',aG,hr,h2,h3,h4⟩:=pq hi hρ hv hn
 have key:wpOpsIn F 0 P ops Q (List.range' (k+1) l.length) (a.put o.dst u) w':=
  h F aG _ w' Q (k+1) hl (hF.mono h4.ext) h3 ((he.mono h4.ext).put h2 _) (hd.mono h4.ext|>λx=>by cases o.dst<;>exact x) (λex e' ao hc=>(hQ ex e' ao hc).from hi h4 hn)
 rcases hr with hr|⟨hr,rfl⟩
 ·rw[hr,Oper.uponIn_value];exact key
 ·rw[hr,Oper.uponIn_skip];exact key
def Xf(x:IV):Prop:=x=.raw (.slice ah 0 0)\/x=.emp\/(∃s es,x=.tree s es)\/∃id off len cap ep s,x=.sl id off len cap ep s
theorem dx.isNil{CW:kc}{e0:Bool}{op:BinOp}{t el yt:TypeId}{x:Operand}(hw:aQ o ops e=ab)(hn:σ.n<=N)(ho:o.op=.binOp op t x (.const (.slice ah 0 0)) yt)(fH:(op=.eql/\e0=ab)\/(op=.neq/\e0=af))
 (hu:P.underlying t=aa (.slice el))(hx:Xf (ax e x))
 (h1:ax e x≠.raw (.slice ah 0 0)->dx P N rd ops l (e.put o.dst (.raw (.bool (!e0)))) df σ CW)
 (h2:(ax e x=.raw (.slice ah 0 0)\/∃s,ax e x=.tree s [])->dx P N rd ops l (e.put o.dst (.raw (.bool e0))) df σ CW):dx P N rd ops (o::l) e df σ CW:=by
 refine .at (v:=.undef) hw hn λι w r hi hr=>?_
 have main:∀a n c,r x=.slice a n c->(a=ah->ax e x=.raw (.slice ah 0 0)\/∃s,ax e x=.tree s [])->(a≠ah->ax e x≠.raw (.slice ah 0 0))->
  ∃ρ v,(∀x,Rv ι (ρ x) (r x))/\av P 0 ρ o σ=aa (.val v σ)/\dx P N rd ops l (e.put o.dst v) df σ CW:=by
  intro a n c pn ha hb
  have MN:∀ρ:Operand->IV,ρ (.const (.slice ah 0 0))=.raw (.slice ah 0 0)->ρ x=.raw (.slice a n c)->av P 0 ρ o σ=aa (.val (.raw (.bool (if a.isNone then e0 else !e0))) σ):=by
   intro ρ h3 h4;obtain⟨g1,g2⟩:=afh (P:=P) hu a n c x (.const (.slice ah 0 0));rcases fH with⟨rfl,rfl⟩|⟨rfl,rfl⟩
   ·simp only[av,ho,h3,h4,g1,ret];cases a<;>rfl
   ·simp only[av,ho,h3,h4,g2,ret];cases a<;>rfl
  have hy:ax e (.const (.slice ah 0 0))=.raw (.slice ah 0 0):=rfl;refine⟨λz=> @ite _ (z=x) (ayq _) (.raw (.slice a n c)) (ax e z),_,λz=>?_,MN _ ?_ ?_,?_⟩
  ·dsimp only;split
   ·rename_i hz;subst hz;rw[pn];exact .raw _
   ·exact hr z
  ·split
   ·rename_i hz;have hh:=hr x;rw[<-hz,hy,hz,pn]at hh;generalize hq:Value.slice a n c=q at hh⊢;cases hh;rfl
   ·rfl
  ·rw[if_pos rfl]
  ·cases a with
   |none=>exact h2 (ha rfl)
   |some a=>exact h1 (hb (by simp))
 have pn:=hr x;rcases hx with hx|hx|⟨s,es,hx⟩|⟨id,off,len,cap,ep,s,hx⟩
 ·rw[hx]at pn;generalize hq:r x=u at pn;cases pn;exact main ah 0 0 hq (λ_=>.inl hx) (λh=>absurd rfl h)
 ·rw[hx]at pn;generalize hq:r x=u at pn;cases pn;exact main _ 0 0 hq (λh=>by cases h) (λ_=>by rw[hx];simp)
 ·rw[hx]at pn;generalize hq:r x=u at pn;cases pn with
  |tree=>exact main _ _ _ hq (λh=>by cases h) (λ_=>by rw[hx];simp)
  |dY=>exact main _ _ _ hq (λ_=>.inr ⟨s,hx⟩) (λ_=>by rw[hx];simp)
 ·rw[hx]at pn;generalize hq:r x=u at pn;cases pn;exact main _ _ _ hq (λh=>by cases h) (λ_=>by rw[hx];simp)
theorem Qs{fr:Bool}{R:Rs}{x:IV}{s:Nat}{es:List IV}(h:bn fr R σ x (.tree s es)):Xf x/\(x=.raw (.slice ah 0 0)\/(∃s,x=.tree s [])->es=[]):=by
 cases h with
 |nil=>exact⟨.inl rfl,λ_=>rfl⟩
 |emp=>exact⟨.inr (.inl rfl),λ_=>rfl⟩
 |pure=>exact⟨.inr (.inr (.inl ⟨_,_,rfl⟩)),λh=>by rcases h with h|⟨_,h⟩<;>cases h;rfl⟩
 |sl=>exact⟨.inr (.inr (.inr ⟨_,_,_,_,_,_,rfl⟩)),λh=>by rcases h with h|⟨_,h⟩<;>cases h⟩
end Go.Ev
namespace Go.Ev
variable{P:Program}{N:Nat}{σ ao:St}{R R':Rs}{φ aL:Ph}{E:Nat->Env}{ν:List IV}{cfg:a_}
variable{C:Cr}{Q:IV->Prop}{K:List (List IV->Prop)}{V:SS}{d f0:Nat}{o:Oper}{k:PV SE->SS->ak}{L:List (LO SE)}{Γ:Gm SE}
theorem Gs{e:SE}{z:IV}(h:(SE.rws e).den P ν=aa z):∃s es,e.den P ν=aa (.tree s es)/\z=.tree s es/\∀e∈es,∀c∈cellsOf e,aA c=ab:=by
 simp only[SE.den,as_]at h;obtain⟨y,h1,h2⟩:=h;split at h2<;>first|(cases h2;done)|skip
 split at h2<;>first|(cases h2;done)|skip
 rename_i bg;cases h2;rw[as6]at bg;exact⟨_,_,h1,rfl,λe he c hc=>as6.1 (bg e he) c hc⟩
def T1(P:Program)(C:Cr)(Q:IV->Prop)(K:List (List IV->Prop))(E:Nat->Env)(ν:List IV)(lv:Nat×Nat)(k:PV SE->SS->ak)(KW:Nat->IV->St->Prop):Prop:=
 ∀(V1:SS) (μ:List IV) (R1:Rs) (dI:Ph) (aq:St) (x:IV) (pv:PV SE),J (au P (ν++μ)) R1 dI V1.g V1.l E aq->V1.ln=lv->(ν++μ).length=V1.n->V1.ln=lv->VR (au P (ν++μ)) R1 dI V1.l aq x pv->(k pv V1).sat P C Q K (ν++μ)->∃b,∀N,b<=N->KW N x aq
theorem acu{fr:Bool}{x:IV}{cs:List IV}(h:bn fr R σ x (.agg cs)):∃xs,x=.agg xs/\All2 (bn fr R σ) xs cs:=by
 cases h with
 |agg qQ _ hl hh=>exact⟨qQ,rfl,.mk hl hh⟩
 |pure _ hf hp=>
  refine⟨cs,rfl,.mk rfl λi a b h1 h2=>?_⟩;rw[h1]at h2;cases h2;cases hp with
  |agg _ hh=>exact .pure a hf (hh a (asZ h1))
theorem CT{t:TypeId}{e:SE}{x z:IV}{f:ak}(hz:e.den P ν=aa z)(hc:iX x z)(hs:(rU P t e f).sat P C Q K ν):f.sat P C Q K ν/\VR (au P ν) R φ L σ x (ofType P t e):=by
 unfold rU at hs;unfold ofType;by_cases ha:isAgg P t=ab
 ·rw[if_pos ha]at hs;obtain⟨⟨y,hy⟩,hk⟩:=hs;simp only[SE.den,hz,asU]at hy;split at hy
  ·rename_i cs;split at hy
   ·rename_i mO;obtain⟨xs,rfl,jf⟩:=acu hc;refine⟨hk,?_⟩;rw[if_pos ha];refine⟨xs,rfl,.mk (by simp[jf.len,mO.1]) λi a b h1 h2=>?_⟩;have hi:=(asM.1 h1).1;rw[jf.len]at hi;rw[as4,avs (by omega)]at h2;simp only[atl,asP]at h2;subst h2;have MT:cs[i]?=aa cs[i]:=asL hi;have bz:Ev.aj cs[i]=ab:=(as6.1 mO.2) _ (List.getElem_mem hi);exact⟨cs[i],by simp[au,SE.den,hz,MT,yD,bz],jf.get h1 MT,bz⟩
   ·cases hy
  ·cases hy
 ·rw[if_neg ha]at hs;obtain⟨⟨y,hy⟩,hk⟩:=hs;obtain⟨h1,h2⟩:=p6 hy;rw[hz]at h1;cases h1;rw[if_neg ha];exact⟨hk,z,hy,hc,h2⟩
theorem Lw:∀{zs:List SE} {v:IV},(d_ zs).den P ν=aa v->∃ys,v=.agg ys/\All2 (λ(z:SE) y=>z.den P ν=aa y) zs ys
 |[],v,h=>by
  simp only[d_,SE.den,asP]at h;exact⟨[],h.symm,trivial⟩
 |z::zs,v,h=>by
  simp only[d_,SE.den]at h;obtain⟨x,hx,h⟩:=as_.1 h;obtain⟨w,hw,h⟩:=as_.1 h;obtain⟨ys,rfl,qZ⟩:=Lw hw;simp only[asP]at h;exact⟨x::ys,h.symm,hx,qZ⟩
theorem JE:∀(args:List (PV SE)),args=(sV args).1.map (λp=>PV.one (Cl.pt p.1 0 p.2))++(sV args).2
 |[]=>rfl
 |pv::r=>by
  unfold sV;split
  ·rename_i k ext r' h;cases h;simp only[atJ,List.cons_append];rw[<-JE r]
  ·simp
theorem Bl:∀{l:List Nat},distinct l=ab->l.Nodup
 |[],_=>List.nodup_nil
 |k::l,h=>by
  simp only[distinct,asN,atD,List.any_eq_false]at h;refine awu.2 ⟨λhm=>?_,Bl h.2⟩;exact h.1 k hm (by simp)
theorem acv(es:List SE)(h:∀e∈es,∃y,e.den P ν=aa y):∃cs:List IV,All2 (λ(z:SE) y=>z.den P ν=aa y) es cs:=by
 induction es with
 |nil=>exact⟨[],trivial⟩
 |cons e es ih=>
  obtain⟨y,hy⟩:=h e (by simp);obtain⟨cs,bH⟩:=ih λe he=>h e (by simp[he]);exact⟨y::cs,hy,bH⟩
theorem G9(hJ:J (au P ν) R φ V.g V.l E σ):∀{l:List (Nat×Nat)} {EF:List (List SE)},yB V l=aa EF->
 ∃ins:List (List IV),EF.length=l.length/\ins.length=l.length/\All2 (λ(z:SE) y=>z.den P ν=aa y) (EF.map d_) (ins.map IV.agg)/\
  ∀(i:Nat) (p:Nat×Nat) (cs:List IV),l[i]?=aa p->ins[i]?=aa cs->∃es:List SE,V.l[p.1]?=aa (.var (es.map .v))/\cs.length=p.2/\All2 (λ(z:SE) y=>z.den P ν=aa y) es cs
 |[],EF,h=>by
  simp only[yB,asP]at h;subst h;exact⟨[],rfl,rfl,trivial,λi p cs h=>by simp at h⟩
 |(k,n)::l,EF,h=>by
  simp only[yB]at h;split at h<;>first|(cases h;done)|skip
  rename_i ds hk;split at h<;>first|(cases h;done)|skip
  rename_i hn;split at h<;>first|(cases h;done)|skip
  rename_i es r gF hr;simp only[asP]at h;subst h;have Js:=HZ gF;subst Js;have Dt:=asV hn;obtain⟨ins,h1,h2,h3,h4⟩:=G9 hJ hr;obtain⟨id,cJ,o1,o2,o3,o4⟩:=hJ.obj k _ hk
  obtain⟨cs,bH⟩:=acv (P:=P) (ν:=ν) es λe he=>by
   obtain⟨q,hq⟩:=List.getElem?_of_mem he;obtain⟨x,_,hx⟩:=o4.As (i:=q) (b:=.v e) (by rw[as4,hq];rfl);obtain⟨y,hy,_⟩:=hx;exact⟨y,hy⟩
  refine⟨cs::ins,by simp[h1],by simp[h2],⟨eL bH,h3⟩,λi p cz hp hc=>?_⟩;cases i with
  |zero=>
   simp at hp hc;subst hp hc;exact⟨es,hk,by rw[<-bH.len];simpa using Dt,bH⟩
  |succ i=>exact h4 i p cz (by simpa using hp) (by simpa using hc)
theorem G_{y:SE}:∀{l:List (Nat×Nat)} {i:Nat} {L:List (LO SE)},(lW y i l L).length=L.length
 |[],_,_=>rfl
 |(k,n)::l,i,L=>by simp[lW,G_ (l:=l)]
theorem AA{y:SE}:∀{l:List (Nat×Nat)} {i j:Nat} {L:List (LO SE)},j∉l.map (·.1)->(lW y i l L)[j]?=L[j]?
 |[],_,_,_,_=>rfl
 |(k,n)::l,i,j,L,h=>by
  simp only[atJ,List.mem_cons,not_or]at h;simp only[lW];rw[AA h.2,avT (λhc=>h.1 hc.symm)]
theorem Ha{y:SE}:∀{l:List (Nat×Nat)} {i q:Nat} {p:Nat×Nat} {L:List (LO SE)},(l.map (·.1)).Nodup->l[q]?=aa p->p.1<L.length->
 (lW y i l L)[p.1]?=aa (.var ((List.range p.2).map λj=>.v (.bT (.proj y (i+q+1)) j)))
 |[],_,_,_,_,_,h,_=>by simp at h
 |(k,n)::l,i,0,p,L,pH,h,ai=>by
  simp at h;subst h;simp only[atJ,awu]at pH;simp only[lW];rw[AA pH.1,List.getElem?_set_self ai]
 |(k,n)::l,i,q+1,p,L,pH,h,ai=>by
  simp only[atJ,awu]at pH;simp only[lW];rw[Ha (q:=q) pH.2 (by simpa using h) (by simpa using ai)];rw[show i+1+q+1=i+(q+1)+1 by omega]
theorem JF{α β:Type}{r:α->β->Prop}:∀{bs cs:List β} {as:List α},All2 r as (bs++cs)->∃as1 as2,as=as1++as2/\All2 r as1 bs/\All2 r as2 cs
 |[],cs,as,h=>⟨[],as,rfl,trivial,h⟩
 |b::bs,cs,[],h=>h.elim
 |b::bs,cs,a::as,h=>by
  obtain⟨as1,as2,rfl,h1,h2⟩:=JF h.2;exact⟨a::as1,as2,rfl,⟨h.1,h1⟩,h2⟩
theorem afi{a b:List (List IV)}(h:a.map IV.agg=b.map IV.agg):a=b:=(List.map_inj_right (λx y hh=>by injection hh)).1 h
theorem afj(hC:jr P C)(hJ:J (au P ν) R φ V.g V.l E σ)(hn:ν.length=V.n){g:FuncId}{l:List (Nat×Nat)}{rest:List (PV SE)}{ps xs:List IV}
 (hp:All2 (VR (au P ν) R φ V.l σ) ps (l.map λp=>PV.one (Cl.pt p.1 0 p.2)))(hx:All2 (VR (au P ν) R φ V.l σ) xs rest)(hs:(abM P g l rest V k).sat P C Q K ν){KW:Nat->IV->St->Prop}(hk:T1 P C Q K E ν V.ln k KW):
 ∃b,∀N,b<=N->dQ P N g (ps++xs) σ (KW N):=by
 unfold abM at hs;split at hs<;>first|(exact hs.elim)|skip
 rename_i zs V' EF fn hr hoc bV;split at hs
 ·exact hs.elim
 rename_i ao4;have mZ:rest.all oY=ab:=by simpa using ao4
 split at hs
 ·exact hs.elim
 rename_i ao5;have pH:(l.map (·.1)).Nodup:=Bl (by simpa using ao5);split at hs<;>first|(exact hs.elim)|skip
 rename_i t ht;obtain⟨_,akL⟩:=xz (P:=P) (ν:=ν) (R:=R) (φ:=φ) (σ:=σ) hr mZ;obtain⟨ys,c1,c2⟩:=akL hx;obtain⟨ins,i1,i2,i3,i4⟩:=G9 hJ hoc;obtain⟨us,z,d1,d2,d3⟩:=hs
 have yh:us=.agg (ins.map IV.agg)::ys:=by
  have bg:All2 (λ(z:SE) y=>z.den P ν=aa y) (d_ (EF.map d_)::zs) (.agg (ins.map IV.agg)::ys):=⟨eL i3,c1⟩;have:=eL bg;unfold iY at d1;rw[show SE.ac (d_ (EF.map d_)) (d_ zs)=d_ (d_ (EF.map d_)::zs)from rfl,this]at d1;cases d1;rfl
 subst yh;obtain⟨asE,oD,outs,z0,e1,rfl,e3,e4,ao6⟩:=(hC _ _ _ _ d2).2.2.1 g (atI.1 bV).1 rfl;simp only[atK,IV.agg.injEq]at e1;obtain⟨e1,rfl⟩:=e1;have:=afi e1;subst this;have zk:outs.length=ins.length:=by have:=congrArg List.length e3;simpa using this
 have zp:∀e w,au P ν e=aa w->au P (ν++[IV.az (z0::outs.map IV.agg)]) e=aa w:=λe w h=>SE.c9 P e h;have iG:(SE.var V.n).den P (ν++[IV.az (z0::outs.map IV.agg)])=aa (IV.az (z0::outs.map IV.agg)):=by simp[SE.den,<-hn]
 have ao7:(SE.proj (.var V.n) 0).den P (ν++[IV.az (z0::outs.map IV.agg)])=aa z0:=by simp only[SE.den]at iG⊢;rw[iG];rfl
 refine Xa zp hJ (ks:=l.map (·.1)) pH (L':=lW (.var V.n) 0 l V.l) (ins:=ins) (outs:=outs) (by simp[i2]) (λi k cs hk hi=>?_) ⟨by rw[hp.len,auk,i2],λi cs p hi Pn=>?_⟩ c2 ao6 zk G_ (λj hj=>AA hj) (λi k cs hk hi=>?_) KW λR' ao v MH hv=>?_
 ·rw[as4]at hk;obtain⟨p,hpk,rfl⟩:=asS.1 hk;obtain⟨es,a1,_,a3⟩:=i4 i p cs hpk hi;refine⟨_,a1,.mk (by rw[auk,a3.len]) λq c u hc hu=>?_⟩;rw[as4]at hc;obtain⟨e,he,rfl⟩:=asS.1 hc;exact⟨e,rfl,a3.get he hu⟩
 ·have Dp:i<l.length:=by rw[<-i2];exact(asM.1 hi).1
  have hli:=asL Dp;obtain⟨es,a1,a2,a3⟩:=i4 i _ cs hli hi;obtain⟨id,ds,b1,b2,b3⟩:=hp.get Pn (by rw[as4,hli];rfl);exact⟨id,by simp only[as4,hli,atl,asU];exact b1,by rw[b3,a2]⟩
 ·rw[as4]at hk;obtain⟨p,hpk,rfl⟩:=asS.1 hk;have MG:i<ins.length:=by rw[<-zk];exact(asM.1 hi).1
  obtain⟨es,a1,a2,_⟩:=i4 i p _ hpk (asL MG);have ai:p.1<V.l.length:=(asM.1 a1).1;refine⟨_,Ha pH hpk ai,?_⟩
  have ek:cs.length=p.2:=by
   have h5:=congrArg (λq=>q[i]?) e3;simp only[as4,hi,asL MG,atl,asP]at h5;omega
  refine .mk (by simp[ek]) λq c u hc hu=>?_;have hq:=(asM.1 hu).1;rw[as4,avs (by omega)]at hc;simp only[atl,asP]at hc;subst hc;refine⟨_,rfl,?_⟩
  have hoi:(z0::outs.map IV.agg)[0+i+1]?=aa (.agg cs):=by
   rw[Nat.zero_add,List.getElem?_cons_succ,as4,hi];rfl
  have wK:=e4 cs (asZ hi) u (asZ hu);show(SE.bT _ _).den P _=_;simp only[SE.den]at iG⊢;rw[iG];simp only[asU,hoi,hu];simp[yD,wK]
 ·obtain⟨g1,g2⟩:=CT (R:=R') (φ:=φ) (L:=lW (.var V.n) 0 l V.l) (σ:=ao) ao7 hv d3;exact hk {V with n:=V.n+1,l:=lW (.var V.n) 0 l V.l} [IV.az (z0::outs.map IV.agg)] R' φ ao v _ MH rfl (by simp[hn]) rfl g2 g1
theorem JG(hC:jr P C)(hJ:J (au P ν) R φ V.g V.l E σ)(hn:ν.length=V.n){g:FuncId}{j:Nat}{zs:List SE}{x:IV}{xs ys:List IV}(hx:cI (au P ν) R φ V.l σ x (.sr j))
 (hz:All2 (λ(z:SE) y=>z.den P ν=aa y) zs ys)(jf:All2 iX xs ys)(hs:(F3 P g zs j V k).sat P C Q K ν){KW:Nat->IV->St->Prop}(hk:T1 P C Q K E ν V.ln k KW):
 ∃b,∀N,b<=N->dQ P N g (x::xs) σ (KW N):=by
 unfold F3 at hs;split at hs<;>first|(exact hs.elim)|skip
 rename_i s fr es hj;split at hs<;>first|(exact hs.elim)|skip
 rename_i ao8;have akM:g<P.funcs.size:=by simpa using ao8
 obtain⟨⟨_,hr⟩,us,z,h1,h2,h3⟩:=hs;obtain⟨s1,fe,h4,_,dV⟩:=Gs hr
 have yh:us=.tree s1 fe::ys:=by
  have:All2 (λ(z:SE) y=>z.den P ν=aa y) (es::zs) (.tree s1 fe::ys):=⟨h4,hz⟩;unfold iY at h1;rw[eL this]at h1;cases h1;rfl
 subst yh;obtain⟨s2,e2,xs2,aF,g1,rfl,GL⟩:=(hC _ _ _ _ h2).2.1 g akM rfl;simp only[atK,IV.tree.injEq]at g1;obtain⟨⟨rfl,rfl⟩,rfl⟩:=g1;obtain⟨_,je,k1,_,_⟩:=hJ.obj j _ hj;have MU:es.den P ν=aa (.tree s je):=k1;rw[h4]at MU;cases MU;have bD:=hJ.up (iv:=au P (ν++[.tree s aF])) (λe y h=>SE.c9 P e h)
 have cN:cI (au P (ν++[.tree s aF])) R φ V.l σ x (.sr j):=by
  have hbv:VR (au P ν) R φ V.l σ x (.one (.sr j)):=hx;exact VR.up hJ hbv (λe z h=>SE.c9 P e h)
 have ff:=bD.Wb j;have Y3:(V.l.map (LO.drop j))[j]?=aa (.row s af af fr es):=by simp[as4,hj,LO.drop]
 have fk:cI (au P (ν++[.tree s aF])) R φ (V.l.map (LO.drop j)) σ x (.sr j):=cN.step (HG bD j) (Cl.aZ _);have iG:(SE.var V.n).den P (ν++[.tree s aF])=aa (.tree s aF):=by simp[SE.den,<-hn]
 refine Zk ff Y3 (SE.c9 P es h4) iG dV fk jf (λd t pv hg=>Jn hg) (λi o hi aW=>by
  rw[as4]at hi;obtain⟨o',_,rfl⟩:=asS.1 hi;exact o'.nc j) GL KW λR' aL ao v a b=>?_
 exact hk ((({V with n:=V.n+1}:SS).sS j).setObj j (.row s af af af (.var V.n))) [.tree s aF] R' aL ao v (.one (.sr j)) a rfl (by simp[hn,SS.sS,SS.setObj]) rfl b h3
theorem afk{KW:Nat->IV->St->Prop}(hC:jr P C)(hJ:J (au P ν) R φ V.g V.l E σ)(hn:ν.length=V.n){g:FuncId}{dp:List (PV SE)}{xs:List IV}
 (bp:All2 (VR (au P ν) R φ V.l σ) xs dp)(hs:(abN P g dp V k).sat P C Q K ν)
 (hk:∀(V1:SS) (μ:List IV) (R1:Rs) (dI:Ph) (aq:St) (x:IV) (pv:PV SE),J (au P (ν++μ)) R1 dI V1.g V1.l E aq->V1.ln=V.ln->(ν++μ).length=V1.n->V1.ln=V.ln->VR (au P (ν++μ)) R1 dI V1.l aq x pv->(k pv V1).sat P C Q K (ν++μ)->∃b,∀N,b<=N->KW N x aq):
 ∃b,∀N,b<=N->dQ P N g xs σ (KW N):=by
 unfold abN at hs;split at hs
 ·have he:=JE dp;rw[he]at bp;obtain⟨ps,as,rfl,hp,hx⟩:=JF bp;exact afj hC hJ hn hp hx hs hk
 split at hs<;>first|(exact hs.elim)|skip
 rename_i c rest _;split at hs<;>first|(exact hs.elim)|skip
 rename_i zs V' hr;split at hs
 ·exact hs.elim
 rename_i hp;have rA:rest.all oY=ab:=by simpa using hp
 cases xs with
 |nil=>exact bp.elim
 |cons x xs=>
  obtain⟨_,mZ⟩:=xz (P:=P) (ν:=ν) (R:=R) (φ:=φ) (σ:=σ) hr rA;obtain⟨ys,c1,c2⟩:=mZ bp.2;split at hs<;>first|(exact hs.elim)|skip
  ·exact JG hC hJ hn bp.1 c1 c2 hs hk
  ·rename_i b s _;have hx:=bp.1;unfold newObj at hs;obtain⟨bE,iP⟩:=hx;have nE:(SE.tr s SE.an).den P ν=aa (.tree s []):=by simp[SE.den,bE]
   obtain⟨_,ff⟩:=hJ.Bf (fr:=af) bE nE;have jQ:(V.l++[LO.row s af af af (SE.tr s SE.an)])[V.l.length]?=aa (.row s af af af (SE.tr s SE.an)):=by simp
   exact JG (V:={V with l:=V.l++[.row s af af af (.tr s .an)]}) hC ff hn (x:=x) ⟨s,af,af,af,_,[],jQ,nE,.inl ⟨xQ hJ (asR _),rfl,by subst iP;cases b<;>simp⟩⟩ c1 c2 hs hk
end Go.Ev
namespace Go.Ev
variable{P:Program}{N:Nat}{σ ao:St}{R R':Rs}{φ aL:Ph}{E:Nat->Env}{ν:List IV}{ro:Nat}{ι:Io}{w:World}{cfg:a_}{self:nX}
variable{C:Cr}{Q:IV->Prop}{K:List (List IV->Prop)}{V:SS}{d f0:Nat}{o:Oper}{k:PV SE->SS->ak}{L:List (LO SE)}{Γ:Gm SE}{rd:Option Nat}{df:List Df}
variable{kx:Kx}{sk:List Nat}{ops:Array Oper}{l:List Oper}{kk:SS->ak}{CX:Nat->kc}
theorem iH{V V1:SS}(h:V1.ln=V.ln):V1.lv=V.lv/\V1.nt=V.nt:=by
 simp only[SS.ln,ati]at h;exact h
theorem Zw(hC:jr P C)(bj:pI P C Q self)(ih:Bk P C Q cfg self kx d f0 ops rd df kk CX sk l)(hJ:J (au P ν) R φ V.g V.l E σ)(hn:ν.length=V.n)(hK:K.length=V.lv)(ct:(E d).n=V.nt)
 (hd:∀t,o.dst=aa t->t<(E d).n)(nO:∀x,mG ((E d).put o.dst x) sk)(ey:KS P C Q d E K ν V.nt kk (λN e σ=>CX N .normal e σ))(nw:KP P C Q d E K ν V.nt kx (λN v e σ=>CX N (.b_ v) e σ))(hw:aQ o ops (E d)=ab)
 (hs:(I7 P cfg self kx d f0 af o V λpv V=>iA P cfg self kx d f0 af ops sk l (V.bP d o.dst pv) kk).sat P C Q K ν):
 ∃b,∀N,b<=N->dx P N rd ops (o::l) (E d) df σ (CX N):=by
 have JH:(fT P d o V λpv V=>iA P cfg self kx d f0 af ops sk l (V.bP d o.dst pv) kk).sat P C Q K ν->∃b,∀N,b<=N->dx P N rd ops (o::l) (E d) df σ (CX N):=by
  intro hs;obtain⟨x,aq,R1,dI,pv,V1,μ,h1,h2,h3,h4,h5,h6⟩:=Zj hJ hn hs;obtain⟨b,hb⟩:=fN ih nO hd ct ey nw h2 h4 (atB K) (by rw[(iH h5).1];exact hK) (iH h5).2 (λ_ _=>rfl) rfl h3 h6;exact⟨max b aq.n,λN hN=>.val hw h1 (by omega) (hb N (by omega))⟩
 unfold I7 at hs;split at hs
 ·rename_i c ho;unfold Wo at hs;split at hs
  ·exact JH hs
  ·rename_i f hc;split at hs<;>first|(exact hs.elim)|skip
   rename_i g bs hf;simp only at hs;split at hs
   ·rename_i t cf uT pU;obtain⟨rfl,qW,_⟩:=JD pU;split at hs<;>first|(exact hs.elim)|skip
    rename_i fn bV;split at hs<;>first|(exact hs.elim)|skip
    rename_i bQ;simp only[asN]at bQ;have oL:=bo hJ d 0 f;rw[hf]at oL;have bp:=fV hJ d c.args.toList c.argTypes.toList;obtain⟨ys,iV,qZ⟩:=kG (args:=c.args.toList.map (ax (E d))) oL bV bQ.1.2 bQ.2
    have yP:ys=[]:=by
     cases ys with
     |nil=>rfl
     |cons=>exact qZ.elim
    subst yP;rw[as9]at iV
    have eB:av P 0 (ax (E d)) o σ=aa (.enter g (c.args.toList.map (ax (E d)))):=by
     simp only[av,ho,hc];exact iV
    rw[qW]at bp
    obtain⟨cl,ek,ao9⟩:∃cl,c.args.toList.map (ax (E d))=[cl]/\VR (au P ν) R φ V.l σ cl (.one (.fn cf uT)):=by
     generalize c.args.toList.map (ax (E d))=l at bp
     match l,bp with
     |[cl],bp=>exact⟨cl,rfl,bp.1⟩
    obtain⟨b,hb⟩:=M1 (RW:=λN v aq=>aq.n<=N/\dx P N rd ops l ((E d).put o.dst v) df aq (CX N)) hC bj hJ hn hK ct (atI.1 bV).1 ao9 hs (by
     intro pv V' μ K' R' aL E' ao v hF nN hv bt;obtain⟨b,hb⟩:=fN ih nO hd ct ey nw hF.hJ hF.hn hF.hK hF.f_ hF.ct hF.hE nN hv bt;exact⟨max b ao.n,λN hN=>⟨by omega,by omega,hb N (by omega)⟩⟩)
    rw[ek]at eB;exact⟨b,λN hN=>.call hw eB (hb N hN) λv aq hv=>hv⟩
   split at hs
   ·rename_i hp;simp only[asN,atY]at hp;have gw:=hp.1;subst gw
    have uP:∃(args:List IV) (v:IV) (aq:St) (R1:Rs) (dI:Ph) (pv:PV SE) (V1:SS) (μ:List IV),av P 0 (ax (E d)) o σ=aa (.enter g args)/\(∀ro,gP P ro g args σ v aq)/\(aq=σ\/∃ob,aq=σ.add ob)/\J (au P (ν++μ)) R1 dI V1.g V1.l E aq/\VR (au P (ν++μ)) R1 dI V1.l aq v pv/\(ν++μ).length=V1.n/\V1.ln=V.ln/\
     (iA P cfg self kx d f0 af ops sk l (V1.bP d o.dst pv) kk).sat P C Q K (ν++μ):=by
     split at hs
     ·exact MY hC hJ hn ‹_› ho hc hf hs
     ·exact MX hC hJ hn ho hc hf hs
    obtain⟨args,v,aq,R1,dI,pv,V1,μ,eB,qX,_,g1,g2,g3,g4,g5⟩:=uP;obtain⟨b,hb⟩:=fN ih nO hd ct ey nw g1 g3 (atB K) (by rw[(iH g4).1];exact hK) (iH g4).2 (λ_ _=>rfl) rfl g2 g5;exact⟨max b aq.n,λN hN=>.call hw eB (dQ.I0 (qX 0) (by omega)) λv1 dw hv=>by obtain⟨rfl,rfl⟩:=hv;exact⟨by omega,hb N (by omega)⟩⟩
   split at hs
   ·rename_i hp;simp only[asN,atY]at hp;have gw:=hp.1;subst gw;obtain⟨args,v,aq,R1,dI,pv,V1,μ,eB,qX,_,g1,g2,g3,g4,g5⟩:=Qj hC hJ hn ho hc hf hs;obtain⟨b,hb⟩:=fN ih nO hd ct ey nw g1 g3 (atB K) (by rw[(iH g4).1];exact hK) (iH g4).2 (λ_ _=>rfl) rfl g2 g5;exact⟨max b aq.n,λN hN=>.call hw eB (dQ.I0 (qX 0) (by omega)) λv1 dw hv=>by obtain⟨rfl,rfl⟩:=hv;exact⟨by omega,hb N (by omega)⟩⟩
   split at hs
   ·rename_i hp;simp only[asN,atY]at hp;have gw:=hp.1;subst gw;split at hs<;>first|(exact hs.elim)|skip
    rename_i fn bV;split at hs<;>first|(exact hs.elim)|skip
    rename_i bQ;simp only[asN]at bQ;have oL:=bo hJ d 0 f;rw[hf]at oL;have bp:=fV hJ d c.args.toList c.argTypes.toList;obtain⟨ys,iV,qZ⟩:=kG (args:=c.args.toList.map (ax (E d))) oL bV bQ.1.2 bQ.2
    have yP:ys=[]:=by
     cases ys with
     |nil=>rfl
     |cons=>exact qZ.elim
    subst yP;rw[as9]at iV
    have eB:av P 0 (ax (E d)) o σ=aa (.enter g (c.args.toList.map (ax (E d)))):=by
     simp only[av,ho,hc];exact iV
    obtain⟨b,hb⟩:=afk (KW:=λN v aq=>aq.n<=N/\dx P N rd ops l ((E d).put o.dst v) df aq (CX N)) hC hJ hn bp hs (by
     intro V1 μ R1 dI aq x pv h2 h4 hlen h5 hx h6;obtain⟨b,hb⟩:=fN ih nO hd ct ey nw h2 hlen (atB K) (by rw[(iH h5).1];exact hK) (iH h5).2 (λ_ _=>rfl) rfl hx h6;exact⟨max b aq.n,λN hN=>⟨by omega,hb N (by omega)⟩⟩)
    exact⟨b,λN hN=>.call hw eB (hb N hN) λv aq hv=>hv⟩
   split at hs
   ·rename_i hp;simp only[asN,atY]at hp;have gw:=hp.1;subst gw;split at hs<;>first|(exact hs.elim)|skip
    rename_i zs V' fn hr bV;split at hs<;>first|(exact hs.elim)|skip
    rename_i bQ;simp only[asN]at bQ;obtain⟨g',args,z,R1,pv,V1,μ,h1,h2,h3,h4,h5,h6,h7⟩:=Qi hC hJ hn ho hc hf hr bV bQ.1.2 bQ.2 bQ.1.1 hs;obtain⟨b,hb⟩:=fN ih nO hd ct ey nw h3 h5 (atB K) (by rw[(iH h6).1];exact hK) (iH h6).2 (λ_ _=>rfl) rfl h4 h7;refine⟨max b σ.n,λN hN=>.call hw h1 (dQ.I0 (h2 0) (by omega)) λv aq hv=>?_⟩;obtain⟨rfl,rfl⟩:=hv;exact⟨by omega,hb N (by omega)⟩
   ·split at hs
    ·exact hs.elim
    ·have oL:=bo hJ d 0 f;rw[hf]at oL;have bp:=fV hJ d c.args.toList c.argTypes.toList
     have bV:∃fn,P.funcs[g]?=aa fn/\fn.body.isSome=ab/\(fn.name != "runtime.NumGoroutine")=ab:=by
      unfold sU at hs;split at hs<;>first|(exact hs.elim)|skip
      rename_i fn bV;split at hs<;>first|(exact hs.elim)|skip
      rename_i body hb;split at hs<;>first|(exact hs.elim)|skip
      split at hs<;>first|(exact hs.elim)|skip
      rename_i mO;simp only[asN]at mO;exact⟨fn,bV,by simp[hb],mO.2⟩
     obtain⟨fn,bV,hb,lK⟩:=bV;obtain⟨ys,iV,qZ⟩:=kG (args:=c.args.toList.map (ax (E d))) oL bV hb lK
     have eB:av P 0 (ax (E d)) o σ=aa (.enter g (c.args.toList.map (ax (E d))++ys)):=by
      simp only[av,ho,hc];exact iV
     obtain⟨_,_,_,_,b,hcw⟩:=CQ (RW:=λN v aq=>aq.n<=N/\dx P N rd ops l ((E d).put o.dst v) df aq (CX N)) (PW:=λN v aq=>CX N (.b_ v) (E d) aq) bj hJ hn hK ct (bp.app qZ) hs (by
      intro pv V' μ K' R' aL E' ao v hF nN hv bt;obtain⟨b,hb⟩:=fN ih nO hd ct ey nw hF.hJ hF.hn hF.hK hF.f_ hF.ct hF.hE nN hv bt;exact⟨max b ao.n,λN hN=>⟨by omega,by omega,hb N (by omega)⟩⟩) (by
      intro t pv V' μ K' R' aL E' ao v hF nN hv bt;obtain⟨b,hb⟩:=nw t pv V' μ K' R' aL E' ao v hF hv bt;exact⟨b,λN hN=>⟨(hb N hN).1,by rw[<-nN];exact(hb N hN).2⟩⟩)
     exact⟨b,λN hN=>.Wc hw eB (hcw N hN) (λv aq hv=>hv) λv aq hv=>hv⟩
  ·exact hs.elim
 ·exact JH hs
theorem acw{e0:Bool}{c:Cl SE}(h:Wp P d o V=aa (e0,c)):∃op t x yt el,o.op=.binOp op t x (.const (.slice ah 0 0)) yt/\P.underlying t=aa (.slice el)/\bO P d V t x=.one c/\((op=.eql/\e0=ab)\/(op=.neq/\e0=af)):=by
 unfold Wp at h;split at h<;>first|(cases h;done)|skip
 rename_i op t x y yt ho;split at h<;>first|(cases h;done)|skip
 rename_i el c' hu hx;split at h<;>first|(cases h;done)|skip
 ·cases h;exact⟨_,t,x,yt,el,ho,hu,hx,.inl ⟨rfl,rfl⟩⟩
 ·cases h;exact⟨_,t,x,yt,el,ho,hu,hx,.inr ⟨rfl,rfl⟩⟩
theorem Qt{a:SE}{u x:IV}(h:Oj a=aa u)(hx:VR (au P ν) R φ V.l σ x (.one (.v a))):x=u:=by
 unfold Oj at h;split at h<;>first|(cases h;done)|skip
 ·cases h;obtain⟨y,h1,h2,_⟩:=hx;simp only[au,SE.den,asP]at h1;subst h1;exact cb h2
 ·cases h;obtain⟨y,h1,h2,_⟩:=hx;simp only[au,SE.den,asP]at h1;subst h1;exact cb h2
theorem acx(hJ:J (au P ν) R φ V.g V.l E σ){pv:PV SE}(h:PL P d V o=aa pv):∃x,av P 0 (ax (E d)) o σ=aa (.val x σ)/\VR (au P ν) R φ V.l σ x pv:=by
 unfold PL at h;split at h
 ·rename_i op t x y yt ho;split at h<;>first|(cases h;done)|skip
  rename_i a b ha hb;split at h<;>first|(cases h;done)|skip
  rename_i u v hu hv;have hx:=bo hJ d t x;have hy:=bo hJ d t y;rw[ha]at hx;rw[hb]at hy;rw[asS]at h;obtain⟨e,h1,rfl⟩:=h;rw[as_]at h1;obtain⟨w,h2,h3⟩:=h1;refine⟨w,?_,?_⟩
  ·simp only[av,ho,Qt hu hx,Qt hv hy,h2,ret]
  ·unfold adv at h3;split at h3<;>first|(cases h3;done)|skip
   ·cases h3;exact⟨_,rfl,.raw _,rfl⟩
   ·cases h3;exact⟨_,rfl,.raw _,rfl⟩
 ·rename_i t x ix ho;split at h<;>first|(cases h;done)|skip
  rename_i n el cs z hu iN da;split at h<;>first|(cases h;done)|skip
  rename_i s ba aU DF;split at h<;>first|(cases h;done)|skip
  rename_i hc;have hx:=bo hJ d t x;have hi:=bo hJ d 0 ix;rw[iN]at hx;rw[da]at hi;have tv:=Qt (a:=.i z) rfl hi;obtain⟨cJ,hxe,bH⟩:=hx
  obtain⟨v,hv,hr⟩:=sZ (pv:=pv) aU DF bH hc.2.2 (by
   split at h
   ·rename_i ha;cases h;rw[if_pos ha]
   ·rename_i ha;rw[if_neg ha];split at h
    ·rename_i c mO;cases h;exact⟨c,mO,rfl⟩
    ·cases h)
  refine⟨v,?_,hr⟩;simp only[av,ho,hu,hxe,tv,aU,IV.int];rw[if_pos ⟨hc.1,hc.2.1⟩,hv];rfl
 ·cases h
theorem afl(hJ:J (au P ν) R φ V.g V.l E σ){es:SE}{s:Nat}{c:Cl SE}(h:Wq P d V o=aa (es,s,c)){z:IV}(hz:(SE.sub s es (.len es) (.i 0)).den P ν=aa z):
 ∃x,av P 0 (ax (E d)) o σ=aa (.val x σ)/\VR (au P ν) R φ V.l σ x (.one c):=by
 unfold Wq at h;split at h<;>first|(cases h;done)|skip
 rename_i c0 ho;split at h<;>first|(cases h;done)|skip
 rename_i hc;have bp:=fV hJ d c0.args.toList c0.argTypes.toList;split at h<;>first|(cases h;done)|skip
 rename_i base ca hh;rw[hh]at bp;obtain⟨x0,x1,hx,IT,qY⟩:=HY bp;split at h<;>first|(cases h;done)|skip
 rename_i t0 t1 TL TM;split at h<;>first|(cases h;done)|skip
 rename_i et et1 het ab2;split at h<;>first|(cases h;done)|skip
 rename_i s' z' bytes aU wu ML;split at h<;>first|(cases h;done)|skip
 rename_i bQ;simp only[atw,atD,not_or,Bool.not_eq_true,Bool.not_eq_false]at bQ;obtain⟨⟨bN,gG⟩,hc3⟩:=bQ;have ao_:=asV gG;have asF:bytes<=1000000:=by simpa using hc3
 have bE:s'≠0:=λh=>by subst h;simp at bN
 split at h<;>first|(cases h;done)|skip
 rename_i fr aF raw b w ab3;cases h;simp only[SE.den,as_]at hz;obtain⟨a1,gF,b1,⟨a2,ahi,hlen⟩,h0⟩:=hz;rw[gF]at ahi;cases ahi
 have:a1=.tree s []:=by
  obtain⟨a,ha,h0⟩:=h0;cases ha;unfold I9 at hlen;split at hlen<;>first|(cases hlen;done)|skip
  rename_i q fs;cases hlen;simp only[nj,IV.int,gS]at h0;split at h0
  ·rename_i hc;obtain⟨rfl,_,h1,_,_⟩:=hc;have:fs=[]:=atr (by simpa using h1);rw[this]
  ·cases h0
 subst this;have aW:jm s []=ab:=rfl;obtain⟨g1,new,g2,g3,_,g5⟩:=ER hJ ab3 qY gF (by omega) aW (λ_=>⟨.tree s [],by simp[SE.den,gF]⟩);have lg:new=[]:=by simpa using g3
 subst lg;obtain⟨hw,iP⟩:=IT;refine⟨x0,?_,hw,iP⟩;have akN:eO 0 s 0 0 [] x0 σ=aa (.val x0 σ):=by subst iP;cases b<;>simp[eO,ret]
 have jC:kY x0=aa 0:=by subst iP;cases b<;>rfl
 simp only[av,ho,hc,dJ,hx,kW,TL,TM,o9 het,o9 ab2,aU,wu,ML,sI,g1,g2,jC];rw[if_neg (by rintro(h|h);exact bE h;exact h ao_),if_pos ⟨by simp,by simp,by simp;omega,by simp⟩];exact akN
theorem Zx{o:Oper}{j kt:Nat}{mc:TypeId}{es x:SE}(h:I8 P d V o=aa (j,kt,mc,es,x)):
 ∃it,o.op=.next it af/\bO P d V 0 it=.one (.mp j)/\V.l[j]?=aa (.mp kt x)/\1000000<=kt/\V.l[kt % 1000000]?=aa (.mp mc es)/\¬gI mc=ab:=by
 unfold I8 at h;split at h<;>first|(cases h;done)|skip
 rename_i it ho;split at h<;>first|(cases h;done)|skip
 rename_i j' hm;split at h<;>first|(cases h;done)|skip
 rename_i ma x' hj;split at h<;>first|(cases h;done)|skip
 rename_i hle;split at h<;>first|(cases h;done)|skip
 rename_i asG aF Ze;split at h<;>first|(cases h;done)|skip
 rename_i hk;simp only[asP,ati]at h;obtain⟨rfl,rfl,rfl,rfl,rfl⟩:=h;exact⟨it,ho,hm,hj,by simpa using hle,Ze,hk⟩
theorem Zy(hJ:J (au P ν) R φ V.g V.l E σ)(hn:ν.length=V.n){j id kt m i:Nat}{x0:SE}{ds Qu:List IV}{seen:List Nat}{y:IV}{ob:Ob}(hj:V.l[j]?=aa (.mp kt x0))(j_:1000000<=kt)(ll:φ j=aa id)(hR:R id=ah)
 (zW:∃ma z',V.l[kt % 1000000]?=aa (.mp ma z'))(hm:φ (kt % 1000000)=aa m)(hs:∀s∈seen,s<ds.length)(hl:Left ds (seen++[i]) Qu)(hy:ds[i]?=aa y)(aE:σ.at id=aa ob):
 J (au P (ν++[y,.az [.az ds,.az Qu,y]])) R φ V.g (V.l.set j (.mp kt (.var (V.n+1)))) E (σ.put id (.jO (aa m) ds.length (seen++[i]) ds.length)):=by
 have bD:=hJ.up (iv:=au P (ν++[y,.az [.az ds,.az Qu,y]])) (λe y h=>SE.c9 P e h)
 exact(bD.tQ (R':=R) (bad:=λ_=>False) (kj:=.mp kt (.var (V.n+1))) (eT:=.jO (aa m) ds.length (seen++[i]) ds.length) ll hj (λ_ _=>rfl)
  (λm hm=>by rw[hR]at hm;cases hm) (λm _ _ _ hm=>by rw[hR]at hm;cases hm) (λm _ _ _ hm=>by rw[hR]at hm;cases hm)
  (λ_ h=>by cases h) (λ_ _ _=>by rename_i h;cases h;exact⟨_,rfl⟩) (λ_ _ _ _ _ h=>by cases h) (λ_ _ pv _=>pv.aZ) (λ_ o _ _=>o.aZ)
  (λdK=>by
   rw[gR,if_pos (Et j_)];refine .inr ⟨j_,id,m,ds,seen++[i],Qu,[y],by simp[au,SE.den,<-hn],ll,hR,?_,hm,by rw[St.c_,if_pos rfl],λs bt=>?_,hl,.inr ⟨i,y,rfl,by simp,hy⟩⟩
   ·obtain⟨ma,z',hz⟩:=zW;rw[List.getElem?_set];split
    ·rename_i hh;have ai:=(asM.1 hj).1;rw[if_pos ai];exact⟨_,_,rfl⟩
    ·exact⟨_,_,hz⟩
   ·simp only[List.mem_append,List.mem_singleton]at bt;rcases bt with bt|rfl
    ·exact hs s bt
    ·exact(asM.1 hy).1)).2
theorem acy(ih:Bk P C Q cfg self kx d f0 ops rd df kk CX sk l)(hJ:J (au P ν) R φ V.g V.l E σ)(hn:ν.length=V.n)(hK:K.length=V.lv)(ct:(E d).n=V.nt)
 (hd:∀t,o.dst=aa t->t<(E d).n)(nO:∀x,mG ((E d).put o.dst x) sk)(ey:KS P C Q d E K ν V.nt kk (λN e σ=>CX N .normal e σ))(nw:KP P C Q d E K ν V.nt kx (λN v e σ=>CX N (.b_ v) e σ))(hw:aQ o ops (E d)=ab)
 {j kt:Nat}{mc:TypeId}{es x:SE}(hit:I8 P d V o=aa (j,kt,mc,es,x))
 (hs:(Wr P j kt mc es x V λpv V=>iA P cfg self kx d f0 af ops sk l (V.bP d o.dst pv) kk).sat P C Q K ν):
 ∃b,∀N,b<=N->dx P N rd ops (o::l) (E d) df σ (CX N):=by
 obtain⟨it,ho,hm,hj,j_,Ze,eo⟩:=Zx hit;have p_:=bo hJ d 0 it;rw[hm]at p_;obtain⟨id,kt3,x3,g1,g2,g3⟩:=p_;rw[hj]at g2;cases g2;rw[if_pos (Et j_)]at g3;have dH:=hJ.obj j _ hj;rw[gR,if_pos (Et j_)]at dH;rcases dH with⟨h0,_⟩|⟨_,bB,m,ds,seen,rem,rest,e1,e2,e3,e4,e5,e6,e7,e8,e9⟩
 ·exact(ads j_ h0).elim
 rw[g1]at e2;cases e2;have dc:x.den P ν=aa (.az (.az ds::.az rem::rest)):=e1;have Qd:=hJ.obj _ _ Ze;rw[gR,if_neg eo]at Qd;obtain⟨id2,JI,clock,TU,c1,c2,c3,c4,c5,c6⟩:=Qd;rw[e5]at c2;cases c2;have kQ:es.den P ν=aa (.az TU):=c1;unfold Wr at hs;split at hs<;>first|(exact hs.elim)|skip
 obtain⟨mQ,Qu,d1,⟨r,d2⟩,re,akO⟩:=hs;rw[dc]at d2;simp only[asP,IV.az.injEq,atK]at d2;obtain⟨rfl,rfl,_⟩:=d2;rw[kQ]at d1;simp only[asP,IV.az.injEq]at d1;subst d1;have hlen:JI.length=TU.length:=All2.len c5
 obtain⟨B1,Bm⟩:∃b,∀N,b<=N->(∀i,i<JI.length->i∈seen)->dx P N rd ops l ((E d).put o.dst (.az [.bool af])) df σ (CX N):=by
  by_cases bg:∀i,i<JI.length->i∈seen
  ·obtain⟨b,hb⟩:=fN (V1:=V) (μ:=[]) (x:=.az [.bool af]) (pv:=.tu [(af,[.v (.b af)])]) ih nO hd ct ey nw (by rw[as9];exact hJ) (by rw[as9];exact hn) (atB K) hK rfl (λ_ _=>rfl) rfl
    (by rw[as9];exact⟨_,rfl,⟨_,rfl,.raw (.bool af),rfl,.raw _,rfl⟩,trivial⟩) (by rw[as9];exact re (e8.empty λi hi=>bg i (by rw[hlen];exact hi)))
   exact⟨b,λN hN _=>hb N hN⟩
  ·exact⟨0,λ_ _ h=>absurd h bg⟩
 obtain⟨B2,JJ⟩:=Pr (p:=λi N=>∀en,JI[i]?=aa en->i∉seen->dx P N rd ops l ((E d).put o.dst (.az [.bool ab,lift en.1,en.2.1])) df (σ.put id (.jO (aa m) JI.length (seen++[i]) JI.length)) (CX N)) JI.length λi hi=>by
  by_cases yg:i∈seen
  ·exact⟨0,λ_ _ _ _ h=>absurd yg h⟩
  obtain⟨q,y,hq,hy,hl⟩:=e8.has (by rw[<-hlen];exact hi) yg;have ff:=Zy hJ hn hj j_ g1 e3 e4 e5 e7 hl hy e6
  obtain⟨b,hb⟩:=fN (V1:={V with n:=V.n+2,l:=V.l.set j (.mp kt (.var (V.n+1)))}) (μ:=[y,.az [.az TU,.az (rem.eraseIdx q),y]]) (x:=.az [.bool ab,lift JI[i].1,JI[i].2.1]) (pv:=.tu [(af,[.v (.b ab)]),(af,[.un]),(af,[.un])]) ih nO hd ct ey nw ff (by simp[hn]) (atB K) hK rfl (λ_ _=>rfl) rfl
   ⟨_,rfl,⟨_,rfl,.raw (.bool ab),rfl,.raw _,rfl⟩,⟨_,rfl,trivial⟩,⟨_,rfl,trivial⟩,trivial⟩ (akO q y hq)
  refine⟨b,λN hN en pw _=>?_⟩;rw[asL hi]at pw;cases pw;rw[hlen];exact hb N hN
 refine⟨max σ.n (max B1 B2),λN hN=>.aj1 hw ho g3 (by rw[hlen];exact e6) c4 c6 (by omega) (Bm N (by omega)) λi en pw yg=>JJ i (asM.1 pw).1 N (by omega) en pw yg⟩
theorem acz(hC:jr P C)(bj:pI P C Q self)(ih:Bk P C Q cfg self kx d f0 ops rd df kk CX sk l)(hJ:J (au P ν) R φ V.g V.l E σ)(hn:ν.length=V.n)(hK:K.length=V.lv)(ct:(E d).n=V.nt)
 (hd:∀t,o.dst=aa t->t<(E d).n)(nO:∀x,mG ((E d).put o.dst x) sk)(ey:KS P C Q d E K ν V.nt kk (λN e σ=>CX N .normal e σ))(nw:KP P C Q d E K ν V.nt kx (λN v e σ=>CX N (.b_ v) e σ))(hw:aQ o ops (E d)=ab)
 (hs:(BW P cfg self kx d f0 af o V λpv V=>iA P cfg self kx d f0 af ops sk l (V.bP d o.dst pv) kk).sat P C Q K ν):
 ∃b,∀N,b<=N->dx P N rd ops (o::l) (E d) df σ (CX N):=by
 unfold BW at hs;simp only[atn,if_false]at hs;split at hs
 ·rename_i hit;exact acy ih hJ hn hK ct hd nO ey nw hw hit hs
 split at hs
 ·rename_i e0 c bC;obtain⟨op,t,x,yt,el,ho,hu,hx,fH⟩:=acw bC;have qT:=bo hJ d t x;rw[hx]at qT
  have next:∀b:Bool,(iA P cfg self kx d f0 af ops sk l (V.bP d o.dst (.one (.v (.b b)))) kk).sat P C Q K ν->∃B,∀N,B<=N->dx P N rd ops l ((E d).put o.dst (.raw (.bool b))) df σ (CX N):=λb h=>by
   have:=fN (V1:=V) (μ:=[]) (x:=.raw (.bool b)) (pv:=.one (.v (.b b))) ih nO hd ct ey nw (by rw[as9];exact hJ) (by rw[as9];exact hn) (atB K) hK rfl (λ_ _=>rfl) rfl (by rw[as9];exact⟨.raw (.bool b),rfl,.raw _,rfl⟩) (by rw[as9];exact h);exact this
  have two:∀z q es,z.den P ν=aa (.tree q es)->Xf (ax (E d) x)->(ax (E d) x=.raw (.slice ah 0 0)\/(∃s,ax (E d) x=.tree s [])->es=[])->(ak.two z (iA P cfg self kx d f0 af ops sk l (V.bP d o.dst (.one (.v (.b e0)))) kk) (iA P cfg self kx d f0 af ops sk l (V.bP d o.dst (.one (.v (.b (!e0))))) kk)).sat P C Q K ν->
   ∃b,∀N,b<=N->dx P N rd ops (o::l) (E d) df σ (CX N):=by
   intro z q es hz nG gF dP;obtain⟨q',aF,h1,h2,h3⟩:=dP;rw[hz]at h1;cases h1;obtain⟨B1,Bm⟩:=next _ h2
   by_cases he:es=[]
   ·obtain⟨B2,JJ⟩:=next _ (h3 he)
    exact⟨max σ.n (max B1 B2),λN hN=>.isNil hw (by omega) ho fH hu nG (λ_=>Bm N (by omega)) (λ_=>JJ N (by omega))⟩
   ·exact⟨max σ.n B1,λN hN=>.isNil hw (by omega) ho fH hu nG (λ_=>Bm N (by omega)) (λh=>absurd (gF h) he)⟩
  unfold agU at hs;split at hs<;>first|(exact hs.elim)|skip
  ·obtain⟨y,h1,h2,_⟩:=qT;obtain⟨q,es,h3,bt⟩:=hs;have c8:=h3.symm.trans h1;cases c8;obtain⟨g1,g2⟩:=Qs h2;exact two _ q es h3 g1 g2 ⟨q,es,h3,bt⟩
  ·obtain⟨y,h1,h2,_⟩:=qT;obtain⟨q,es,h3,bt⟩:=hs;have c8:=h3.symm.trans h1;cases c8;obtain⟨g1,g2⟩:=Qs h2;exact two _ q es h3 g1 g2 ⟨q,es,h3,bt⟩
  ·rename_i b s;obtain⟨_,h1⟩:=qT;obtain⟨B,hB⟩:=next _ hs
   cases b with
   |true=>
    simp only[if_true]at h1 hB;exact⟨max σ.n B,λN hN=>.isNil hw (by omega) ho fH hu (.inl h1) (λh=>absurd h1 h) (λ_=>hB N (by omega))⟩
   |false=>
    simp only[atn,if_false]at h1 hB;exact⟨max σ.n B,λN hN=>.isNil hw (by omega) ho fH hu (.inr (.inl h1)) (λ_=>hB N (by omega)) (λh=>by rw[h1]at h;rcases h with h|⟨_,h⟩<;>cases h)⟩
  ·rename_i j;split at hs<;>first|(exact hs.elim)|skip
   rename_i s0 st0 asH fr0 je hj;obtain⟨s1,sX,sB,sY,z1,fe,b1,b2,b3⟩:=qT;rw[hj]at b1;cases b1;have qa:je.den P ν=aa (.tree s0 fe):=b2;refine two _ s0 fe qa ?_ ?_ hs
   ·rcases b3 with⟨_,_,b3|b3⟩|⟨_,_,_,_,_,_,_,b3,_⟩
    ·exact .inl b3
    ·exact .inr (.inl b3)
    ·exact .inr (.inr (.inr ⟨_,_,_,_,_,_,b3⟩))
   ·intro h;rcases b3 with⟨_,b4,_⟩|⟨_,_,_,_,_,_,_,b3,_⟩
    ·exact atr b4
    ·rw[b3]at h;rcases h with h|⟨_,h⟩<;>cases h
 split at hs
 ·rename_i es s c hq;split at hq
  ·obtain⟨⟨z,hz⟩,hk⟩:=hs;obtain⟨x,h1,h2⟩:=afl hJ hq hz;obtain⟨b,hb⟩:=fN (V1:=V) (μ:=[]) (x:=x) (pv:=.one c) ih nO hd ct ey nw (by rw[as9];exact hJ) (by rw[as9];exact hn) (atB K) hK rfl (λ_ _=>rfl) rfl (by rw[as9];exact h2) (by rw[as9];exact hk);exact⟨max b σ.n,λN hN=>.val hw h1 (by omega) (hb N (by omega))⟩
  ·cases hq
 ·split at hs
  ·rename_i pv hq;split at hq
   ·obtain⟨x,h1,h2⟩:=acx hJ hq;obtain⟨b,hb⟩:=fN (V1:=V) (μ:=[]) (x:=x) (pv:=pv) ih nO hd ct ey nw (by rw[as9];exact hJ) (by rw[as9];exact hn) (atB K) hK rfl (λ_ _=>rfl) rfl (by rw[as9];exact h2) (by rw[as9];exact hs);exact⟨max b σ.n,λN hN=>.val hw h1 (by omega) (hb N (by omega))⟩
   ·cases hq
  ·exact Zw hC bj ih hJ hn hK ct hd nO ey nw hw hs
theorem acA{o:Oper}{rest:List Oper}{t:TypeId}{pv:PV SE}(h:Ws P d V o rest=aa (t,pv)):
 ∃x p b,o.op=.makeInterface t x/\o.dst=aa b/\o.guard=ah/\rest=[p]/\p.op=.panic (.tmp b)/\p.guard=ah/\(∀u,(P.underlying t=aa (.interface u)->False)/\(P.underlying t=ah->False))/\pv=bO P d V t x:=by
 unfold Ws at h;split at h<;>first|(cases h;done)|skip
 rename_i t1 x1 p1 ho;split at h<;>first|(cases h;done)|skip
 rename_i a b hp gl hg1 T2;split at h<;>first|(cases h;done)|skip
 rename_i hc;simp only[asN]at hc;obtain⟨bS,gG⟩:=hc;have:=asV bS;subst this;cases h;refine⟨x1,p1,a,ho,gl,hg1,rfl,hp,T2,λu=>⟨λhu=>?_,λhu=>?_⟩,rfl⟩
 ·unfold HP at gG;rw[hu]at gG;cases gG
 ·unfold HP at gG;rw[hu]at gG;cases gG
theorem T3(hC:jr P C)(bj:pI P C Q self):∀(l:List Oper) (sk:List Nat),Bk P C Q cfg self kx d f0 ops rd df kk CX sk l
 |[],sk=>by
  intro V ν K R φ E σ _ hs hJ hn hK ct ey _;obtain⟨b,hb⟩:=ey.now hJ hn hK hs;exact⟨b,λN hN=>.nil (hb N hN).2⟩
 |o::l,sk=>by
  intro V ν K R φ E σ E7 hs hJ hn hK ct ey nw;have ih:∀sk,Bk P C Q cfg self kx d f0 ops rd df kk CX sk l:=λsk=>T3 hC bj l sk;simp only[iA]at hs
  have Zz:∀t,o.dst=aa t->t<V.nt:=by
   intro t ht;rw[ht]at hs;by_cases ai:t<V.nt
   ·exact ai
   ·have:atQ t V.nt=af:=by
     cases h:atQ t V.nt
     ·rfl
     ·exact absurd (by simpa using h) ai
    simp only[this,axM,if_true]at hs;exact hs.elim
  rw[if_neg]at hs
  rotate_left
  ·cases hh:o.dst with
   |none=>simp
   |some t=>simp[Zz t hh]
  ·have hd:∀t,o.dst=aa t->t<(E d).n:=by rw[ct];exact Zz
   simp only[atn,if_false]at hs;split at hs
   ·rename_i t pv acB;obtain⟨x,p,b0,ho,gl,hg1,rfl,hp,T2,hty,rfl⟩:=acA acB;have hx:=bo hJ d t x;have bD:=CO (d:=d) (dst:=o.dst) (x:=.du t (ax (E d) x)) hJ;have Kv:(V.jT d o.dst).ln=V.ln:=CP ..
    obtain⟨f_,kH⟩:=iH Kv
    obtain⟨b,hb⟩:=nw t _ (V.jT d o.dst) [] K R φ _ σ (ax (E d) x) ⟨atB K,by rw[f_];exact hK,kH,by rw[as9];exact bD,by rw[as9,E3];exact hn,λj hj=>gK _ _ _ (by omega),by rw[cm,eZ]⟩
     (by rw[as9];cases o.dst<;>exact hx) (by rw[as9];exact hs)
    rw[cm]at hb;refine⟨max b σ.n,λN hN=>?_⟩;have Qv:aQ o ops (E d)=ab:=by unfold aQ;rw[hg1]
    have eB:av P 0 (ax (E d)) o σ=aa (.val (.du t (ax (E d) x)) σ):=by
     simp only[av,ho];split
     ·rename_i u hu;exact((hty u).1 hu).elim
     ·rfl
     ·rename_i hu;exact((hty #[]).2 hu).elim
    refine .val Qv eB (by omega) ?_;have ai:b0<(E d).n:=hd b0 gl;refine .panic (by unfold aQ;rw[T2]) (v:=.du t (ax (E d) x)) ?_ (hb N (by omega)).2;simp only[av,hp,ax];rw[gl,dT ai]
   rename_i acB;clear acB
   have fU:∀(V1:SS),J (au P ν) R φ V1.g V1.l E σ->V1.n=V.n->V1.ln=V.ln->aQ o ops (E d)=ab->
    (match yC P cfg d af o V1 with
     |some (g,args)=>F0 P cfg self kx d f0 o.dst g args V1 λV=>iA P cfg self kx d f0 af ops (tX sk o.dst) l V kk
     |none=>BW P cfg self kx d f0 af o V1 λpv V=>iA P cfg self kx d f0 af ops (tX sk o.dst) l (V.bP d o.dst pv) kk).sat P C Q K ν->∃b,∀N,b<=N->dx P N rd ops (o::l) (E d) df σ (CX N):=by
    intro V1 bD dO qR hw dK;obtain⟨f_,kH⟩:=iH qR;split at dK
    ·rename_i g dp hj;obtain⟨c,f,bs,ho,hc,hf,rfl⟩:=Zv hj;have oL:=bo bD d 0 f;rw[hf]at oL;have bp:=fV bD d c.args.toList c.argTypes.toList
     have bV:∃fn,P.funcs[g]?=aa fn/\fn.body.isSome=ab/\(fn.name != "runtime.NumGoroutine")=ab:=by
      by_cases hh:∃fn,P.funcs[g]?=aa fn/\fn.body.isSome=ab/\(fn.name != "runtime.NumGoroutine")=ab
      ·exact hh
      ·exfalso;unfold F0 at dK;simp only at dK;split at dK
       ·exact dK
       ·rename_i hfb
        obtain⟨n,hn⟩:=acp (P:=P) (cfg:=cfg) (self:=self) (kx:=λ_ _ _=>.fail 0) (d:=d) (f0:=f0) (dst:=o.dst) (V:={V1 with lv:=V1.lv+1}) (k:=λpv W=>.bad 999999 (W.bP d o.dst pv).n (W.bP d o.dst pv).lv 0 0 (W.bP d o.dst pv).g (W.bP d o.dst pv).l (W.bP d o.dst pv).g (W.bP d o.dst pv).l) (g:=g)
         (dp:=iz P d V1 c.args.toList c.argTypes.toList++bs.map λ(p:Nat×Nat)=>.one (.pt p.1 0 p.2)) (λfn h1 h2 h3=>hh ⟨fn,h1,h2,h3⟩)
        rw[hn]at hfb;cases hfb
     obtain⟨fn,bV,hb,lK⟩:=bV;obtain⟨ys,iV,qZ⟩:=kG (args:=c.args.toList.map (ax (E d))) oL bV hb lK
     have eB:av P 0 (ax (E d)) o σ=aa (.enter g (c.args.toList.map (ax (E d))++ys)):=by
      simp only[av,ho,hc];exact iV
     obtain⟨_,_,_,_,b,hcw⟩:=acr (RW:=λN v aq=>aq.n<=N/\dx P N rd ops l ((E d).put o.dst v) df aq (CX N)) (PW:=λN v aq=>CX N (.b_ v) (E d) aq) hC bj bD (by rw[dO];exact hn) (by rw[f_];exact hK) (by rw[kH];exact ct) (bp.app qZ) hd dK (by
      intro H vs R' aL E' ao v MH Dt apa acC hE' yQ bt
      obtain⟨b,hb⟩:=ih (tX sk o.dst) H (ν++vs) K R' aL E' ao (by rw[yQ];exact E7.put o.dst _) bt MH Dt (by rw[apa,f_];exact hK) (by rw[yQ,eZ,acC,kH];exact ct) (by
       rw[acC,kH];exact ey.fwd (atB K) hE' (by rw[yQ,eZ])) (by
       rw[acC,kH];exact nw.fwd (atB K) hE' (by rw[yQ,eZ]))
      refine⟨max b ao.n,λN hN=>⟨by omega,by omega,?_⟩⟩;have:=hb N (by omega);rw[yQ]at this;exact this) (by
      intro t pv V' μ K' R' aL E' ao v hF nN hv bt;obtain⟨b,hb⟩:=nw t pv V' μ K' R' aL E' ao v (kH▸hF) hv bt;exact⟨b,λN hN=>⟨(hb N hN).1,by rw[<-nN];exact(hb N hN).2⟩⟩)
     exact⟨b,λN hN=>.Wc hw eB (hcw N hN) (λv aq hv=>hv) λv aq hv=>hv⟩
    ·exact acz hC bj (ih (tX sk o.dst)) bD (by rw[dO];exact hn) (by rw[f_];exact hK) (by rw[kH];exact ct) hd (λx=>E7.put o.dst x) (by rw[kH];exact ey) (by rw[kH];exact nw) hw dK
   have CU:∀(V1:SS),J (au P ν) R φ V1.g V1.l E σ->V1.n=V.n->V1.ln=V.ln->aQ o ops (E d)=af->
    (iA P cfg self kx d f0 af ops (F4 sk o.dst) l (V1.jT d o.dst) kk).sat P C Q K ν->∃b,∀N,b<=N->dx P N rd ops (o::l) (E d) df σ (CX N):=by
    intro V1 bD dO qR hw dK;have Kv:(V1.jT d o.dst).ln=V.ln:=by rw[CP,qR]
    obtain⟨f_,kH⟩:=iH Kv
    obtain⟨b,hb⟩:=ih (F4 sk o.dst) (V1.jT d o.dst) ν K R φ _ σ (by rw[cm];exact E7.add hd) dK (CO (x:=.undef) bD) (by rw[E3,dO];exact hn) (by rw[f_];exact hK) (by rw[cm,eZ,kH];exact ct) (by
     rw[kH];have:=ey.fwd (zX:=[]) (E1:=ri E d ((E d).put o.dst .undef)) (atB K) (λj hj=>gK _ _ _ (by omega)) (by rw[cm,eZ]);rw[as9]at this;exact this) (by
     rw[kH];have:=nw.fwd (zX:=[]) (E1:=ri E d ((E d).put o.dst .undef)) (atB K) (λj hj=>gK _ _ _ (by omega)) (by rw[cm,eZ]);rw[as9]at this;exact this)
    refine⟨b,λN hN=>.skip hw ?_⟩;have:=hb N hN;rw[cm]at this;exact this
   obtain⟨w1,w2,w3⟩:=Qk (o:=o) hJ ct (ops:=ops)
   have w2':(if ni sk ops o=ab then Want.skip else tU ops d V o)=.skip->aQ o ops (E d)=af:=λh=>by
    by_cases hq:ni sk ops o=ab
    ·exact E7.adK hq
    ·rw[if_neg hq]at h;exact w2 h
   have w0:∀w,w≠.skip->(if ni sk ops o=ab then Want.skip else tU ops d V o)=w->tU ops d V o=w:=λw hw h=>by
    by_cases hq:ni sk ops o=ab
    ·rw[if_pos hq]at h;exact absurd h.symm hw
    ·rw[if_neg hq]at h;exact h
   split at hs
   ·rename_i hh;exact fU V hJ rfl rfl (w1 (w0 _ (by simp) hh)) hs
   ·rename_i hh;exact CU V hJ rfl rfl (w2' hh) hs
   ·rename_i t e want hh;replace hh:=w0 _ (by simp) hh;obtain⟨hg,hb⟩:=w3 _ _ _ hh;rcases hs with⟨h1,hs⟩|⟨h1,hs⟩
    ·obtain⟨aE,bD⟩:=J.refine hJ hg h1;have hw:=hb _ aE;cases want
     ·exact CU _ bD rfl rfl (by rw[hw];rfl) hs
     ·exact fU _ bD rfl rfl (by rw[hw];rfl) hs
    ·obtain⟨aE,bD⟩:=J.refine hJ hg h1;have hw:=hb _ aE;cases want
     ·exact fU _ bD rfl rfl (by rw[hw];rfl) hs
     ·exact CU _ bD rfl rfl (by rw[hw];rfl) hs
   ·exact hs.elim
end Go.Ev
namespace Go.Ev
variable{P:Program}{N:Nat}{σ ao:St}{R R':Rs}{φ aL:Ph}{E:Nat->Env}{ν:List IV}{ro:Nat}{ι:Io}{w:World}{cfg:a_}{self:nX}
variable{C:Cr}{Q:IV->Prop}{K:List (List IV->Prop)}{V:SS}{d f0:Nat}{o:Oper}{k:PV SE->SS->ak}{L:List (LO SE)}{Γ:Gm SE}{rd:Option Nat}{df:List Df}
variable{fr:Bool}{kx:Kx}{sk:List Nat}{ops:Array Oper}{pl:dX}{l:List (Oper×Nat)}{kk:SS->ak}{CX:Nat->kc}
def Ou(fr:Bool)(P:Program)(C:Cr)(Q:IV->Prop)(cfg:a_)(self:nX)(kx:Kx)(d f0:Nat)(ops:Array Oper)(pl:dX)(kk:SS->ak)(CX:Nat->kc)(sk:List Nat)(l:List (Oper×Nat)):Prop:=
 ∀(V:SS) ν K R φ E σ,mG (E d) sk->(iA P cfg self kx d f0 ab ops sk (l.map avx) V kk).sat P C Q K ν->J (au P ν) R φ V.g V.l E σ->ν.length=V.n->K.length=V.lv->(E d).n=V.nt->KS P C Q d E K ν V.nt kk (λN e σ=>CX N .normal e σ)->
  ∃e' ao,gm P 0 ops pl fr l (E d) σ e' ao/\∃b,∀N,b<=N->ao.n<=N/\CX N .normal e' ao
theorem xA(ih:Ou fr P C Q cfg self kx d f0 ops pl kk CX sk l){dst:Option Nat}(nO:∀x,mG ((E d).put dst x) sk)(hd:∀t,dst=aa t->t<(E d).n){nt:Nat}(ct:(E d).n=nt)(ey:KS P C Q d E K ν nt kk (λN e σ=>CX N .normal e σ))
 {V1:SS}{μ:List IV}{R1:Rs}{dI:Ph}{aq:St}{x:IV}{pv:PV SE}
 (hJ:J (au P (ν++μ)) R1 dI V1.g V1.l E aq)(hn:(ν++μ).length=V1.n)(f_:K.length=V1.lv)(kH:V1.nt=nt)
 (hx:VR (au P (ν++μ)) R1 dI V1.l aq x pv)(hs:(iA P cfg self kx d f0 ab ops sk (l.map avx) (V1.bP d dst pv) kk).sat P C Q K (ν++μ)):
 ∃e' ao,gm P 0 ops pl fr l ((E d).put dst x) aq e' ao/\∃b,∀N,b<=N->ao.n<=N/\CX N .normal e' ao:=by
 have bD:=CN (d:=d) (dst:=dst) hJ hx hd;have Lv:(V1.bP d dst pv).nt=nt:=by cases dst<;>exact kH
 have aco:(V1.bP d dst pv).lv=V1.lv:=by cases dst<;>rfl
 have:=ih (V1.bP d dst pv) (ν++μ) K R1 dI _ aq (by rw[cm];exact nO x) hs bD (by rw[EZ];exact hn) (by rw[aco];exact f_) (by rw[cm,eZ,ct,Lv]) (by
  rw[Lv];exact ey.fwd (atB K) (λj hj=>by rw[gK _ _ _ (by omega)]) (by rw[cm,eZ]))
 rw[cm]at this;exact this
theorem Xg(cfg:a_)(g:FuncId):xO (A_ cfg) g=af:=by
 cases h:xO (A_ cfg) g with
 |false=>rfl
 |true=>
  unfold xO A_ at h;simp only[asN]at h;obtain⟨ai,h⟩:=h;obtain⟨n,hn,hg⟩:=aws.1 h;have:=asV hg;have h2:=(atW.1 hn).2;simp at h2 ai;omega
theorem acD{j:Nat}(hC:jr P C)(hq:∀g,xO cfg g=ab->fr=ab)(ih:Ou fr P C Q cfg self kx d f0 ops pl kk CX sk l)(hJ:J (au P ν) R φ V.g V.l E σ)(hn:ν.length=V.n)(hK:K.length=V.lv)(ct:(E d).n=V.nt)
 (hd:∀t,o.dst=aa t->t<(E d).n)(nO:∀x,mG ((E d).put o.dst x) sk)(ey:KS P C Q d E K ν V.nt kk (λN e σ=>CX N .normal e σ))(hw:aQ o ops (E d)=ab)
 (hs:(BW P cfg self kx d f0 ab o V λpv V=>iA P cfg self kx d f0 ab ops sk (l.map avx) (V.bP d o.dst pv) kk).sat P C Q K ν):
 ∃e' ao,gm P 0 ops pl fr ((o,j)::l) (E d) σ e' ao/\∃b,∀N,b<=N->ao.n<=N/\CX N .normal e' ao:=by
 have JH:(fT P d o V λpv V=>iA P cfg self kx d f0 ab ops sk (l.map avx) (V.bP d o.dst pv) kk).sat P C Q K ν->∃e' ao,gm P 0 ops pl fr ((o,j)::l) (E d) σ e' ao/\∃b,∀N,b<=N->ao.n<=N/\CX N .normal e' ao:=by
  intro hs;obtain⟨x,aq,R1,dI,pv,V1,μ,h1,h2,h3,h4,h5,h6⟩:=Zj hJ hn hs;obtain⟨e',ao,g1,g2⟩:=xA ih nO hd ct ey h2 h4 (by rw[(iH h5).1];exact hK) (iH h5).2 h3 h6;exact⟨e',ao,.val hw h1 g1,g2⟩
 unfold BW at hs;simp only[if_true,avI,axN,atn,if_false]at hs;unfold I7 at hs;split at hs
 ·rename_i c ho;unfold Wo at hs;split at hs
  ·exact JH hs
  ·rename_i f hc;split at hs<;>first|(exact hs.elim)|skip
   rename_i g bs hf;simp only at hs;split at hs
   ·split at hs
    ·simp only[avI,axN,atn,if_false]at hs;exact hs.elim
    ·exact hs.elim
   split at hs
   ·rename_i hp;simp only[asN,atY]at hp;obtain⟨gw,uP⟩:=hp;subst gw
    have apb:∃(args:List IV) (v:IV) (aq:St) (R1:Rs) (dI:Ph) (pv:PV SE) (V1:SS) (μ:List IV),av P 0 (ax (E d)) o σ=aa (.enter g args)/\(∀ro,gP P ro g args σ v aq)/\(aq=σ\/∃ob,aq=σ.add ob)/\J (au P (ν++μ)) R1 dI V1.g V1.l E aq/\VR (au P (ν++μ)) R1 dI V1.l aq v pv/\(ν++μ).length=V1.n/\V1.ln=V.ln/\
     (iA P cfg self kx d f0 ab ops sk (l.map avx) (V1.bP d o.dst pv) kk).sat P C Q K (ν++μ):=by
     split at hs
     ·exact MY hC hJ hn ‹_› ho hc hf hs
     ·exact MX hC hJ hn ho hc hf hs
    obtain⟨args,v,aq,R1,dI,pv,V1,μ,eB,qX,tA,g1,g2,g3,g4,g5⟩:=apb;obtain⟨e',ao,r1,r2⟩:=xA ih nO hd ct ey g1 g3 (by rw[(iH g4).1];exact hK) (iH g4).2 g2 g5;rcases tA with rfl|⟨ob,rfl⟩
    ·exact⟨e',ao,.IW hw eB qX r1,r2⟩
    ·exact⟨e',ao,.V_ (hq g uP) hw eB qX r1,r2⟩
   split at hs
   ·rename_i hp;simp only[asN,atY]at hp;have gw:=hp.1;subst gw;obtain⟨args,v,aq,R1,dI,pv,V1,μ,eB,qX,rfl,g1,g2,g3,g4,g5⟩:=Qj hC hJ hn ho hc hf hs;obtain⟨e',ao,r1,r2⟩:=xA ih nO hd ct ey g1 g3 (by rw[(iH g4).1];exact hK) (iH g4).2 g2 g5;exact⟨e',ao,.IW hw eB qX r1,r2⟩
   split at hs
   ·split at hs<;>exact hs.elim
   split at hs
   ·rename_i hp;simp only[asN,atY]at hp;have gw:=hp.1;subst gw;split at hs<;>first|(exact hs.elim)|skip
    rename_i zs V' fn hr bV;split at hs<;>first|(exact hs.elim)|skip
    rename_i bQ;simp only[asN]at bQ;obtain⟨g',args,z,R1,pv,V1,μ,h1,h2,h3,h4,h5,h6,h7⟩:=Qi hC hJ hn ho hc hf hr bV bQ.1.2 bQ.2 bQ.1.1 hs;obtain⟨e',ao,g1,g2⟩:=xA ih nO hd ct ey h3 h5 (by rw[(iH h6).1];exact hK) (iH h6).2 h4 h7;exact⟨e',ao,.IW hw h1 h2 g1,g2⟩
   ·exact hs.elim
  ·exact hs.elim
 ·exact JH hs
theorem E8(hC:jr P C)(hq:∀g,xO cfg g=ab->fr=ab):∀(l:List (Oper×Nat)) (sk:List Nat),Ou fr P C Q cfg self kx d f0 ops pl kk CX sk l
 |[],sk=>by
  intro V ν K R φ E σ _ hs hJ hn hK ct ey;exact⟨E d,σ,.nil _ _,ey.now hJ hn hK hs⟩
 |(o,j)::l,sk=>by
  intro V ν K R φ E σ E7 hs hJ hn hK ct ey;have ih:∀sk,Ou fr P C Q cfg self kx d f0 ops pl kk CX sk l:=λsk=>E8 hC hq l sk;simp only[atJ,iA,if_true]at hs
  have Zz:∀t,o.dst=aa t->t<V.nt:=by
   intro t ht;rw[ht]at hs;by_cases ai:t<V.nt
   ·exact ai
   ·have:atQ t V.nt=af:=by
     cases h:atQ t V.nt
     ·rfl
     ·exact absurd (by simpa using h) ai
    simp only[this,axM,if_true]at hs;exact hs.elim
  rw[if_neg]at hs
  rotate_left
  ·cases hh:o.dst with
   |none=>simp
   |some t=>simp[Zz t hh]
  ·have hd:∀t,o.dst=aa t->t<(E d).n:=by rw[ct];exact Zz
   have fU:∀(V1:SS),J (au P ν) R φ V1.g V1.l E σ->V1.n=V.n->V1.ln=V.ln->aQ o ops (E d)=ab->
    (match yC P cfg d ab o V1 with
     |some (g,args)=>F0 P cfg self kx d f0 o.dst g args V1 λV=>iA P cfg self kx d f0 ab ops (tX sk o.dst) (l.map avx) V kk
     |none=>BW P cfg self kx d f0 ab o V1 λpv V=>iA P cfg self kx d f0 ab ops (tX sk o.dst) (l.map avx) (V.bP d o.dst pv) kk).sat P C Q K ν->
    ∃e' ao,gm P 0 ops pl fr ((o,j)::l) (E d) σ e' ao/\∃b,∀N,b<=N->ao.n<=N/\CX N .normal e' ao:=by
    intro V1 bD dO qR hw dK;obtain⟨f_,kH⟩:=iH qR;have:yC P cfg d ab o V1=ah:=by simp[yC]
    rw[this]at dK;exact acD hC hq (ih (tX sk o.dst)) bD (by rw[dO];exact hn) (by rw[f_];exact hK) (by rw[kH];exact ct) hd (λx=>E7.put o.dst x) (by rw[kH];exact ey) hw dK
   have CU:∀(V1:SS),J (au P ν) R φ V1.g V1.l E σ->V1.n=V.n->V1.ln=V.ln->aQ o ops (E d)=af->
    (iA P cfg self kx d f0 ab ops (F4 sk o.dst) (l.map avx) (V1.jT d o.dst) kk).sat P C Q K ν->∃e' ao,gm P 0 ops pl fr ((o,j)::l) (E d) σ e' ao/\∃b,∀N,b<=N->ao.n<=N/\CX N .normal e' ao:=by
    intro V1 bD dO qR hw dK;have Kv:(V1.jT d o.dst).ln=V.ln:=by rw[CP,qR]
    obtain⟨f_,kH⟩:=iH Kv
    obtain⟨e',ao,g1,g2⟩:=ih (F4 sk o.dst) (V1.jT d o.dst) ν K R φ _ σ (by rw[cm];exact E7.add hd) dK (CO (x:=.undef) bD) (by rw[E3,dO];exact hn) (by rw[f_];exact hK) (by rw[cm,eZ,kH];exact ct) (by
     rw[kH];have:=ey.fwd (zX:=[]) (E1:=ri E d ((E d).put o.dst .undef)) (atB K) (λj hj=>gK _ _ _ (by omega)) (by rw[cm,eZ]);rw[as9]at this;exact this)
    rw[cm]at g1;exact⟨e',ao,.skip hw g1,g2⟩
   obtain⟨w1,w2,w3⟩:=Qk (o:=o) hJ ct (ops:=ops)
   have w2':(if ni sk ops o=ab then Want.skip else tU ops d V o)=.skip->aQ o ops (E d)=af:=λh=>by
    by_cases hq:ni sk ops o=ab
    ·exact E7.adK hq
    ·rw[if_neg hq]at h;exact w2 h
   have w0:∀w,w≠.skip->(if ni sk ops o=ab then Want.skip else tU ops d V o)=w->tU ops d V o=w:=λw hw h=>by
    by_cases hq:ni sk ops o=ab
    ·rw[if_pos hq]at h;exact absurd h.symm hw
    ·rw[if_neg hq]at h;exact h
   split at hs
   ·rename_i hh;exact fU V hJ rfl rfl (w1 (w0 _ (by simp) hh)) hs
   ·rename_i hh;exact CU V hJ rfl rfl (w2' hh) hs
   ·rename_i t e want hh;replace hh:=w0 _ (by simp) hh;obtain⟨hg,hb⟩:=w3 _ _ _ hh;rcases hs with⟨h1,hs⟩|⟨h1,hs⟩
    ·obtain⟨aE,bD⟩:=J.refine hJ hg h1;have hw:=hb _ aE;cases want
     ·exact CU _ bD rfl rfl (by rw[hw];rfl) hs
     ·exact fU _ bD rfl rfl (by rw[hw];rfl) hs
    ·obtain⟨aE,bD⟩:=J.refine hJ hg h1;have hw:=hb _ aE;cases want
     ·exact fU _ bD rfl rfl (by rw[hw];rfl) hs
     ·exact CU _ bD rfl rfl (by rw[hw];rfl) hs
   ·exact hs.elim
theorem afm(hJ:J (au P ν) R φ V.g V.l E σ)(ct:(E d).n=V.nt):mz σ.n (E d) (EH d V):=by
 refine⟨ct,λt ht=>?_,λt ht=>by cases ht⟩;unfold wH EH at ht;rw[aws]at ht;obtain⟨t',ht',hb⟩:=ht;have:=asV hb;subst this;have h2:=(atW.1 ht').2;split at h2
 ·rename_i k off ext hg;obtain⟨id,cs,h3,_,h5⟩:=hJ.slot d t _ hg;exact .inl ⟨id,off,0,ext,h5,(hJ.lt k id h3).2⟩
 ·rename_i cs hg;obtain⟨ds,h3,_⟩:=hJ.slot d t _ hg;exact .inr (.inl ⟨ds,h3⟩)
 ·cases h2
theorem acE(hJ:J (au P ν) R φ V.g V.l E σ){ops:Array Oper}:tR P ops φ (E d) σ (EH d V):=by
 refine⟨λt h ht=>?_,λi a d h hm=>by cases hm⟩;obtain⟨⟨d',t',pv⟩,_,h2⟩:=List.mem_filterMap.1 (show(t,h)∈V.g.filterMap _ from ht);simp only at h2;split at h2<;>first|(cases h2;done)|skip
 split at h2<;>first|(cases h2;done)|skip
 rename_i k off ext hg;cases h2;obtain⟨id,cs,h3,_,h5⟩:=hJ.slot d _ _ hg;exact⟨id,off,0,ext,h3,h5⟩
theorem acF(fi:P.follows .mixedOrders=ab)(hC:jr P C){fn:FuncId}{id:Nat}(mZ:((dG ops).ok&&(FQ ops (dG ops)||nf P (dG ops) ops.toList.zipIdx (EH d V)))=ab)(hs:(iA P (if nf P (dG ops) ops.toList.zipIdx (EH d V)then cfg else A_ cfg) self kx d f0 ab ops [] ops.toList V kk).sat P C Q K ν)
 (hJ:J (au P ν) R φ V.g V.l E σ)(hn:ν.length=V.n)(hK:K.length=V.lv)(ct:(E d).n=V.nt)(ey:KS P C Q d E K ν V.nt kk (λN e σ=>CX N .normal e σ)):
 ∃b,∀N,b<=N->dL P N rd (.region id ops ab) (E d) df σ (CX N):=by
 simp only[asN,atw]at mZ;have aU:ops.toList.zipIdx.map (·.1)=ops.toList:=by simp
 by_cases hq:nf P (dG ops) ops.toList.zipIdx (EH d V)=ab
 ·rw[if_pos hq]at hs;obtain⟨e',ao,h1,b,hb⟩:=E8 (fr:=ab) (pl:=dG ops) (CX:=CX) hC (λ_ _=>rfl) ops.toList.zipIdx [] V ν K R φ E σ (mG.nil _) (by rw[aU];exact hs) hJ hn hK ct ey;exact⟨b,λN hN=>dL.I0 (fn:=fn) (fP.aj7 fi mZ.1 hq (afm hJ ct) hJ.inj (acE hJ) hJ.wf h1) rfl (hb N hN).1 (hb N hN).2⟩
 ·rw[if_neg hq]at hs;obtain⟨e',ao,h1,b,hb⟩:=E8 (fr:=af) (pl:=dG ops) (CX:=CX) hC (λg hg=>by rw[Xg]at hg;cases hg) ops.toList.zipIdx [] V ν K R φ E σ (mG.nil _) (by rw[aU];exact hs) hJ hn hK ct ey;rcases mZ.2 with wo|wo
  ·exact⟨b,λN hN=>dL.I0 (fn:=fn) (fP.draw fi mZ.1 wo hJ.wf h1) rfl (hb N hN).1 (hb N hN).2⟩
  ·exact absurd wo hq
end Go.Ev
