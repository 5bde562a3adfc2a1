/- Lemmas over the model, without conditions of their own: code on expressions is sound (1). -/
import Derived.Test.YtpfogalbnijcoaaGreatEvN
open Nat renaming le_refl->ar8,eq_of_beq_eq_true->asb,blt->as7
open List renaming getElem?_append_left->asd,append_assoc->ast,getElem?_set_ne->au_,all_eq_true->asl,mem_of_getElem?->ash,getElem?_eq_some_iff->ar3,getElem?_map->asi,getElem?_range->auL,getElem?_eq_getElem->ar2,map_cons->asZ,nodup_cons->avK,length_map->aty,prefix_refl->asP,append_nil->asm,isEmpty_iff->ate,eq_nil_of_length_eq_zero->asF,any_eq_true->avI,mem_filter->atc
open Option renaming map_eq_some_iff->ar9,bind_some->asa,bind_eq_some_iff->aso,map_some->asy
open Option.some renaming injEq->ar6
open Bool renaming and_eq_true->ar4,not_eq_true'->asR,or_eq_true->asL,false_eq_true->asA,not_false->aw4,not_true->au0,false_and->aw5
open Prod.mk renaming injEq->asu
open Array renaming getElem?_eq_some_iff->asX
open Go.Op renaming equal->avd,equalIn->atu
open Classical renaming propDecidable->axI
open List.cons renaming injEq->as4
open Prod renaming fst->auQ
open Option renaming some->aa,none->ah
open Bool renaming true->ab,false->af
set_option linter.all false
namespace Go.Ev
variable{P:Program}{N:Nat}{σ ao:St}{R R':Rs}{φ aL:Ph}{E:Nat->Env}{ν qC vs:List IV}{V:SS}{d t:Nat}
theorem J.PQ{Γ:Gm SE}{L:List (LO SE)}(hJ:J (au P ν) R φ Γ L E σ){pv:PV SE}(h:VR (au P ν) R φ L σ ((E d).at t) pv):J (au P ν) R φ (OM d t pv Γ) L E σ:=by
 refine{hJ with slot:=λd' t' C_ Ez=>?_};rcases m_ Ez with⟨rfl,rfl,rfl⟩|⟨_,h3⟩
 ·exact h
 ·exact hJ.slot d' t' C_ (Hf Γ h3).2
theorem WC(hJ:J (au P ν) R φ V.g V.l E σ)(d t:Nat):∃R',J (au P ν) R' φ (xA d t V).g (xA d t V).l E σ/\(xA d t V).n=V.n/\(xA d t V).ln=V.ln:=by
 unfold xA;split
 ·rename_i k hg;split
  ·rename_i s st cut fr es hk;obtain⟨R',h1,h2,h3⟩:=GG hJ k;have hv:=hJ.slot d t _ hg;have TC:cD (au P ν) R' φ (px k V).l σ ((E d).at t) (.sr k):=h1.LQ hv;obtain⟨y,a1,a2,a3⟩:=O9 h2 (h3 _ _ _ _ _ hk) TC;refine⟨R',h2.PQ (pv:=.one (.w fr es)) ⟨y,a1,a2,a3⟩,?_,?_⟩
   ·rw[Ew];exact h1.2.1
   ·rw[WB];exact h1.2.2.1
  ·exact⟨R,hJ,rfl,rfl⟩
 ·exact⟨R,hJ,rfl,rfl⟩
theorem zX:∀(ws:List (Nat×Nat×Nat)) {V:SS} {R:Rs},J (au P ν) R φ V.g V.l E σ->∃R',J (au P ν) R' φ (settle ws V).g (settle ws V).l E σ/\(settle ws V).n=V.n/\(settle ws V).ln=V.ln
 |[],V,R,hJ=>⟨R,hJ,rfl,rfl⟩
 |(d,t,m)::ws,V,R,hJ=>by
  simp only[settle];split
  ·obtain⟨R1,h1,h2,h3⟩:=WC hJ d t;obtain⟨R2,h4,h5,h6⟩:=zX ws h1;exact⟨R2,h4,h5.trans h2,h6.trans h3⟩
  ·exact zX ws hJ
theorem PR{L:List (LO SE)}{Γ:Gm SE}(hJ:J (au P ν) R φ Γ L E σ){x:IV}{b:Bool}{s:Nat}(hx:cD (au P ν) R φ L σ x (.nl b s)):
 J (au P ν) R φ Γ (L++[.row s af af af (.tr s .an)]) E σ/\ky (au P ν) (au P ν) R φ L σ R φ (L++[.row s af af af (.tr s .an)]) σ (λ_=>False)/\cD (au P ν) R φ (L++[.row s af af af (.tr s .an)]) σ x (.sr L.length):=by
 obtain⟨hs,hx⟩:=hx;have hz:(SE.tr s .an).den P ν=aa (.tree s []):=by simp[SE.den,hs]
 obtain⟨h1,h2⟩:=hJ.A9 (fr:=af) hs hz;exact⟨h2,h1,s,af,af,af,_,[],by simp,hz,.inl ⟨xD hJ (ar8 _),rfl,by subst hx;cases b<;>simp⟩⟩
theorem All2.set{α β:Type}{r:α->β->Prop}:∀{as:List α} {bs:List β} {i:Nat} {b:β},All2 r as bs->(∀a,as[i]?=aa a->r a b)->All2 r as (bs.set i b)
 |[],[],i,b,_,_=>by simp;trivial
 |a::as,b'::bs,i,b,h,hr=>by
  cases i with
  |zero=>exact⟨hr a rfl,h.2⟩
  |succ i=>exact⟨h.1,All2.set h.2 λa ha=>hr a (by simpa using ha)⟩
 |[],_::_,_,_,h,_=>h.elim
 |_::_,[],_,_,h,_=>h.elim
theorem YJ(hJ:J (au P ν) R φ V.g V.l E σ)(d t j:Nat):J (au P ν) R φ (AX d t j V).g (AX d t j V).l E σ/\(AX d t j V).n=V.n/\(AX d t j V).ln=V.ln:=by
 unfold AX;split
 ·rename_i b s hg;split
  ·obtain⟨h1,_,h2⟩:=PR hJ (x:=(E d).at t) (b:=b) (s:=s) (hJ.slot d t _ hg);exact⟨h1.PQ (pv:=.one (.sr V.l.length)) h2,rfl,rfl⟩
  ·exact⟨hJ,rfl,rfl⟩
 ·rename_i cs hg;split
  ·rename_i b s hc;obtain⟨xs,y7,wA⟩:=hJ.slot d t _ hg;obtain⟨x,hx,hr⟩:=wA.Ak hc;obtain⟨h1,h3,h2⟩:=PR hJ hr;refine⟨h1.PQ (pv:=.ag _) ⟨xs,y7,(wA.mono λ_ _ bR=>bR.step h3 (Cl.a_ _)).set λa ha=>?_⟩,rfl,rfl⟩;rw[hx]at ha;cases ha;exact h2
  ·exact⟨hJ,rfl,rfl⟩
 ·exact⟨hJ,rfl,rfl⟩
theorem YK(hJ:J (au P ν) R φ V.g V.l E σ)(k j:Nat):J (au P ν) R φ (AY k j V).g (AY k j V).l E σ/\(AY k j V).n=V.n/\(AY k j V).ln=V.ln:=by
 unfold AY;split
 ·rename_i cs hk;split
  ·rename_i b s hc;obtain⟨id,cE,g1,g2,g3,g4⟩:=hJ.obj k _ hk;obtain⟨x,hx,hr⟩:=g4.Ak hc;obtain⟨h1,h3,h2⟩:=PR hJ hr;have oL:=c_ hk;have mZ:(V.l++[LO.row s af af af (SE.tr s SE.an)])[k]?=aa (.var cs):=by rw[asd oL];exact hk
   obtain⟨dC,bD⟩:=h1.tv (R':=R) (bad:=λ_=>False) (jY:=.var (cs.set j (.sr V.l.length))) (eK:=.cells cE 0 0) g1 mZ (λ_ _=>rfl)
    (λm hm=>by rw[g2]at hm;cases hm) (λm _ _ _ hm=>by rw[g2]at hm;cases hm) (λm _ _ _ hm=>by rw[g2]at hm;cases hm)
    (λ_ _=>⟨_,rfl⟩) (λ_ _ h=>by cases h) (λ_ _ _ _ _ h=>by cases h) (λ_ _ pv _=>pv.a_) (λ_ o _ _=>o.a_)
    (λdC=>⟨id,cE,g1,g2,by rw[St.cV,if_pos rfl],((g4.mono λ_ _ bR=>bR.step h3 (Cl.a_ _)).set λa ha=>by rw[hx]at ha;cases ha;exact h2).mono λ_ _ bR=>bR.step dC (Cl.a_ _)⟩)
   have Im:σ.put id (.cells cE 0 0)=σ:=by
    unfold St.put
    have:σ.t.set id (.cells cE 0 0)=σ.t:=T.WF.ext (hJ.wf.set _ _) hJ.wf λi=>by
     rw[T.fW];split
     ·rename_i hh;subst hh;exact g3.symm
     ·rfl
    rw[this]
   rw[Im]at bD
   have r7:(V.l++[LO.row s af af af (SE.tr s SE.an)]).set k (LO.var (cs.set j (Cl.sr V.l.length)))=V.l.set k (LO.var (cs.set j (Cl.sr V.l.length)))++[LO.row s af af af (SE.tr s SE.an)]:=by
    rw[List.set_append_left _ _ oL]
   rw[r7]at bD;exact⟨bD,rfl,rfl⟩
  ·exact⟨hJ,rfl,rfl⟩
 ·exact⟨hJ,rfl,rfl⟩
theorem Cy(h:Hint):∀(l:List (Nat×Nat×Nat)) {V:SS},J (au P ν) R φ V.g V.l E σ->J (au P ν) R φ (uH h l V).g (uH h l V).l E σ/\(uH h l V).n=V.n/\(uH h l V).ln=V.ln
 |[],V,hJ=>⟨hJ,rfl,rfl⟩
 |(d,t,j)::l,V,hJ=>by
  simp only[uH];split
  ·obtain⟨h1,h2,h3⟩:=YJ hJ d t j;obtain⟨h4,h5,h6⟩:=Cy h l h1;exact⟨h4,h5.trans h2,h6.trans h3⟩
  ·exact Cy h l hJ
theorem Ja:∀(l:List (Nat×Nat)) {V:SS},J (au P ν) R φ V.g V.l E σ->J (au P ν) R φ (uI l V).g (uI l V).l E σ/\(uI l V).n=V.n/\(uI l V).ln=V.ln
 |[],V,hJ=>⟨hJ,rfl,rfl⟩
 |(k,j)::l,V,hJ=>by
  simp only[uI];obtain⟨h1,h2,h3⟩:=YK hJ k j;obtain⟨h4,h5,h6⟩:=Ja l h1;exact⟨h4,h5.trans h2,h6.trans h3⟩
theorem PS(h:Hint)(hJ:J (au P ν) R φ V.g V.l E σ):∃R',J (au P ν) R' φ (uJ h (settle h.yj V)).g (uJ h (settle h.yj V)).l E σ/\(uJ h (settle h.yj V)).n=V.n/\(uJ h (settle h.yj V)).ln=V.ln:=by
 obtain⟨R',h1,h2,h3⟩:=zX h.yj hJ;obtain⟨h4,h5,h6⟩:=Cy h h.Iy.reverse h1;obtain⟨h7,h8,h9⟩:=Ja h.yh.reverse h4;exact⟨R',h7,h8.trans (h5.trans h2),h9.trans (h6.trans h3)⟩
end Go.Ev
namespace Go.Ev
variable{P:Program}{N:Nat}{σ ao:St}{R R':Rs}{φ aL:Ph}{E:Nat->Env}{ν:List IV}{ro:Nat}{ι:Io}{w:World}{cfg:bg}{self:nB}
variable{C:Cr}{Q:IV->Prop}{K:List (List IV->Prop)}{V:SS}{d f0:Nat}{o:Oper}{k:PV SE->SS->ak}{L:List (LO SE)}{Γ:Gm SE}
theorem Jb{g:FuncId}{bs:List (Nat×Nat)}{args:List (PV SE)}{t:TypeId}{c:FuncId}{uw:List (Nat×Nat)}(h:FB cfg g bs args=aa (t,c,uw)):bs=[]/\args=[.one (.fn c uw)]/\guardOf cfg g=aa t:=by
 unfold FB at h;split at h
 ·rw[ar9]at h;obtain⟨t',h1,h2⟩:=h;cases h2;exact⟨rfl,rfl,h1⟩
 ·cases h
theorem EB{j:Nat}(h:Ef d V=aa j):cy d 2 V.g=aa (.one (.pt j 0 1))/\V.l[j]?=aa (.var [.v (.i 0)]):=by
 unfold Ef at h;split at h
 ·rename_i j' hg;split at h
  ·rename_i z hj;split at h
   ·rename_i hz;cases h;have:z=0:=by simpa using hz
    subst this;exact⟨hg,hj⟩
   ·cases h
  ·cases h
 ·cases h
theorem PT(hJ:J (au P ν) R φ V.g V.l E σ){j:Nat}(h:Ef d V=aa j){qU:Nat}(he:(E d).at 2=.ptr qU 0 0 1):φ j=aa qU/\R qU=ah/\σ.at qU=aa (.cells [.int 0] 0 0):=by
 obtain⟨hg,hj⟩:=EB h;obtain⟨id,cs,h1,h2,h3⟩:=hJ.slot d 2 _ hg;obtain⟨bA,cE,h4,h5,h6,h7⟩:=hJ.obj j _ hj;rw[he]at h3;have hid:id=qU:=by injection h3 with e;exact e.symm
 subst hid;rw[h1]at h4;cases h4;refine⟨h1,h5,?_⟩;rw[h6]
 match cE,h7 with
 |[x],h7=>
  obtain⟨y,h8,h9,_⟩:=h7.1;simp only[au,SE.den,ar6]at h8;subst h8;rw[bZ h9]
theorem J.YL(hJ:J (au P ν) R φ Γ L E σ){j id:Nat}{cs cx:List (Cl SE)}{cE:List IV}(h1:φ j=aa id)(hj:L[j]?=aa (.var cs))(h2:R id=ah)(hc:All2 (cD (au P ν) R φ L σ) cE cx):
 J (au P ν) R φ Γ (L.set j (.var cx)) E (σ.put id (.cells cE 0 0))/\ky (au P ν) (au P ν) R φ L σ R φ (L.set j (.var cx)) (σ.put id (.cells cE 0 0)) (λ_=>False):=by
 obtain⟨dC,bD⟩:=hJ.tv (R':=R) (bad:=λ_=>False) (jY:=.var cx) (eK:=.cells cE 0 0) h1 hj (λ_ _=>rfl)
  (λm hm=>by rw[h2]at hm;cases hm) (λm _ _ _ hm=>by rw[h2]at hm;cases hm) (λm _ _ _ hm=>by rw[h2]at hm;cases hm)
  (λ_ _=>⟨_,rfl⟩) (λ_ _ h=>by cases h) (λ_ _ _ _ _ h=>by cases h) (λ_ _ pv _=>pv.a_) (λ_ o _ _=>o.a_)
  (λdC=>⟨id,_,h1,h2,by rw[St.cV,if_pos rfl],hc.mono λ_ _ bR=>bR.step dC (Cl.a_ _)⟩)
 exact⟨bD,dC⟩
theorem J.aey(hJ:J (au P ν) R φ Γ L E σ)(ob eK:Ob):J (au P ν) R (bV φ L.length σ.n) Γ ((L++[LO.dead]).set L.length LO.dead) E ((σ.add ob).put σ.n eK)/\
 ky (au P ν) (au P ν) R φ L σ R (bV φ L.length σ.n) (L++[LO.dead]) (σ.add ob) (λ_=>False)/\
 ky (au P ν) (au P ν) R (bV φ L.length σ.n) (L++[LO.dead]) (σ.add ob) R (bV φ L.length σ.n) ((L++[LO.dead]).set L.length LO.dead) ((σ.add ob).put σ.n eK) (λ_=>False):=by
 have hs:=Fu hJ ob .dead;have bD:=hJ.yf ob .dead trivial;have hn:=hJ.q6
 obtain⟨dK,eU⟩:=bD.tv (k:=L.length) (id:=σ.n) (lo:=.dead) (R':=R) (bad:=λ_=>False) (jY:=.dead) (eK:=eK) (by simp[bV]) (by simp) (λ_ _=>rfl)
  (λm hm=>by rw[hn]at hm;cases hm) (λm _ _ _ hm=>by rw[hn]at hm;cases hm) (λm _ _ _ hm=>by rw[hn]at hm;cases hm)
  (λ_ h=>by cases h) (λ_ _ h=>by cases h) (λ_ _ _ _ _ h=>by cases h) (λ_ _ pv _=>pv.a_) (λ_ o _ _=>o.a_) (λ_=>trivial)
 exact⟨eU,hs,dK⟩
theorem Mm(hC:jb P C)(bf:oY P C Q self)(hJ:J (au P ν) R φ V.g V.l E σ)(hn:ν.length=V.n)(hK:K.length=V.lv)(cn:(E d).n=V.nt){g c:FuncId}{t:TypeId}{dst:Option Nat}{uw:List (Nat×Nat)}{cl:IV}(hg:g<P.funcs.size)
 (dV:VR (au P ν) R φ V.l σ cl (.one (.fn c uw)))(hs:(IC P cfg self d f0 dst g t c uw V k).sat P C Q K ν){RW:Nat->IV->St->Prop}
 (hk:∀(pv:PV SE) (V':SS) μ K' R' aL E' ao v,v7 P d E K ν V.nt V' μ K' R' aL E' ao->E' d=E d->VR (au P (ν++μ)) R' aL V'.l ao v pv->(k pv V').sat P C Q K' (ν++μ)->∃b,∀N,b<=N->ao.n<=N/\RW N v ao):
 ∃b,∀N,b<=N->dL P N g [cl] σ (RW N):=by
 unfold IC at hs;obtain⟨xs,z,hx,hc,hs⟩:=hs;obtain⟨t',rfl,an4⟩:=(hC _ _ _ _ hc).2.2.2.1 g hg rfl
 have htt:t'=t:=by
  unfold iE at hx;simp[dT,SE.den]at hx;omega
 subst htt;have hJu:J (au P (ν++[z])) R φ V.g V.l E σ:=hJ.up λe z h=>SE.cU P e h;have an5:VR (au P (ν++[z])) R φ V.l σ cl (.one (.fn c uw)):=dV;have iP:All2 (cD (au P (ν++[z])) R φ V.l σ) [.int 0] [.v (.i 0)]:=⟨⟨.int 0,rfl,.raw _,rfl⟩,trivial⟩;have bE:=Fu hJu (.cells [.int 0] 0 0) (.var [.v (.i 0)])
 have bD:J (au P (ν++[z])) R (bV φ V.l.length σ.n) V.g (V.l++[.var [.v (.i 0)]]) E (σ.add (.cells [.int 0] 0 0)):=
  hJu.yf _ _ ⟨σ.n,[.int 0],by simp[bV],hJu.q6,by simp,iP.mono λ_ _ bR=>bR.step bE (Cl.a_ _)⟩
 have hpt:VR (au P (ν++[z])) R (bV φ V.l.length σ.n) (V.l++[.var [.v (.i 0)]]) (σ.add (.cells [.int 0] 0 0)) (.ptr σ.n 0 0 1) (.one (.pt V.l.length 0 1)):=⟨σ.n,[.v (.i 0)],by simp[bV],by simp,rfl⟩;have abB:VR (au P (ν++[z])) R (bV φ V.l.length σ.n) (V.l++[.var [.v (.i 0)]]) (σ.add (.cells [.int 0] 0 0)) cl (.one (.fn c uw)):=an5.step bE (PV.a_ _)
 let e1:Env:=(⟨3,.lf⟩:Env).put (aa 2) (.ptr σ.n 0 0 1)
 have mh:e1.at 2=.ptr σ.n 0 0 1:=dN (by decide);have an6:e1.n=3:=eP ..
 have eU:J (au P (ν++[z])) R (bV φ V.l.length σ.n) ((d+1,2,.one (.pt V.l.length 0 1))::jF (d+1) V.g) (V.l++[.var [.v (.i 0)]]) (qJ E (d+1) e1) (σ.add (.cells [.int 0] 0 0)):=by
  refine{bD with slot:=λd' t pv Ez=>?_};rcases m_ Ez with⟨rfl,rfl,rfl⟩|⟨aZ,Ez⟩
  ·rw[cg,mh];exact hpt
  ·obtain⟨h1,h2⟩:=tY Ez;rw[gE _ _ _ h1];exact bD.slot d' t pv h2
 have bT:∃fn,P.funcs[c]?=aa fn/\fn.body.isSome=ab/\(fn.name != "runtime.NumGoroutine")=ab:=by
  unfold sB at hs;split at hs<;>first|(exact hs.elim)|skip
  rename_i fn bT;split at hs<;>first|(exact hs.elim)|skip
  rename_i body hb;split at hs<;>first|(exact hs.elim)|skip
  split at hs<;>first|(exact hs.elim)|skip
  rename_i kK;simp only[ar4]at kK;exact⟨fn,bT,by simp[hb],kK.2⟩
 obtain⟨fn,bT,hb,lj⟩:=bT;obtain⟨ys,iA,qB⟩:=ki (args:=[]) abB bT hb lj;rw[List.nil_append]at iA
 obtain⟨_,_,_,_,b,hcx⟩:=Cx (d:=d+1) (V:={V with n:=V.n+1,l:=V.l++[.var [.v (.i 0)]],g:=(d+1,2,.one (.pt V.l.length 0 1))::jF (d+1) V.g,nt:=3}) (ν:=ν++[z]) (E:=qJ E (d+1) e1)
  (RW:=λN _ dm=>dm.at σ.n=aa (.cells [.int 0] 0 0)/\dm.n<=N/\RW N (.int 0) (dm.put σ.n (.cells [.int 0] 0 0)))
  (PW:=λN v dm=>∃u,v=.di t' (.agg [.raw u])/\aj (.raw u)=ab/\dm.at σ.n=aa (.cells [.int 0] 0 0)/\dm.n+1<=N/\σ.n<dm.n/\RW N (.raw u) (xz dm σ.n (.raw u)))
  bf eU (by simp[hn]) hK (by rw[cg,an6]) qB hs (by
   intro pv V' μ K' R' aL E' ao v hf nb hv bt;split at bt<;>first|(exact bt.elim)|skip
   rename_i j hj;have PU:(E' (d+1)).at 2=.ptr σ.n 0 0 1:=by rw[nb,cg,mh]
   obtain⟨h1,h2,h3⟩:=PT hf.hJ hj PU;obtain⟨_,vP⟩:=EB hj;obtain⟨ux,_⟩:=hf.hJ.YL h1 vP h2 (cE:=[.int 0]) (cx:=[.v (.i 0)]) ⟨⟨.int 0,rfl,.raw _,rfl⟩,trivial⟩;have yI:E' d=E d:=by rw[hf.hE d (by omega),gE _ _ _ (by omega)]
   obtain⟨b,hb⟩:=hk (.one (.v (.i 0))) {V' with g:=jF (d+1) V'.g,nt:=V.nt,l:=V'.l.set j (.var [.v (.i 0)])} ([z]++μ) K' R' aL E' (ao.put σ.n (.cells [.int 0] 0 0)) (.int 0)
    ⟨hf.hK,hf.fP,rfl,by rw[<-ast];exact zU (V:={V' with l:=V'.l.set j (.var [.v (.i 0)])}) ux (d+1),by rw[<-ast];exact hf.hn,λi hi=>by rw[hf.hE i (by omega),gE _ _ _ (by omega)],by rw[yI]⟩ yI
    (by rw[<-ast];exact⟨.int 0,rfl,.raw _,rfl⟩) (by rw[<-ast];exact bt)
   exact⟨max b ao.n,λN hN=>⟨by omega,h3,by omega,(hb N (by omega)).2⟩⟩) (by
   intro tt pv V' μ K' R' aL E' ao v hf nb hv bt;split at bt<;>first|(exact bt.elim)|skip
   rename_i e j hj;split at bt<;>first|(exact bt.elim)|skip
   rename_i htt;have:=asb htt;subst this;obtain⟨⟨y0,hy0⟩,bt⟩:=bt;have PU:(E' (d+1)).at 2=.ptr σ.n 0 0 1:=by rw[nb,cg,mh]
   obtain⟨h1,h2,h3⟩:=PT hf.hJ hj PU;obtain⟨_,vP⟩:=EB hj;obtain⟨vs,rfl,gY⟩:=hv
   obtain⟨x0,rfl,y,AT,It,LU⟩:∃x0,vs=[x0]/\∃y,au P (ν++[z]++μ) e=aa y/\iD x0 y/\aj y=ab:=by
    match vs,gY with
    |[x0],gY=>exact⟨x0,rfl,gY.1⟩
   have hyr:aA y=ab:=by
    have aa_:e.den P (ν++[z]++μ)=aa y:=AT;simp only[SE.den,aa_,asa]at hy0;split at hy0
    ·assumption
    ·cases hy0
   obtain⟨u,rfl⟩:∃u,y=.raw u:=by
    cases y<;>simp[aA]at hyr;exact⟨_,rfl⟩
   have hxu:=bZ It;subst hxu;obtain⟨Mn,bL,gy⟩:=hf.hJ.aey (.cells [.int 0] 0 0) (.cells [.raw u] 0 0);have an7:=c_ vP;have abx:bV aL V'.l.length ao.n j=aa σ.n:=by simp[bV,show j≠V'.l.length by omega,h1]
   have an8:((V'.l++[LO.dead]).set V'.l.length LO.dead)[j]?=aa (.var [.v (.i 0)]):=by
    rw[au_ (by omega),asd an7];exact vP
   obtain⟨hJb,_⟩:=Mn.YL abx an8 h2 (cE:=[.raw u]) (cx:=[.v e]) ⟨⟨.raw u,AT,.raw _,LU⟩,trivial⟩;have ai:=(hf.hJ.lt j σ.n h1).2;have yI:E' d=E d:=by rw[hf.hE d (by omega),gE _ _ _ (by omega)]
   obtain⟨b,hb⟩:=hk (.one (.v e)) {V' with g:=jF (d+1) V'.g,nt:=V.nt,l:=((V'.l++[LO.dead]).set V'.l.length LO.dead).set j (.var [.v e])} ([z]++μ) K' R' (bV aL V'.l.length ao.n) E' (xz ao σ.n (.raw u)) (.raw u)
    ⟨hf.hK,hf.fP,rfl,by rw[<-ast];exact zU (V:={V' with l:=((V'.l++[LO.dead]).set V'.l.length LO.dead).set j (.var [.v e])}) hJb (d+1),by rw[<-ast];exact hf.hn,λi hi=>by rw[hf.hE i (by omega),gE _ _ _ (by omega)],by rw[yI]⟩ yI
    (by rw[<-ast];exact⟨.raw u,AT,.raw _,LU⟩) (by rw[<-ast];exact bt)
   refine⟨max b (ao.n+1),λN hN=>⟨by omega,u,rfl,LU,h3,by omega,ai,(hb N (by omega)).2⟩⟩)
 refine⟨max b (σ.n+1),λN hN=>?_⟩;exact an4 N cl c ys σ _ _ _ iA (by omega) (hcx N (by omega)) (λv dm h=>h) λv dm h=>h
end Go.Ev
namespace Go.Ev
variable{P:Program}{N:Nat}{σ ao:St}{R R':Rs}{φ aL:Ph}{E:Nat->Env}{ν:List IV}{ro:Nat}{ι:Io}{w:World}{cfg:bg}{self:nB}
variable{C:Cr}{Q:IV->Prop}{K:List (List IV->Prop)}{V:SS}{d f0:Nat}{o:Oper}{k:PV SE->SS->ak}{L:List (LO SE)}{Γ:Gm SE}{rd:Option Nat}{df:List Df}
variable{kx:Kx}{sk:List Nat}{ops:Array Oper}{l:List Oper}{kk:SS->ak}{CW:Nat->Env->St->Prop}{CX:Nat->jS}
def l8(e:Env)(sk:List Nat):Prop:=∀t,wj sk t=ab->e.at t=.undef
theorem l8.nil(e:Env):l8 e []:=λ_ h=>by cases h
theorem l8.put{e:Env}{sk:List Nat}(h:l8 e sk)(dst:Option Nat)(x:IV):l8 (e.put dst x) (tE sk dst):=by
 cases dst with
 |none=>exact h
 |some d=>
  intro t ht;obtain⟨h1,h2⟩:=Al ht;rw[ft h2];exact h t h1
theorem l8.add{e:Env}{sk:List Nat}(h:l8 e sk){dst:Option Nat}(hd:∀t,dst=aa t->t<e.n):l8 (e.put dst .undef) (FF sk dst):=by
 cases dst with
 |none=>exact h
 |some d=>
  intro t ht;rcases zp ht with rfl|ht
  ·exact dN (hd _ rfl)
  ·exact h.put (aa d) .undef t ht
theorem l8.ac2{e:Env}{sk:List Nat}(h:l8 e sk){ops:Array Oper}{o:Oper}(hs:mK sk ops o=ab):aO o ops e=af:=by
 unfold mK at hs;unfold aO;split at hs<;>first|(cases hs;done)|skip
 rename_i j w hg;rw[hg];simp only;split at hs<;>first|(cases hs;done)|skip
 rename_i t ht;rw[ht];simp only;rw[h t hs];split
 ·rfl
 ·rfl
def Be(P:Program)(C:Cr)(Q:IV->Prop)(cfg:bg)(self:nB)(kx:Kx)(d f0:Nat)(ops:Array Oper)(rd:Option Nat)(df:List Df)(kk:SS->ak)(CX:Nat->jS)(sk:List Nat)(l:List Oper):Prop:=
 ∀(V:SS) ν K R φ E σ,l8 (E d) sk->(ic P cfg self kx d f0 af ops sk l V kk).sat P C Q K ν->J (au P ν) R φ V.g V.l E σ->ν.length=V.n->K.length=V.lv->(E d).n=V.nt->KS P C Q d E K ν V.nt kk (λN e σ=>CX N .normal e σ)->KP P C Q d E K ν V.nt kx (λN v e σ=>CX N (.bY v) e σ)->
  ∃b,∀N,b<=N->dp P N rd ops l (E d) df σ (CX N)
theorem fA(ih:Be P C Q cfg self kx d f0 ops rd df kk CX sk l){dst:Option Nat}(nc:∀x,l8 ((E d).put dst x) sk)(hd:∀t,dst=aa t->t<(E d).n){nt:Nat}(cn:(E d).n=nt)(eb:KS P C Q d E K ν nt kk (λN e σ=>CX N .normal e σ))(mQ:KP P C Q d E K ν nt kx (λN v e σ=>CX N (.bY v) e σ))
 {V1:SS}{μ:List IV}{K1:List (List IV->Prop)}{R1:Rs}{dA:Ph}{E1:Nat->Env}{aq:St}{x:IV}{pv:PV SE}
 (hJ:J (au P (ν++μ)) R1 dA V1.g V1.l E1 aq)(hn:(ν++μ).length=V1.n)(hK:K<+:K1)(fP:K1.length=V1.lv)(kj:V1.nt=nt)(hE:∀j,j<d->E1 j=E j)(nb:E1 d=E d)
 (hx:VR (au P (ν++μ)) R1 dA V1.l aq x pv)(hs:(ic P cfg self kx d f0 af ops sk l (V1.bO d dst pv) kk).sat P C Q K1 (ν++μ)):
 ∃b,∀N,b<=N->dp P N rd ops l ((E d).put dst x) df aq (CX N):=by
 have bD:=Cu (d:=d) (dst:=dst) hJ hx (by rw[nb];exact hd);have KR:(V1.bO d dst pv).nt=nt:=by cases dst<;>exact kj
 have abC:(V1.bO d dst pv).lv=V1.lv:=by cases dst<;>rfl
 obtain⟨b,hb⟩:=ih (V1.bO d dst pv) (ν++μ) K1 R1 dA _ aq (by rw[cg,nb];exact nc x) hs bD (by rw[Ew];exact hn) (by rw[abC];exact fP) (by rw[cg,eP,nb,cn,KR]) (by
  rw[KR];exact eb.fwd hK (λj hj=>by rw[gE _ _ _ (by omega)];exact hE j hj) (by rw[cg,eP,nb])) (by
  rw[KR];exact mQ.fwd hK (λj hj=>by rw[gE _ _ _ (by omega)];exact hE j hj) (by rw[cg,eP,nb]))
 refine⟨b,λN hN=>?_⟩;have:=hb N hN;rw[cg,nb]at this;exact this
theorem YM{qx:Bool}{g:FuncId}{da:List (PV SE)}(h:yn P cfg d qx o V=aa (g,da)):
 ∃c f bs,o.op=.call c/\c.callee=.value f/\bN P d V 0 f=.one (.fn g bs)/\da=ib P d V c.args.toList c.argTypes.toList++bs.map (λ(p:Nat×Nat)=>.one (.pt p.1 0 p.2)):=by
 unfold yn at h;split at h<;>first|(cases h;done)|skip
 split at h<;>first|(cases h;done)|skip
 rename_i c ho;split at h<;>first|(cases h;done)|skip
 rename_i f hc;split at h<;>first|(cases h;done)|skip
 rename_i g' bs hf;split at h<;>first|(cases h;done)|skip
 simp only[ar6,asu]at h;obtain⟨rfl,rfl⟩:=h;exact⟨c,f,bs,ho,hc,hf,rfl⟩
theorem HB{es:List SE}{vs:List IV}(h:iE (P:=P) ν (dT es)=aa vs):All2 (λ(e:SE) y=>e.den P ν=aa y) es vs:=by
 induction es generalizing vs with
 |nil=>
  unfold iE at h;simp only[dT,SE.den,ar6]at h;subst h;trivial
 |cons e es ih=>
  unfold iE at h;simp only[dT,SE.den]at h;cases h1:e.den P ν with
  |none=>rw[h1]at h;simp at h
  |some x=>
   rw[h1]at h;simp only[asa]at h;cases h2:(dT es).den P ν with
   |none=>rw[h2]at h;simp at h
   |some y=>
    rw[h2]at h;simp only[asa]at h;cases y<;>simp only at h<;>first|(cases h;done)|skip
    rename_i cs;cases h;exact⟨h1,ih (by unfold iE;rw[h2])⟩
theorem abD{g:FuncId}{dst:Option Nat}{da:List (PV SE)}(h:∀fn,P.funcs[g]?=aa fn->fn.body.isSome=ab->(fn.name != "runtime.NumGoroutine")=ab->False):∃n,FC P cfg self kx d f0 dst g da V k=.fail n:=by
 unfold FC;split
 ·split
  ·rename_i fn bT;split
   ·rename_i hc;simp only[ar4]at hc;exact(h fn bT hc.1 hc.2).elim
   ·exact⟨_,rfl⟩
  ·exact⟨_,rfl⟩
 ·unfold sB;split
  ·rename_i fn bT;split
   ·rename_i body hb;split
    ·exact⟨_,rfl⟩
    ·split
     ·rename_i hc;simp only[ar4]at hc;exact(h fn bT (by simp[hb]) hc.2).elim
     ·exact⟨_,rfl⟩
   ·exact⟨_,rfl⟩
  ·exact⟨_,rfl⟩
theorem abE(hC:jb P C)(bf:oY P C Q self)(hJ:J (au P ν) R φ V.g V.l E σ)(hn:ν.length=V.n)(hK:K.length=V.lv)(cn:(E d).n=V.nt){g:FuncId}{dst:Option Nat}{args:List IV}{da:List (PV SE)}(br:All2 (VR (au P ν) R φ V.l σ) args da)
 (hs:(FC P cfg self kx d f0 dst g da V k).sat P C Q K ν){RW PW:Nat->IV->St->Prop}
 (hk:∀(pv:PV SE) (V':SS) μ K' R' aL E' ao v,v7 P d E K ν V.nt V' μ K' R' aL E' ao->E' d=E d->VR (au P (ν++μ)) R' aL V'.l ao v pv->(k pv V').sat P C Q K' (ν++μ)->∃b,∀N,b<=N->ao.n<=N/\RW N v ao)
 (YI:∀t (pv:PV SE) (V':SS) μ K' R' aL E' ao v,v7 P d E K ν V.nt V' μ K' R' aL E' ao->E' d=E d->VR (au P (ν++μ)) R' aL V'.l ao v pv->(kx t pv V').sat P C Q K' (ν++μ)->∃b,∀N,b<=N->ao.n<=N/\PW N (.di t v) ao):
 ∃fn,P.funcs[g]?=aa fn/\fn.body.isSome=ab/\(fn.name != "runtime.NumGoroutine")=ab/\∃b,∀N,b<=N->wP P N g args σ (RW N) (PW N):=by
 unfold FC at hs;split at hs
 ·rename_i t c uw BD;obtain⟨_,rfl,_⟩:=Jb BD;split at hs<;>first|(exact hs.elim)|skip
  rename_i fn bT;split at hs<;>first|(exact hs.elim)|skip
  rename_i bP;simp only[ar4]at bP
  match args,br with
  |[cl],br=>
   obtain⟨b,hb⟩:=Mm hC bf hJ hn hK cn (asX.1 bT).1 br.1 hs hk;exact⟨fn,bT,bP.1,bP.2,b,λN hN=>(hb N hN).toX⟩
 ·exact Cx bf hJ hn hK cn br hs hk YI
theorem abF(hC:jb P C)(bf:oY P C Q self)(hJ:J (au P ν) R φ V.g V.l E σ)(hn:ν.length=V.n)(hK:K.length=V.lv)(cn:(E d).n=V.nt){g:FuncId}{dst:Option Nat}{args:List IV}{da:List (PV SE)}(br:All2 (VR (au P ν) R φ V.l σ) args da)
 (hd:∀t,dst=aa t->t<(E d).n)
 {k:SS->ak}(hs:(FD P cfg self kx d f0 dst g da V k).sat P C Q K ν){RW PW:Nat->IV->St->Prop}
 (hk:∀(H:SS) vs R' aL E' ao v,J (au P (ν++vs)) R' aL H.g H.l E' ao->(ν++vs).length=H.n->H.lv=V.lv->H.nt=V.nt->(∀j,j<d->E' j=E j)->E' d=(E d).put dst v->(k H).sat P C Q K (ν++vs)->∃b,∀N,b<=N->ao.n<=N/\RW N v ao)
 (YI:∀t (pv:PV SE) (V':SS) μ K' R' aL E' ao v,v7 P d E K ν V.nt V' μ K' R' aL E' ao->E' d=E d->VR (au P (ν++μ)) R' aL V'.l ao v pv->(kx t pv V').sat P C Q K' (ν++μ)->∃b,∀N,b<=N->ao.n<=N/\PW N (.di t v) ao):
 ∃fn,P.funcs[g]?=aa fn/\fn.body.isSome=ab/\(fn.name != "runtime.NumGoroutine")=ab/\∃b,∀N,b<=N->wP P N g args σ (RW N) (PW N):=by
 unfold FD at hs;simp only at hs;split at hs
 ·exact hs.elim
 ·simp only[ak.sat]at hs;refine abE (V:={V with lv:=V.lv+1}) hC bf hJ hn (by simp[hK]) cn br hs ?_ (λt pv V' μ K' R' aL E' ao v hf=>YI t pv V' μ K' R' aL E' ao v ⟨(List.prefix_append K _).trans hf.hK,hf.fP,hf.cn,hf.hJ,hf.hn,hf.hE,hf.I8⟩);intro pv V' μ K' R' aL E' ao v hf nb hv bt;have bD:=Cu (d:=d) (dst:=dst) hf.hJ hv (by rw[nb];exact hd);obtain⟨R2,eU,xX,_⟩:=PS _ bD;split at bt
  ·rename_i es dU hi;obtain⟨vs,p,h1,h2,h3⟩:=bt;obtain⟨hlen,ux⟩:=KQ (qC:=ν) eU hn ⟨μ,rfl⟩ hi (HB h1);obtain⟨t,ht⟩:=hf.hK;rw[<-ht,ast,List.getElem?_append_right (by omega),hK,Nat.sub_self]at h2;simp only[List.singleton_append,List.getElem?_cons_zero,ar6]at h2;subst h2;exact hk _ vs R2 _ _ ao v ux (by rw[List.length_append,hlen,hn]) rfl rfl (λj hj=>by rw[gE _ _ _ (by omega)];exact hf.hE j hj) (by rw[cg,nb]) h3.2
  ·exact bt.elim
end Go.Ev
namespace Go.Ev
variable{P:Program}{N:Nat}{ι:Io}{w:World}{σ ao:St}{e:Env}{rd:Option Nat}{fn:FuncId}{df:List Df}
variable{ops:Array Oper}{o:Oper}{l:List Oper}{CW:jS}
theorem aez{t el:TypeId}(hu:P.underlying t=aa (.slice el))(a:Option Addr)(n c:Nat)(x y:Operand):
 pf P .eql t x y (.raw (.slice a n c)) (.raw (.slice ah 0 0))=aa (.bool a.isNone)/\pf P .neq t x y (.raw (.slice a n c)) (.raw (.slice ah 0 0))=aa (.bool (!a.isNone)):=by
 have he:aS P (avd t (.slice a n c) (.slice ah 0 0))=aa a.isNone:=by
  show aS P (atu (9999+1) t (.slice a n c) (.slice ah 0 0))=_;unfold atu;rw[bx,run_underlying hu,asa];cases a<;>rfl
 constructor
 ·show(aS P (do eqGuard .eql t x y (.slice a n c) (.slice ah 0 0);Go.binOp .eql t (.slice a n c) (.slice ah 0 0))).map lift=_;rw[bx];show(aS P (do pure (.bool (<-avd t (.slice a n c) (.slice ah 0 0))))).map lift=_;rw[bx,he];rfl
 ·show(aS P (do eqGuard .neq t x y (.slice a n c) (.slice ah 0 0);Go.binOp .neq t (.slice a n c) (.slice ah 0 0))).map lift=_;rw[bx];show(aS P (do pure (.bool (!(<-avd t (.slice a n c) (.slice ah 0 0)))))).map lift=_;rw[bx,he];rfl
theorem dp.at{v:IV}{CW:jS}(hw:aO o ops e=ab)(hn:σ.n<=N)
 (h:∀ι w (r:Operand->Value),Inv N ι σ w->(∀x,Rv ι (ax e x) (r x))->∃ρ v,(∀x,Rv ι (ρ x) (r x))/\av P 0 ρ o σ=aa (.val v σ)/\dp P N rd ops l (e.put o.dst v) df σ CW):dp P N rd ops (o::l) e df σ CW:=by
 refine .cons hw λF ι a w Q k hl hF hi he hd hQ=>?_;refine⟨λf _=>hF.fn f,?_⟩;obtain⟨ρ,v,hρ,hv,h⟩:=h ι w _ hi he.eval;rw[Oper.semAt_eq _ _ _ (h_ hv (by simp))];obtain⟨u,w',aG,hr,h2,h3,h4⟩:=oI hi hρ hv hn
 have key:wpOpsIn F 0 P ops Q (List.range' (k+1) l.length) (a.put o.dst u) w':=
  h F aG _ w' Q (k+1) hl (hF.mono h4.ext) h3 ((he.mono h4.ext).put h2 _) (hd.mono h4.ext|>λx=>by cases o.dst<;>exact x) (λex e' ao hc=>(hQ ex e' ao hc).from hi h4 hn)
 rcases hr with hr|⟨hr,rfl⟩
 ·rw[hr,Oper.uponIn_value];exact key
 ·rw[hr,Oper.uponIn_skip];exact key
def WD(x:IV):Prop:=x=.raw (.slice ah 0 0)\/x=.emp\/(∃s es,x=.tree s es)\/∃id off len cap ep s,x=.sl id off len cap ep s
theorem dp.isNil{CW:jS}{e0:Bool}{op:BinOp}{t el yt:TypeId}{x:Operand}(hw:aO o ops e=ab)(hn:σ.n<=N)(ho:o.op=.binOp op t x (.const (.slice ah 0 0)) yt)(fq:(op=.eql/\e0=ab)\/(op=.neq/\e0=af))
 (hu:P.underlying t=aa (.slice el))(hx:WD (ax e x))
 (h1:ax e x≠.raw (.slice ah 0 0)->dp P N rd ops l (e.put o.dst (.raw (.bool (!e0)))) df σ CW)
 (h2:(ax e x=.raw (.slice ah 0 0)\/∃s,ax e x=.tree s [])->dp P N rd ops l (e.put o.dst (.raw (.bool e0))) df σ CW):dp P N rd ops (o::l) e df σ CW:=by
 refine .at (v:=.undef) hw hn λι w r hi hr=>?_
 have main:∀a n c,r x=.slice a n c->(a=ah->ax e x=.raw (.slice ah 0 0)\/∃s,ax e x=.tree s [])->(a≠ah->ax e x≠.raw (.slice ah 0 0))->
  ∃ρ v,(∀x,Rv ι (ρ x) (r x))/\av P 0 ρ o σ=aa (.val v σ)/\dp P N rd ops l (e.put o.dst v) df σ CW:=by
  intro a n c oF ha hb
  have L8:∀ρ:Operand->IV,ρ (.const (.slice ah 0 0))=.raw (.slice ah 0 0)->ρ x=.raw (.slice a n c)->av P 0 ρ o σ=aa (.val (.raw (.bool (if a.isNone then e0 else !e0))) σ):=by
   intro ρ h3 h4;obtain⟨g1,g2⟩:=aez (P:=P) hu a n c x (.const (.slice ah 0 0));rcases fq with⟨rfl,rfl⟩|⟨rfl,rfl⟩
   ·simp only[av,ho,h3,h4,g1,ret];cases a<;>rfl
   ·simp only[av,ho,h3,h4,g2,ret];cases a<;>rfl
  have hy:ax e (.const (.slice ah 0 0))=.raw (.slice ah 0 0):=rfl;refine⟨λz=> @ite _ (z=x) (axI _) (.raw (.slice a n c)) (ax e z),_,λz=>?_,L8 _ ?_ ?_,?_⟩
  ·dsimp only;split
   ·rename_i hz;subst hz;rw[oF];exact .raw _
   ·exact hr z
  ·split
   ·rename_i hz;have hh:=hr x;rw[<-hz,hy,hz,oF]at hh;generalize hq:Value.slice a n c=q at hh⊢;cases hh;rfl
   ·rfl
  ·rw[if_pos rfl]
  ·cases a with
   |none=>exact h2 (ha rfl)
   |some a=>exact h1 (hb (by simp))
 have oF:=hr x;rcases hx with hx|hx|⟨s,es,hx⟩|⟨id,off,len,cap,ep,s,hx⟩
 ·rw[hx]at oF;generalize hq:r x=u at oF;cases oF;exact main ah 0 0 hq (λ_=>.inl hx) (λh=>absurd rfl h)
 ·rw[hx]at oF;generalize hq:r x=u at oF;cases oF;exact main _ 0 0 hq (λh=>by cases h) (λ_=>by rw[hx];simp)
 ·rw[hx]at oF;generalize hq:r x=u at oF;cases oF with
  |tree=>exact main _ _ _ hq (λh=>by cases h) (λ_=>by rw[hx];simp)
  |dS=>exact main _ _ _ hq (λ_=>.inr ⟨s,hx⟩) (λ_=>by rw[hx];simp)
 ·rw[hx]at oF;generalize hq:r x=u at oF;cases oF;exact main _ _ _ hq (λh=>by cases h) (λ_=>by rw[hx];simp)
theorem PX{fr:Bool}{R:Rs}{x:IV}{s:Nat}{es:List IV}(h:bn fr R σ x (.tree s es)):WD x/\(x=.raw (.slice ah 0 0)\/(∃s,x=.tree s [])->es=[]):=by
 cases h with
 |nil=>exact⟨.inl rfl,λ_=>rfl⟩
 |emp=>exact⟨.inr (.inl rfl),λ_=>rfl⟩
 |pure=>exact⟨.inr (.inr (.inl ⟨_,_,rfl⟩)),λh=>by rcases h with h|⟨_,h⟩<;>cases h;rfl⟩
 |sl=>exact⟨.inr (.inr (.inr ⟨_,_,_,_,_,_,rfl⟩)),λh=>by rcases h with h|⟨_,h⟩<;>cases h⟩
end Go.Ev
namespace Go.Ev
variable{P:Program}{N:Nat}{σ ao:St}{R R':Rs}{φ aL:Ph}{E:Nat->Env}{ν:List IV}{cfg:bg}
variable{C:Cr}{Q:IV->Prop}{K:List (List IV->Prop)}{V:SS}{d f0:Nat}{o:Oper}{k:PV SE->SS->ak}{L:List (LO SE)}{Γ:Gm SE}
theorem F0{e:SE}{z:IV}(h:(SE.rws e).den P ν=aa z):∃s es,e.den P ν=aa (.tree s es)/\z=.tree s es/\∀e∈es,∀c∈cellsOf e,aA c=ab:=by
 simp only[SE.den,aso]at h;obtain⟨y,h1,h2⟩:=h;split at h2<;>first|(cases h2;done)|skip
 split at h2<;>first|(cases h2;done)|skip
 rename_i bz;cases h2;rw[asl]at bz;exact⟨_,_,h1,rfl,λe he c hc=>asl.1 (bz e he) c hc⟩
def TD(P:Program)(C:Cr)(Q:IV->Prop)(K:List (List IV->Prop))(E:Nat->Env)(ν:List IV)(lv:Nat×Nat)(k:PV SE->SS->ak)(KW:Nat->IV->St->Prop):Prop:=
 ∀(V1:SS) (μ:List IV) (R1:Rs) (dA:Ph) (aq:St) (x:IV) (pv:PV SE),J (au P (ν++μ)) R1 dA V1.g V1.l E aq->V1.ln=lv->(ν++μ).length=V1.n->V1.ln=lv->VR (au P (ν++μ)) R1 dA V1.l aq x pv->(k pv V1).sat P C Q K (ν++μ)->∃b,∀N,b<=N->KW N x aq
theorem abG{fr:Bool}{x:IV}{cs:List IV}(h:bn fr R σ x (.agg cs)):∃xs,x=.agg xs/\All2 (bn fr R σ) xs cs:=by
 cases h with
 |agg qt _ hl hh=>exact⟨qt,rfl,.mk hl hh⟩
 |pure _ hf hp=>
  refine⟨cs,rfl,.mk rfl λi a b h1 h2=>?_⟩;rw[h1]at h2;cases h2;cases hp with
  |agg _ hh=>exact .pure a hf (hh a (ash h1))
theorem Cz{t:TypeId}{e:SE}{x z:IV}{f:ak}(hz:e.den P ν=aa z)(hc:iD x z)(hs:(rp P t e f).sat P C Q K ν):f.sat P C Q K ν/\VR (au P ν) R φ L σ x (ofType P t e):=by
 unfold rp at hs;unfold ofType;by_cases ha:isAgg P t=ab
 ·rw[if_pos ha]at hs;obtain⟨⟨y,hy⟩,hk⟩:=hs;simp only[SE.den,hz,asa]at hy;split at hy
  ·rename_i cs;split at hy
   ·rename_i kK;obtain⟨xs,rfl,iR⟩:=abG hc;refine⟨hk,?_⟩;rw[if_pos ha];refine⟨xs,rfl,.mk (by simp[iR.len,kK.1]) λi a b h1 h2=>?_⟩;have hi:=(ar3.1 h1).1;rw[iR.len]at hi;rw[asi,auL (by omega)]at h2;simp only[asy,ar6]at h2;subst h2;have Md:cs[i]?=aa cs[i]:=ar2 hi;have bp:Ev.aj cs[i]=ab:=(asl.1 kK.2) _ (List.getElem_mem hi);exact⟨cs[i],by simp[au,SE.den,hz,Md,yo,bp],iR.get h1 Md,bp⟩
   ·cases hy
  ·cases hy
 ·rw[if_neg ha]at hs;obtain⟨⟨y,hy⟩,hk⟩:=hs;obtain⟨h1,h2⟩:=pF hy;rw[hz]at h1;cases h1;rw[if_neg ha];exact⟨hk,z,hy,hc,h2⟩
theorem KT:∀{zs:List SE} {v:IV},(dT zs).den P ν=aa v->∃ys,v=.agg ys/\All2 (λ(z:SE) y=>z.den P ν=aa y) zs ys
 |[],v,h=>by
  simp only[dT,SE.den,ar6]at h;exact⟨[],h.symm,trivial⟩
 |z::zs,v,h=>by
  simp only[dT,SE.den]at h;obtain⟨x,hx,h⟩:=aso.1 h;obtain⟨w,hw,h⟩:=aso.1 h;obtain⟨ys,rfl,qB⟩:=KT hw;simp only[ar6]at h;exact⟨x::ys,h.symm,hx,qB⟩
theorem Jc:∀(args:List (PV SE)),args=(sC args).1.map (λp=>PV.one (Cl.pt p.1 0 p.2))++(sC args).2
 |[]=>rfl
 |pv::r=>by
  unfold sC;split
  ·rename_i k ext r' h;cases h;simp only[asZ,List.cons_append];rw[<-Jc r]
  ·simp
theorem Bf:∀{l:List Nat},distinct l=ab->l.Nodup
 |[],_=>List.nodup_nil
 |k::l,h=>by
  simp only[distinct,ar4,asR,List.any_eq_false]at h;refine avK.2 ⟨λhm=>?_,Bf h.2⟩;exact h.1 k hm (by simp)
theorem abH(es:List SE)(h:∀e∈es,∃y,e.den P ν=aa y):∃cs:List IV,All2 (λ(z:SE) y=>z.den P ν=aa y) es cs:=by
 induction es with
 |nil=>exact⟨[],trivial⟩
 |cons e es ih=>
  obtain⟨y,hy⟩:=h e (by simp);obtain⟨cs,bH⟩:=ih λe he=>h e (by simp[he]);exact⟨y::cs,hy,bH⟩
theorem GM(hJ:J (au P ν) R φ V.g V.l E σ):∀{l:List (Nat×Nat)} {Eg:List (List SE)},ym V l=aa Eg->
 ∃ins:List (List IV),Eg.length=l.length/\ins.length=l.length/\All2 (λ(z:SE) y=>z.den P ν=aa y) (Eg.map dT) (ins.map IV.agg)/\
  ∀(i:Nat) (p:Nat×Nat) (cs:List IV),l[i]?=aa p->ins[i]?=aa cs->∃es:List SE,V.l[p.1]?=aa (.var (es.map .v))/\cs.length=p.2/\All2 (λ(z:SE) y=>z.den P ν=aa y) es cs
 |[],Eg,h=>by
  simp only[ym,ar6]at h;subst h;exact⟨[],rfl,rfl,trivial,λi p cs h=>by simp at h⟩
 |(k,n)::l,Eg,h=>by
  simp only[ym]at h;split at h<;>first|(cases h;done)|skip
  rename_i ds hk;split at h<;>first|(cases h;done)|skip
  rename_i hn;split at h<;>first|(cases h;done)|skip
  rename_i es r gx hr;simp only[ar6]at h;subst h;have I2:=Hx gx;subst I2;have C6:=asb hn;obtain⟨ins,h1,h2,h3,h4⟩:=GM hJ hr;obtain⟨id,cE,o1,o2,o3,o4⟩:=hJ.obj k _ hk
  obtain⟨cs,bH⟩:=abH (P:=P) (ν:=ν) es λe he=>by
   obtain⟨q,hq⟩:=List.getElem?_of_mem he;obtain⟨x,_,hx⟩:=o4.Ak (i:=q) (b:=.v e) (by rw[asi,hq];rfl);obtain⟨y,hy,_⟩:=hx;exact⟨y,hy⟩
  refine⟨cs::ins,by simp[h1],by simp[h2],⟨eB bH,h3⟩,λi p cx hp hc=>?_⟩;cases i with
  |zero=>
   simp at hp hc;subst hp hc;exact⟨es,hk,by rw[<-bH.len];simpa using C6,bH⟩
  |succ i=>exact h4 i p cx (by simpa using hp) (by simpa using hc)
theorem GN{y:SE}:∀{l:List (Nat×Nat)} {i:Nat} {L:List (LO SE)},(lz y i l L).length=L.length
 |[],_,_=>rfl
 |(k,n)::l,i,L=>by simp[lz,GN (l:=l)]
theorem Av{y:SE}:∀{l:List (Nat×Nat)} {i j:Nat} {L:List (LO SE)},j∉l.map (·.1)->(lz y i l L)[j]?=L[j]?
 |[],_,_,_,_=>rfl
 |(k,n)::l,i,j,L,h=>by
  simp only[asZ,List.mem_cons,not_or]at h;simp only[lz];rw[Av h.2,au_ (λhc=>h.1 hc.symm)]
theorem GO{y:SE}:∀{l:List (Nat×Nat)} {i q:Nat} {p:Nat×Nat} {L:List (LO SE)},(l.map (·.1)).Nodup->l[q]?=aa p->p.1<L.length->
 (lz y i l L)[p.1]?=aa (.var ((List.range p.2).map λj=>.v (.bS (.proj y (i+q+1)) j)))
 |[],_,_,_,_,_,h,_=>by simp at h
 |(k,n)::l,i,0,p,L,oX,h,ai=>by
  simp at h;subst h;simp only[asZ,avK]at oX;simp only[lz];rw[Av oX.1,List.getElem?_set_self ai]
 |(k,n)::l,i,q+1,p,L,oX,h,ai=>by
  simp only[asZ,avK]at oX;simp only[lz];rw[GO (q:=q) oX.2 (by simpa using h) (by simpa using ai)];rw[show i+1+q+1=i+(q+1)+1 by omega]
theorem Jd{α β:Type}{r:α->β->Prop}:∀{bs cs:List β} {as:List α},All2 r as (bs++cs)->∃as1 as2,as=as1++as2/\All2 r as1 bs/\All2 r as2 cs
 |[],cs,as,h=>⟨[],as,rfl,trivial,h⟩
 |b::bs,cs,[],h=>h.elim
 |b::bs,cs,a::as,h=>by
  obtain⟨as1,as2,rfl,h1,h2⟩:=Jd h.2;exact⟨a::as1,as2,rfl,⟨h.1,h1⟩,h2⟩
theorem aeA{a b:List (List IV)}(h:a.map IV.agg=b.map IV.agg):a=b:=(List.map_inj_right (λx y hh=>by injection hh)).1 h
theorem aeB(hC:jb P C)(hJ:J (au P ν) R φ V.g V.l E σ)(hn:ν.length=V.n){g:FuncId}{l:List (Nat×Nat)}{rest:List (PV SE)}{ps xs:List IV}
 (hp:All2 (VR (au P ν) R φ V.l σ) ps (l.map λp=>PV.one (Cl.pt p.1 0 p.2)))(hx:All2 (VR (au P ν) R φ V.l σ) xs rest)(hs:(aa0 P g l rest V k).sat P C Q K ν){KW:Nat->IV->St->Prop}(hk:TD P C Q K E ν V.ln k KW):
 ∃b,∀N,b<=N->dL P N g (ps++xs) σ (KW N):=by
 unfold aa0 at hs;split at hs<;>first|(exact hs.elim)|skip
 rename_i zs V' Eg fn hr hoc bT;split at hs
 ·exact hs.elim
 rename_i an9;have nW:rest.all ov=ab:=by simpa using an9
 split at hs
 ·exact hs.elim
 rename_i an_;have oX:(l.map (·.1)).Nodup:=Bf (by simpa using an_);split at hs<;>first|(exact hs.elim)|skip
 rename_i t ht;obtain⟨_,ajY⟩:=xk (P:=P) (ν:=ν) (R:=R) (φ:=φ) (σ:=σ) hr nW;obtain⟨ys,c1,c2⟩:=ajY hx;obtain⟨ins,i1,i2,i3,i4⟩:=GM hJ hoc;obtain⟨us,z,d1,d2,d3⟩:=hs
 have xU:us=.agg (ins.map IV.agg)::ys:=by
  have bz:All2 (λ(z:SE) y=>z.den P ν=aa y) (dT (Eg.map dT)::zs) (.agg (ins.map IV.agg)::ys):=⟨eB i3,c1⟩;have:=eB bz;unfold iE at d1;rw[show SE.ac (dT (Eg.map dT)) (dT zs)=dT (dT (Eg.map dT)::zs)from rfl,this]at d1;cases d1;rfl
 subst xU;obtain⟨arV,nX,outs,z0,e1,rfl,e3,e4,aoa⟩:=(hC _ _ _ _ d2).2.2.1 g (asX.1 bT).1 rfl;simp only[as4,IV.agg.injEq]at e1;obtain⟨e1,rfl⟩:=e1;have:=aeA e1;subst this;have zd:outs.length=ins.length:=by have:=congrArg List.length e3;simpa using this
 have zj:∀e w,au P ν e=aa w->au P (ν++[IV.az (z0::outs.map IV.agg)]) e=aa w:=λe w h=>SE.cU P e h;have ig:(SE.var V.n).den P (ν++[IV.az (z0::outs.map IV.agg)])=aa (IV.az (z0::outs.map IV.agg)):=by simp[SE.den,<-hn]
 have aob:(SE.proj (.var V.n) 0).den P (ν++[IV.az (z0::outs.map IV.agg)])=aa z0:=by simp only[SE.den]at ig⊢;rw[ig];rfl
 refine Wy zj hJ (ks:=l.map (·.1)) oX (L':=lz (.var V.n) 0 l V.l) (ins:=ins) (outs:=outs) (by simp[i2]) (λi k cs hk hi=>?_) ⟨by rw[hp.len,aty,i2],λi cs p hi OJ=>?_⟩ c2 aoa zd GN (λj hj=>Av hj) (λi k cs hk hi=>?_) KW λR' ao v LZ hv=>?_
 ·rw[asi]at hk;obtain⟨p,hpk,rfl⟩:=ar9.1 hk;obtain⟨es,a1,_,a3⟩:=i4 i p cs hpk hi;refine⟨_,a1,.mk (by rw[aty,a3.len]) λq c u hc hu=>?_⟩;rw[asi]at hc;obtain⟨e,he,rfl⟩:=ar9.1 hc;exact⟨e,rfl,a3.get he hu⟩
 ·have yb:i<l.length:=by rw[<-i2];exact(ar3.1 hi).1
  have hli:=ar2 yb;obtain⟨es,a1,a2,a3⟩:=i4 i _ cs hli hi;obtain⟨id,ds,b1,b2,b3⟩:=hp.get OJ (by rw[asi,hli];rfl);exact⟨id,by simp only[asi,hli,asy,asa];exact b1,by rw[b3,a2]⟩
 ·rw[asi]at hk;obtain⟨p,hpk,rfl⟩:=ar9.1 hk;have LY:i<ins.length:=by rw[<-zd];exact(ar3.1 hi).1
  obtain⟨es,a1,a2,_⟩:=i4 i p _ hpk (ar2 LY);have ai:p.1<V.l.length:=(ar3.1 a1).1;refine⟨_,GO oX hpk ai,?_⟩
  have dV:cs.length=p.2:=by
   have h5:=congrArg (λq=>q[i]?) e3;simp only[asi,hi,ar2 LY,asy,ar6]at h5;omega
  refine .mk (by simp[dV]) λq c u hc hu=>?_;have hq:=(ar3.1 hu).1;rw[asi,auL (by omega)]at hc;simp only[asy,ar6]at hc;subst hc;refine⟨_,rfl,?_⟩
  have hoi:(z0::outs.map IV.agg)[0+i+1]?=aa (.agg cs):=by
   rw[Nat.zero_add,List.getElem?_cons_succ,asi,hi];rfl
  have wo:=e4 cs (ash hi) u (ash hu);show(SE.bS _ _).den P _=_;simp only[SE.den]at ig⊢;rw[ig];simp only[asa,hoi,hu];simp[yo,wo]
 ·obtain⟨g1,g2⟩:=Cz (R:=R') (φ:=φ) (L:=lz (.var V.n) 0 l V.l) (σ:=ao) aob hv d3;exact hk {V with n:=V.n+1,l:=lz (.var V.n) 0 l V.l} [IV.az (z0::outs.map IV.agg)] R' φ ao v _ LZ rfl (by simp[hn]) rfl g2 g1
theorem Je(hC:jb P C)(hJ:J (au P ν) R φ V.g V.l E σ)(hn:ν.length=V.n){g:FuncId}{j:Nat}{zs:List SE}{x:IV}{xs ys:List IV}(hx:cD (au P ν) R φ V.l σ x (.sr j))
 (hz:All2 (λ(z:SE) y=>z.den P ν=aa y) zs ys)(iR:All2 iD xs ys)(hs:(FE P g zs j V k).sat P C Q K ν){KW:Nat->IV->St->Prop}(hk:TD P C Q K E ν V.ln k KW):
 ∃b,∀N,b<=N->dL P N g (x::xs) σ (KW N):=by
 unfold FE at hs;split at hs<;>first|(exact hs.elim)|skip
 rename_i s fr es hj;split at hs<;>first|(exact hs.elim)|skip
 rename_i aoc;have ajZ:g<P.funcs.size:=by simpa using aoc
 obtain⟨⟨_,hr⟩,us,z,h1,h2,h3⟩:=hs;obtain⟨s1,eT,h4,_,dO⟩:=F0 hr
 have xU:us=.tree s1 eT::ys:=by
  have:All2 (λ(z:SE) y=>z.den P ν=aa y) (es::zs) (.tree s1 eT::ys):=⟨h4,hz⟩;unfold iE at h1;rw[eB this]at h1;cases h1;rfl
 subst xU;obtain⟨s2,e2,xs2,aF,g1,rfl,Gj⟩:=(hC _ _ _ _ h2).2.1 g ajZ rfl;simp only[as4,IV.tree.injEq]at g1;obtain⟨⟨rfl,rfl⟩,rfl⟩:=g1;obtain⟨_,iQ,k1,_,_⟩:=hJ.obj j _ hj;have Mf:es.den P ν=aa (.tree s iQ):=k1;rw[h4]at Mf;cases Mf;have bD:=hJ.up (ia:=au P (ν++[.tree s aF])) (λe y h=>SE.cU P e h)
 have cI:cD (au P (ν++[.tree s aF])) R φ V.l σ x (.sr j):=by
  have hbv:VR (au P ν) R φ V.l σ x (.one (.sr j)):=hx;exact VR.up hJ hbv (λe z h=>SE.cU P e h)
 have eU:=bD.VE j;have Yj:(V.l.map (LO.drop j))[j]?=aa (.row s af af fr es):=by simp[asi,hj,LO.drop]
 have fg:cD (au P (ν++[.tree s aF])) R φ (V.l.map (LO.drop j)) σ x (.sr j):=cI.step (Hg bD j) (Cl.a_ _);have ig:(SE.var V.n).den P (ν++[.tree s aF])=aa (.tree s aF):=by simp[SE.den,<-hn]
 refine YB eU Yj (SE.cU P es h4) ig dO fg iR (λd t pv hg=>IX hg) (λi o hi aZ=>by
  rw[asi]at hi;obtain⟨o',_,rfl⟩:=ar9.1 hi;exact o'.mH j) Gj KW λR' aL ao v a b=>?_
 exact hk ((({V with n:=V.n+1}:SS).sA j).setObj j (.row s af af af (.var V.n))) [.tree s aF] R' aL ao v (.one (.sr j)) a rfl (by simp[hn,SS.sA,SS.setObj]) rfl b h3
theorem aeC{KW:Nat->IV->St->Prop}(hC:jb P C)(hJ:J (au P ν) R φ V.g V.l E σ)(hn:ν.length=V.n){g:FuncId}{da:List (PV SE)}{xs:List IV}
 (br:All2 (VR (au P ν) R φ V.l σ) xs da)(hs:(aa1 P g da V k).sat P C Q K ν)
 (hk:∀(V1:SS) (μ:List IV) (R1:Rs) (dA:Ph) (aq:St) (x:IV) (pv:PV SE),J (au P (ν++μ)) R1 dA V1.g V1.l E aq->V1.ln=V.ln->(ν++μ).length=V1.n->V1.ln=V.ln->VR (au P (ν++μ)) R1 dA V1.l aq x pv->(k pv V1).sat P C Q K (ν++μ)->∃b,∀N,b<=N->KW N x aq):
 ∃b,∀N,b<=N->dL P N g xs σ (KW N):=by
 unfold aa1 at hs;split at hs
 ·have he:=Jc da;rw[he]at br;obtain⟨ps,as,rfl,hp,hx⟩:=Jd br;exact aeB hC hJ hn hp hx hs hk
 split at hs<;>first|(exact hs.elim)|skip
 rename_i c rest _;split at hs<;>first|(exact hs.elim)|skip
 rename_i zs V' hr;split at hs
 ·exact hs.elim
 rename_i hp;have qV:rest.all ov=ab:=by simpa using hp
 cases xs with
 |nil=>exact br.elim
 |cons x xs=>
  obtain⟨_,nW⟩:=xk (P:=P) (ν:=ν) (R:=R) (φ:=φ) (σ:=σ) hr qV;obtain⟨ys,c1,c2⟩:=nW br.2;split at hs<;>first|(exact hs.elim)|skip
  ·exact Je hC hJ hn br.1 c1 c2 hs hk
  ·rename_i b s _;have hx:=br.1;unfold newObj at hs;obtain⟨bE,iu⟩:=hx;have mV:(SE.tr s SE.an).den P ν=aa (.tree s []):=by simp[SE.den,bE]
   obtain⟨_,eU⟩:=hJ.A9 (fr:=af) bE mV;have jB:(V.l++[LO.row s af af af (SE.tr s SE.an)])[V.l.length]?=aa (.row s af af af (SE.tr s SE.an)):=by simp
   exact Je (V:={V with l:=V.l++[.row s af af af (.tr s .an)]}) hC eU hn (x:=x) ⟨s,af,af,af,_,[],jB,mV,.inl ⟨xD hJ (ar8 _),rfl,by subst iu;cases b<;>simp⟩⟩ c1 c2 hs hk
end Go.Ev
namespace Go.Ev
variable{P:Program}{N:Nat}{σ ao:St}{R R':Rs}{φ aL:Ph}{E:Nat->Env}{ν:List IV}{ro:Nat}{ι:Io}{w:World}{cfg:bg}{self:nB}
variable{C:Cr}{Q:IV->Prop}{K:List (List IV->Prop)}{V:SS}{d f0:Nat}{o:Oper}{k:PV SE->SS->ak}{L:List (LO SE)}{Γ:Gm SE}{rd:Option Nat}{df:List Df}
variable{kx:Kx}{sk:List Nat}{ops:Array Oper}{l:List Oper}{kk:SS->ak}{CX:Nat->jS}
theorem ij{V V1:SS}(h:V1.ln=V.ln):V1.lv=V.lv/\V1.nt=V.nt:=by
 simp only[SS.ln,asu]at h;exact h
theorem YN(hC:jb P C)(bf:oY P C Q self)(ih:Be P C Q cfg self kx d f0 ops rd df kk CX sk l)(hJ:J (au P ν) R φ V.g V.l E σ)(hn:ν.length=V.n)(hK:K.length=V.lv)(cn:(E d).n=V.nt)
 (hd:∀t,o.dst=aa t->t<(E d).n)(nc:∀x,l8 ((E d).put o.dst x) sk)(eb:KS P C Q d E K ν V.nt kk (λN e σ=>CX N .normal e σ))(mQ:KP P C Q d E K ν V.nt kx (λN v e σ=>CX N (.bY v) e σ))(hw:aO o ops (E d)=ab)
 (hs:(ID P cfg self kx d f0 af o V λpv V=>ic P cfg self kx d f0 af ops sk l (V.bO d o.dst pv) kk).sat P C Q K ν):
 ∃b,∀N,b<=N->dp P N rd ops (o::l) (E d) df σ (CX N):=by
 have Jf:(fI P d o V λpv V=>ic P cfg self kx d f0 af ops sk l (V.bO d o.dst pv) kk).sat P C Q K ν->∃b,∀N,b<=N->dp P N rd ops (o::l) (E d) df σ (CX N):=by
  intro hs;obtain⟨x,aq,R1,dA,pv,V1,μ,h1,h2,h3,h4,h5,h6⟩:=YA hJ hn hs;obtain⟨b,hb⟩:=fA ih nc hd cn eb mQ h2 h4 (asP K) (by rw[(ij h5).1];exact hK) (ij h5).2 (λ_ _=>rfl) rfl h3 h6;exact⟨max b aq.n,λN hN=>.val hw h1 (by omega) (hb N (by omega))⟩
 unfold ID at hs;split at hs
 ·rename_i c ho;unfold VS at hs;split at hs
  ·exact Jf hs
  ·rename_i f hc;split at hs<;>first|(exact hs.elim)|skip
   rename_i g bs hf;simp only at hs;split at hs
   ·rename_i t cf uw BD;obtain⟨rfl,qy,_⟩:=Jb BD;split at hs<;>first|(exact hs.elim)|skip
    rename_i fn bT;split at hs<;>first|(exact hs.elim)|skip
    rename_i bP;simp only[ar4]at bP;have oe:=bo hJ d 0 f;rw[hf]at oe;have br:=fL hJ d c.args.toList c.argTypes.toList;obtain⟨ys,iA,qB⟩:=ki (args:=c.args.toList.map (ax (E d))) oe bT bP.1.2 bP.2
    have yH:ys=[]:=by
     cases ys with
     |nil=>rfl
     |cons=>exact qB.elim
    subst yH;rw[asm]at iA
    have eh:av P 0 (ax (E d)) o σ=aa (.enter g (c.args.toList.map (ax (E d)))):=by
     simp only[av,ho,hc];exact iA
    rw[qy]at br
    obtain⟨cl,dV,aod⟩:∃cl,c.args.toList.map (ax (E d))=[cl]/\VR (au P ν) R φ V.l σ cl (.one (.fn cf uw)):=by
     generalize c.args.toList.map (ax (E d))=l at br
     match l,br with
     |[cl],br=>exact⟨cl,rfl,br.1⟩
    obtain⟨b,hb⟩:=Mm (RW:=λN v aq=>aq.n<=N/\dp P N rd ops l ((E d).put o.dst v) df aq (CX N)) hC bf hJ hn hK cn (asX.1 bT).1 aod hs (by
     intro pv V' μ K' R' aL E' ao v hF nb hv bt;obtain⟨b,hb⟩:=fA ih nc hd cn eb mQ hF.hJ hF.hn hF.hK hF.fP hF.cn hF.hE nb hv bt;exact⟨max b ao.n,λN hN=>⟨by omega,by omega,hb N (by omega)⟩⟩)
    rw[dV]at eh;exact⟨b,λN hN=>.call hw eh (hb N hN) λv aq hv=>hv⟩
   split at hs
   ·rename_i hp;simp only[ar4,ate]at hp;have gk:=hp.1;subst gk
    have uj:∃(args:List IV) (v:IV) (aq:St) (R1:Rs) (dA:Ph) (pv:PV SE) (V1:SS) (μ:List IV),av P 0 (ax (E d)) o σ=aa (.enter g args)/\(∀ro,gJ P ro g args σ v aq)/\(aq=σ\/∃ob,aq=σ.add ob)/\J (au P (ν++μ)) R1 dA V1.g V1.l E aq/\VR (au P (ν++μ)) R1 dA V1.l aq v pv/\(ν++μ).length=V1.n/\V1.ln=V.ln/\
     (ic P cfg self kx d f0 af ops sk l (V1.bO d o.dst pv) kk).sat P C Q K (ν++μ):=by
     split at hs
     ·exact Mj hC hJ hn ‹_› ho hc hf hs
     ·exact Mi hC hJ hn ho hc hf hs
    obtain⟨args,v,aq,R1,dA,pv,V1,μ,eh,qz,_,g1,g2,g3,g4,g5⟩:=uj;obtain⟨b,hb⟩:=fA ih nc hd cn eb mQ g1 g3 (asP K) (by rw[(ij g4).1];exact hK) (ij g4).2 (λ_ _=>rfl) rfl g2 g5;exact⟨max b aq.n,λN hN=>.call hw eh (dL.Iw (qz 0) (by omega)) λv1 dm hv=>by obtain⟨rfl,rfl⟩:=hv;exact⟨by omega,hb N (by omega)⟩⟩
   split at hs
   ·rename_i hp;simp only[ar4,ate]at hp;have gk:=hp.1;subst gk;obtain⟨args,v,aq,R1,dA,pv,V1,μ,eh,qz,_,g1,g2,g3,g4,g5⟩:=PL hC hJ hn ho hc hf hs;obtain⟨b,hb⟩:=fA ih nc hd cn eb mQ g1 g3 (asP K) (by rw[(ij g4).1];exact hK) (ij g4).2 (λ_ _=>rfl) rfl g2 g5;exact⟨max b aq.n,λN hN=>.call hw eh (dL.Iw (qz 0) (by omega)) λv1 dm hv=>by obtain⟨rfl,rfl⟩:=hv;exact⟨by omega,hb N (by omega)⟩⟩
   split at hs
   ·rename_i hp;simp only[ar4,ate]at hp;have gk:=hp.1;subst gk;split at hs<;>first|(exact hs.elim)|skip
    rename_i fn bT;split at hs<;>first|(exact hs.elim)|skip
    rename_i bP;simp only[ar4]at bP;have oe:=bo hJ d 0 f;rw[hf]at oe;have br:=fL hJ d c.args.toList c.argTypes.toList;obtain⟨ys,iA,qB⟩:=ki (args:=c.args.toList.map (ax (E d))) oe bT bP.1.2 bP.2
    have yH:ys=[]:=by
     cases ys with
     |nil=>rfl
     |cons=>exact qB.elim
    subst yH;rw[asm]at iA
    have eh:av P 0 (ax (E d)) o σ=aa (.enter g (c.args.toList.map (ax (E d)))):=by
     simp only[av,ho,hc];exact iA
    obtain⟨b,hb⟩:=aeC (KW:=λN v aq=>aq.n<=N/\dp P N rd ops l ((E d).put o.dst v) df aq (CX N)) hC hJ hn br hs (by
     intro V1 μ R1 dA aq x pv h2 h4 hlen h5 hx h6;obtain⟨b,hb⟩:=fA ih nc hd cn eb mQ h2 hlen (asP K) (by rw[(ij h5).1];exact hK) (ij h5).2 (λ_ _=>rfl) rfl hx h6;exact⟨max b aq.n,λN hN=>⟨by omega,hb N (by omega)⟩⟩)
    exact⟨b,λN hN=>.call hw eh (hb N hN) λv aq hv=>hv⟩
   split at hs
   ·rename_i hp;simp only[ar4,ate]at hp;have gk:=hp.1;subst gk;split at hs<;>first|(exact hs.elim)|skip
    rename_i zs V' fn hr bT;split at hs<;>first|(exact hs.elim)|skip
    rename_i bP;simp only[ar4]at bP;obtain⟨g',args,z,R1,pv,V1,μ,h1,h2,h3,h4,h5,h6,h7⟩:=PK hC hJ hn ho hc hf hr bT bP.1.2 bP.2 bP.1.1 hs;obtain⟨b,hb⟩:=fA ih nc hd cn eb mQ h3 h5 (asP K) (by rw[(ij h6).1];exact hK) (ij h6).2 (λ_ _=>rfl) rfl h4 h7;refine⟨max b σ.n,λN hN=>.call hw h1 (dL.Iw (h2 0) (by omega)) λv aq hv=>?_⟩;obtain⟨rfl,rfl⟩:=hv;exact⟨by omega,hb N (by omega)⟩
   ·split at hs
    ·exact hs.elim
    ·have oe:=bo hJ d 0 f;rw[hf]at oe;have br:=fL hJ d c.args.toList c.argTypes.toList
     have bT:∃fn,P.funcs[g]?=aa fn/\fn.body.isSome=ab/\(fn.name != "runtime.NumGoroutine")=ab:=by
      unfold sB at hs;split at hs<;>first|(exact hs.elim)|skip
      rename_i fn bT;split at hs<;>first|(exact hs.elim)|skip
      rename_i body hb;split at hs<;>first|(exact hs.elim)|skip
      split at hs<;>first|(exact hs.elim)|skip
      rename_i kK;simp only[ar4]at kK;exact⟨fn,bT,by simp[hb],kK.2⟩
     obtain⟨fn,bT,hb,lj⟩:=bT;obtain⟨ys,iA,qB⟩:=ki (args:=c.args.toList.map (ax (E d))) oe bT hb lj
     have eh:av P 0 (ax (E d)) o σ=aa (.enter g (c.args.toList.map (ax (E d))++ys)):=by
      simp only[av,ho,hc];exact iA
     obtain⟨_,_,_,_,b,hcw⟩:=Cx (RW:=λN v aq=>aq.n<=N/\dp P N rd ops l ((E d).put o.dst v) df aq (CX N)) (PW:=λN v aq=>CX N (.bY v) (E d) aq) bf hJ hn hK cn (br.app qB) hs (by
      intro pv V' μ K' R' aL E' ao v hF nb hv bt;obtain⟨b,hb⟩:=fA ih nc hd cn eb mQ hF.hJ hF.hn hF.hK hF.fP hF.cn hF.hE nb hv bt;exact⟨max b ao.n,λN hN=>⟨by omega,by omega,hb N (by omega)⟩⟩) (by
      intro t pv V' μ K' R' aL E' ao v hF nb hv bt;obtain⟨b,hb⟩:=mQ t pv V' μ K' R' aL E' ao v hF hv bt;exact⟨b,λN hN=>⟨(hb N hN).1,by rw[<-nb];exact(hb N hN).2⟩⟩)
     exact⟨b,λN hN=>.VF hw eh (hcw N hN) (λv aq hv=>hv) λv aq hv=>hv⟩
  ·exact hs.elim
 ·exact Jf hs
theorem abI{e0:Bool}{c:Cl SE}(h:VT P d o V=aa (e0,c)):∃op t x yt el,o.op=.binOp op t x (.const (.slice ah 0 0)) yt/\P.underlying t=aa (.slice el)/\bN P d V t x=.one c/\((op=.eql/\e0=ab)\/(op=.neq/\e0=af)):=by
 unfold VT at h;split at h<;>first|(cases h;done)|skip
 rename_i op t x y yt ho;split at h<;>first|(cases h;done)|skip
 rename_i el c' hu hx;split at h<;>first|(cases h;done)|skip
 ·cases h;exact⟨_,t,x,yt,el,ho,hu,hx,.inl ⟨rfl,rfl⟩⟩
 ·cases h;exact⟨_,t,x,yt,el,ho,hu,hx,.inr ⟨rfl,rfl⟩⟩
theorem PY{a:SE}{u x:IV}(h:ND a=aa u)(hx:VR (au P ν) R φ V.l σ x (.one (.v a))):x=u:=by
 unfold ND at h;split at h<;>first|(cases h;done)|skip
 ·cases h;obtain⟨y,h1,h2,_⟩:=hx;simp only[au,SE.den,ar6]at h1;subst h1;exact bZ h2
 ·cases h;obtain⟨y,h1,h2,_⟩:=hx;simp only[au,SE.den,ar6]at h1;subst h1;exact bZ h2
theorem abJ(hJ:J (au P ν) R φ V.g V.l E σ){pv:PV SE}(h:O8 P d V o=aa pv):∃x,av P 0 (ax (E d)) o σ=aa (.val x σ)/\VR (au P ν) R φ V.l σ x pv:=by
 unfold O8 at h;split at h
 ·rename_i op t x y yt ho;split at h<;>first|(cases h;done)|skip
  rename_i a b ha hb;split at h<;>first|(cases h;done)|skip
  rename_i u v hu hv;have hx:=bo hJ d t x;have hy:=bo hJ d t y;rw[ha]at hx;rw[hb]at hy;rw[ar9]at h;obtain⟨e,h1,rfl⟩:=h;rw[aso]at h1;obtain⟨w,h2,h3⟩:=h1;refine⟨w,?_,?_⟩
  ·simp only[av,ho,PY hu hx,PY hv hy,h2,ret]
  ·unfold acN at h3;split at h3<;>first|(cases h3;done)|skip
   ·cases h3;exact⟨_,rfl,.raw _,rfl⟩
   ·cases h3;exact⟨_,rfl,.raw _,rfl⟩
 ·rename_i t x ix ho;split at h<;>first|(cases h;done)|skip
  rename_i n el cs z hu il cW;split at h<;>first|(cases h;done)|skip
  rename_i s ba aT Dg;split at h<;>first|(cases h;done)|skip
  rename_i hc;have hx:=bo hJ d t x;have hi:=bo hJ d 0 ix;rw[il]at hx;rw[cW]at hi;have sX:=PY (a:=.i z) rfl hi;obtain⟨cE,hxe,bH⟩:=hx
  obtain⟨v,hv,hr⟩:=sG (pv:=pv) aT Dg bH hc.2.2 (by
   split at h
   ·rename_i ha;cases h;rw[if_pos ha]
   ·rename_i ha;rw[if_neg ha];split at h
    ·rename_i c kK;cases h;exact⟨c,kK,rfl⟩
    ·cases h)
  refine⟨v,?_,hr⟩;simp only[av,ho,hu,hxe,sX,aT,IV.int];rw[if_pos ⟨hc.1,hc.2.1⟩,hv];rfl
 ·cases h
theorem aeD(hJ:J (au P ν) R φ V.g V.l E σ){es:SE}{s:Nat}{c:Cl SE}(h:VU P d V o=aa (es,s,c)){z:IV}(hz:(SE.sub s es (.len es) (.i 0)).den P ν=aa z):
 ∃x,av P 0 (ax (E d)) o σ=aa (.val x σ)/\VR (au P ν) R φ V.l σ x (.one c):=by
 unfold VU at h;split at h<;>first|(cases h;done)|skip
 rename_i c0 ho;split at h<;>first|(cases h;done)|skip
 rename_i hc;have br:=fL hJ d c0.args.toList c0.argTypes.toList;split at h<;>first|(cases h;done)|skip
 rename_i base ca hh;rw[hh]at br;obtain⟨x0,x1,hx,Ip,qA⟩:=Hw br;split at h<;>first|(cases h;done)|skip
 rename_i t0 t1 Tn To;split at h<;>first|(cases h;done)|skip
 rename_i et et1 het abg;split at h<;>first|(cases h;done)|skip
 rename_i s' z' bytes aT vW L6;split at h<;>first|(cases h;done)|skip
 rename_i bP;simp only[asL,asR,not_or,Bool.not_eq_true,Bool.not_eq_false]at bP;obtain⟨⟨bL,gy⟩,hc3⟩:=bP;have aoe:=asb gy;have arW:bytes<=1000000:=by simpa using hc3
 have bE:s'≠0:=λh=>by subst h;simp at bL
 split at h<;>first|(cases h;done)|skip
 rename_i fr aF raw b w abh;cases h;simp only[SE.den,aso]at hz;obtain⟨a1,gx,b1,⟨a2,agA,hlen⟩,h0⟩:=hz;rw[gx]at agA;cases agA
 have:a1=.tree s []:=by
  obtain⟨a,ha,h0⟩:=h0;cases ha;unfold IF at hlen;split at hlen<;>first|(cases hlen;done)|skip
  rename_i q fs;cases hlen;simp only[kP,IV.int,gh]at h0;split at h0
  ·rename_i hc;obtain⟨rfl,_,h1,_,_⟩:=hc;have:fs=[]:=asF (by simpa using h1);rw[this]
  ·cases h0
 subst this;have aZ:i_ s []=ab:=rfl;obtain⟨g1,new,g2,g3,_,g5⟩:=Em hJ abh qA gx (by omega) aZ (λ_=>⟨.tree s [],by simp[SE.den,gx]⟩);have kJ:new=[]:=by simpa using g3
 subst kJ;obtain⟨hw,iu⟩:=Ip;refine⟨x0,?_,hw,iu⟩;have aj0:eD 0 s 0 0 [] x0 σ=aa (.val x0 σ):=by subst iu;cases b<;>simp[eD,ret]
 have jn:kG x0=aa 0:=by subst iu;cases b<;>rfl
 simp only[av,ho,hc,dB,hx,kE,Tn,To,oz het,oz abg,aT,vW,L6,sg,g1,g2,jn];rw[if_neg (by rintro(h|h);exact bE h;exact h aoe),if_pos ⟨by simp,by simp,by simp;omega,by simp⟩];exact aj0
theorem YO{o:Oper}{j kt:Nat}{lL:TypeId}{es x:SE}(h:IE P d V o=aa (j,kt,lL,es,x)):
 ∃it,o.op=.next it af/\bN P d V 0 it=.one (.mp j)/\V.l[j]?=aa (.mp kt x)/\1000000<=kt/\V.l[kt % 1000000]?=aa (.mp lL es)/\¬gB lL=ab:=by
 unfold IE at h;split at h<;>first|(cases h;done)|skip
 rename_i it ho;split at h<;>first|(cases h;done)|skip
 rename_i j' hm;split at h<;>first|(cases h;done)|skip
 rename_i lJ x' hj;split at h<;>first|(cases h;done)|skip
 rename_i hle;split at h<;>first|(cases h;done)|skip
 rename_i arX aF Yv;split at h<;>first|(cases h;done)|skip
 rename_i hk;simp only[ar6,asu]at h;obtain⟨rfl,rfl,rfl,rfl,rfl⟩:=h;exact⟨it,ho,hm,hj,by simpa using hle,Yv,hk⟩
theorem YP(hJ:J (au P ν) R φ V.g V.l E σ)(hn:ν.length=V.n){j id kt m i:Nat}{x0:SE}{ds PZ:List IV}{seen:List Nat}{y:IV}{ob:Ob}(hj:V.l[j]?=aa (.mp kt x0))(jQ:1000000<=kt)(kO:φ j=aa id)(hR:R id=ah)
 (zS:∃lJ z',V.l[kt % 1000000]?=aa (.mp lJ z'))(hm:φ (kt % 1000000)=aa m)(hs:∀s∈seen,s<ds.length)(hl:Left ds (seen++[i]) PZ)(hy:ds[i]?=aa y)(aE:σ.at id=aa ob):
 J (au P (ν++[y,.az [.az ds,.az PZ,y]])) R φ V.g (V.l.set j (.mp kt (.var (V.n+1)))) E (σ.put id (.jz (aa m) ds.length (seen++[i]) ds.length)):=by
 have bD:=hJ.up (ia:=au P (ν++[y,.az [.az ds,.az PZ,y]])) (λe y h=>SE.cU P e h)
 exact(bD.tv (R':=R) (bad:=λ_=>False) (jY:=.mp kt (.var (V.n+1))) (eK:=.jz (aa m) ds.length (seen++[i]) ds.length) kO hj (λ_ _=>rfl)
  (λm hm=>by rw[hR]at hm;cases hm) (λm _ _ _ hm=>by rw[hR]at hm;cases hm) (λm _ _ _ hm=>by rw[hR]at hm;cases hm)
  (λ_ h=>by cases h) (λ_ _ _=>by rename_i h;cases h;exact⟨_,rfl⟩) (λ_ _ _ _ _ h=>by cases h) (λ_ _ pv _=>pv.a_) (λ_ o _ _=>o.a_)
  (λdC=>by
   rw[gL,if_pos (D7 jQ)];refine .inr ⟨jQ,id,m,ds,seen++[i],PZ,[y],by simp[au,SE.den,<-hn],kO,hR,?_,hm,by rw[St.cV,if_pos rfl],λs bt=>?_,hl,.inr ⟨i,y,rfl,by simp,hy⟩⟩
   ·obtain⟨lJ,z',hz⟩:=zS;rw[List.getElem?_set];split
    ·rename_i hh;have ai:=(ar3.1 hj).1;rw[if_pos ai];exact⟨_,_,rfl⟩
    ·exact⟨_,_,hz⟩
   ·simp only[List.mem_append,List.mem_singleton]at bt;rcases bt with bt|rfl
    ·exact hs s bt
    ·exact(ar3.1 hy).1)).2
theorem abK(ih:Be P C Q cfg self kx d f0 ops rd df kk CX sk l)(hJ:J (au P ν) R φ V.g V.l E σ)(hn:ν.length=V.n)(hK:K.length=V.lv)(cn:(E d).n=V.nt)
 (hd:∀t,o.dst=aa t->t<(E d).n)(nc:∀x,l8 ((E d).put o.dst x) sk)(eb:KS P C Q d E K ν V.nt kk (λN e σ=>CX N .normal e σ))(mQ:KP P C Q d E K ν V.nt kx (λN v e σ=>CX N (.bY v) e σ))(hw:aO o ops (E d)=ab)
 {j kt:Nat}{lL:TypeId}{es x:SE}(hit:IE P d V o=aa (j,kt,lL,es,x))
 (hs:(VW P j kt lL es x V λpv V=>ic P cfg self kx d f0 af ops sk l (V.bO d o.dst pv) kk).sat P C Q K ν):
 ∃b,∀N,b<=N->dp P N rd ops (o::l) (E d) df σ (CX N):=by
 obtain⟨it,ho,hm,hj,jQ,Yv,dW⟩:=YO hit;have pI:=bo hJ d 0 it;rw[hm]at pI;obtain⟨id,kt3,x3,g1,g2,g3⟩:=pI;rw[hj]at g2;cases g2;rw[if_pos (D7 jQ)]at g3;have dz:=hJ.obj j _ hj;rw[gL,if_pos (D7 jQ)]at dz;rcases dz with⟨h0,_⟩|⟨_,bA,m,ds,seen,rem,rest,e1,e2,e3,e4,e5,e6,e7,e8,e9⟩
 ·exact(acK jQ h0).elim
 rw[g1]at e2;cases e2;have cY:x.den P ν=aa (.az (.az ds::.az rem::rest)):=e1;have PF:=hJ.obj _ _ Yv;rw[gL,if_neg dW]at PF;obtain⟨id2,Jg,clock,Tx,c1,c2,c3,c4,c5,c6⟩:=PF;rw[e5]at c2;cases c2;have kz:es.den P ν=aa (.az Tx):=c1;unfold VW at hs;split at hs<;>first|(exact hs.elim)|skip
 obtain⟨mj,PZ,d1,⟨r,d2⟩,qG,aj1⟩:=hs;rw[cY]at d2;simp only[ar6,IV.az.injEq,as4]at d2;obtain⟨rfl,rfl,_⟩:=d2;rw[kz]at d1;simp only[ar6,IV.az.injEq]at d1;subst d1;have hlen:Jg.length=Tx.length:=All2.len c5
 obtain⟨B1,Bg⟩:∃b,∀N,b<=N->(∀i,i<Jg.length->i∈seen)->dp P N rd ops l ((E d).put o.dst (.az [.bool af])) df σ (CX N):=by
  by_cases bz:∀i,i<Jg.length->i∈seen
  ·obtain⟨b,hb⟩:=fA (V1:=V) (μ:=[]) (x:=.az [.bool af]) (pv:=.tu [(af,[.v (.b af)])]) ih nc hd cn eb mQ (by rw[asm];exact hJ) (by rw[asm];exact hn) (asP K) hK rfl (λ_ _=>rfl) rfl
    (by rw[asm];exact⟨_,rfl,⟨_,rfl,.raw (.bool af),rfl,.raw _,rfl⟩,trivial⟩) (by rw[asm];exact qG (e8.empty λi hi=>bz i (by rw[hlen];exact hi)))
   exact⟨b,λN hN _=>hb N hN⟩
  ·exact⟨0,λ_ _ h=>absurd h bz⟩
 obtain⟨B2,Jh⟩:=ON (p:=λi N=>∀en,Jg[i]?=aa en->i∉seen->dp P N rd ops l ((E d).put o.dst (.az [.bool ab,lift en.1,en.2.1])) df (σ.put id (.jz (aa m) Jg.length (seen++[i]) Jg.length)) (CX N)) Jg.length λi hi=>by
  by_cases vL:i∈seen
  ·exact⟨0,λ_ _ _ _ h=>absurd vL h⟩
  obtain⟨q,y,hq,hy,hl⟩:=e8.has (by rw[<-hlen];exact hi) vL;have eU:=YP hJ hn hj jQ g1 e3 e4 e5 e7 hl hy e6
  obtain⟨b,hb⟩:=fA (V1:={V with n:=V.n+2,l:=V.l.set j (.mp kt (.var (V.n+1)))}) (μ:=[y,.az [.az Tx,.az (rem.eraseIdx q),y]]) (x:=.az [.bool ab,lift Jg[i].1,Jg[i].2.1]) (pv:=.tu [(af,[.v (.b ab)]),(af,[.un]),(af,[.un])]) ih nc hd cn eb mQ eU (by simp[hn]) (asP K) hK rfl (λ_ _=>rfl) rfl
   ⟨_,rfl,⟨_,rfl,.raw (.bool ab),rfl,.raw _,rfl⟩,⟨_,rfl,trivial⟩,⟨_,rfl,trivial⟩,trivial⟩ (aj1 q y hq)
  refine⟨b,λN hN en oJ _=>?_⟩;rw[ar2 hi]at oJ;cases oJ;rw[hlen];exact hb N hN
 refine⟨max σ.n (max B1 B2),λN hN=>.aji hw ho g3 (by rw[hlen];exact e6) c4 c6 (by omega) (Bg N (by omega)) λi en oJ vL=>Jh i (ar3.1 oJ).1 N (by omega) en oJ vL⟩
theorem abL(hC:jb P C)(bf:oY P C Q self)(ih:Be P C Q cfg self kx d f0 ops rd df kk CX sk l)(hJ:J (au P ν) R φ V.g V.l E σ)(hn:ν.length=V.n)(hK:K.length=V.lv)(cn:(E d).n=V.nt)
 (hd:∀t,o.dst=aa t->t<(E d).n)(nc:∀x,l8 ((E d).put o.dst x) sk)(eb:KS P C Q d E K ν V.nt kk (λN e σ=>CX N .normal e σ))(mQ:KP P C Q d E K ν V.nt kx (λN v e σ=>CX N (.bY v) e σ))(hw:aO o ops (E d)=ab)
 (hs:(BL P cfg self kx d f0 af o V λpv V=>ic P cfg self kx d f0 af ops sk l (V.bO d o.dst pv) kk).sat P C Q K ν):
 ∃b,∀N,b<=N->dp P N rd ops (o::l) (E d) df σ (CX N):=by
 unfold BL at hs;simp only[asA,if_false]at hs;split at hs
 ·rename_i hit;exact abK ih hJ hn hK cn hd nc eb mQ hw hit hs
 split at hs
 ·rename_i e0 c bw;obtain⟨op,t,x,yt,el,ho,hu,hx,fq⟩:=abI bw;have qv:=bo hJ d t x;rw[hx]at qv
  have next:∀b:Bool,(ic P cfg self kx d f0 af ops sk l (V.bO d o.dst (.one (.v (.b b)))) kk).sat P C Q K ν->∃B,∀N,B<=N->dp P N rd ops l ((E d).put o.dst (.raw (.bool b))) df σ (CX N):=λb h=>by
   have:=fA (V1:=V) (μ:=[]) (x:=.raw (.bool b)) (pv:=.one (.v (.b b))) ih nc hd cn eb mQ (by rw[asm];exact hJ) (by rw[asm];exact hn) (asP K) hK rfl (λ_ _=>rfl) rfl (by rw[asm];exact⟨.raw (.bool b),rfl,.raw _,rfl⟩) (by rw[asm];exact h);exact this
  have two:∀z q es,z.den P ν=aa (.tree q es)->WD (ax (E d) x)->(ax (E d) x=.raw (.slice ah 0 0)\/(∃s,ax (E d) x=.tree s [])->es=[])->(ak.two z (ic P cfg self kx d f0 af ops sk l (V.bO d o.dst (.one (.v (.b e0)))) kk) (ic P cfg self kx d f0 af ops sk l (V.bO d o.dst (.one (.v (.b (!e0))))) kk)).sat P C Q K ν->
   ∃b,∀N,b<=N->dp P N rd ops (o::l) (E d) df σ (CX N):=by
   intro z q es hz oH gx dK;obtain⟨q',aF,h1,h2,h3⟩:=dK;rw[hz]at h1;cases h1;obtain⟨B1,Bg⟩:=next _ h2
   by_cases he:es=[]
   ·obtain⟨B2,Jh⟩:=next _ (h3 he)
    exact⟨max σ.n (max B1 B2),λN hN=>.isNil hw (by omega) ho fq hu oH (λ_=>Bg N (by omega)) (λ_=>Jh N (by omega))⟩
   ·exact⟨max σ.n B1,λN hN=>.isNil hw (by omega) ho fq hu oH (λ_=>Bg N (by omega)) (λh=>absurd (gx h) he)⟩
  unfold agb at hs;split at hs<;>first|(exact hs.elim)|skip
  ·obtain⟨y,h1,h2,_⟩:=qv;obtain⟨q,es,h3,bt⟩:=hs;have cZ:=h3.symm.trans h1;cases cZ;obtain⟨g1,g2⟩:=PX h2;exact two _ q es h3 g1 g2 ⟨q,es,h3,bt⟩
  ·obtain⟨y,h1,h2,_⟩:=qv;obtain⟨q,es,h3,bt⟩:=hs;have cZ:=h3.symm.trans h1;cases cZ;obtain⟨g1,g2⟩:=PX h2;exact two _ q es h3 g1 g2 ⟨q,es,h3,bt⟩
  ·rename_i b s;obtain⟨_,h1⟩:=qv;obtain⟨B,hB⟩:=next _ hs
   cases b with
   |true=>
    simp only[if_true]at h1 hB;exact⟨max σ.n B,λN hN=>.isNil hw (by omega) ho fq hu (.inl h1) (λh=>absurd h1 h) (λ_=>hB N (by omega))⟩
   |false=>
    simp only[asA,if_false]at h1 hB;exact⟨max σ.n B,λN hN=>.isNil hw (by omega) ho fq hu (.inr (.inl h1)) (λ_=>hB N (by omega)) (λh=>by rw[h1]at h;rcases h with h|⟨_,h⟩<;>cases h)⟩
  ·rename_i j;split at hs<;>first|(exact hs.elim)|skip
   rename_i s0 st0 arY fr0 iQ hj;obtain⟨s1,sE,r6,sF,z1,eT,b1,b2,b3⟩:=qv;rw[hj]at b1;cases b1;have pJ:iQ.den P ν=aa (.tree s0 eT):=b2;refine two _ s0 eT pJ ?_ ?_ hs
   ·rcases b3 with⟨_,_,b3|b3⟩|⟨_,_,_,_,_,_,_,b3,_⟩
    ·exact .inl b3
    ·exact .inr (.inl b3)
    ·exact .inr (.inr (.inr ⟨_,_,_,_,_,_,b3⟩))
   ·intro h;rcases b3 with⟨_,b4,_⟩|⟨_,_,_,_,_,_,_,b3,_⟩
    ·exact asF b4
    ·rw[b3]at h;rcases h with h|⟨_,h⟩<;>cases h
 split at hs
 ·rename_i es s c hq;split at hq
  ·obtain⟨⟨z,hz⟩,hk⟩:=hs;obtain⟨x,h1,h2⟩:=aeD hJ hq hz;obtain⟨b,hb⟩:=fA (V1:=V) (μ:=[]) (x:=x) (pv:=.one c) ih nc hd cn eb mQ (by rw[asm];exact hJ) (by rw[asm];exact hn) (asP K) hK rfl (λ_ _=>rfl) rfl (by rw[asm];exact h2) (by rw[asm];exact hk);exact⟨max b σ.n,λN hN=>.val hw h1 (by omega) (hb N (by omega))⟩
  ·cases hq
 ·split at hs
  ·rename_i pv hq;split at hq
   ·obtain⟨x,h1,h2⟩:=abJ hJ hq;obtain⟨b,hb⟩:=fA (V1:=V) (μ:=[]) (x:=x) (pv:=pv) ih nc hd cn eb mQ (by rw[asm];exact hJ) (by rw[asm];exact hn) (asP K) hK rfl (λ_ _=>rfl) rfl (by rw[asm];exact h2) (by rw[asm];exact hs);exact⟨max b σ.n,λN hN=>.val hw h1 (by omega) (hb N (by omega))⟩
   ·cases hq
  ·exact YN hC bf ih hJ hn hK cn hd nc eb mQ hw hs
theorem abM{o:Oper}{rest:List Oper}{t:TypeId}{pv:PV SE}(h:VX P d V o rest=aa (t,pv)):
 ∃x p b,o.op=.makeInterface t x/\o.dst=aa b/\o.guard=ah/\rest=[p]/\p.op=.panic (.tmp b)/\p.guard=ah/\(∀u,(P.underlying t=aa (.interface u)->False)/\(P.underlying t=ah->False))/\pv=bN P d V t x:=by
 unfold VX at h;split at h<;>first|(cases h;done)|skip
 rename_i t1 x1 p1 ho;split at h<;>first|(cases h;done)|skip
 rename_i a b hp fY hg1 TE;split at h<;>first|(cases h;done)|skip
 rename_i hc;simp only[ar4]at hc;obtain⟨bR,gy⟩:=hc;have:=asb bR;subst this;cases h;refine⟨x1,p1,a,ho,fY,hg1,rfl,hp,TE,λu=>⟨λhu=>?_,λhu=>?_⟩,rfl⟩
 ·unfold Hq at gy;rw[hu]at gy;cases gy
 ·unfold Hq at gy;rw[hu]at gy;cases gy
theorem TF(hC:jb P C)(bf:oY P C Q self):∀(l:List Oper) (sk:List Nat),Be P C Q cfg self kx d f0 ops rd df kk CX sk l
 |[],sk=>by
  intro V ν K R φ E σ _ hs hJ hn hK cn eb _;obtain⟨b,hb⟩:=eb.now hJ hn hK hs;exact⟨b,λN hN=>.nil (hb N hN).2⟩
 |o::l,sk=>by
  intro V ν K R φ E σ EC hs hJ hn hK cn eb mQ;have ih:∀sk,Be P C Q cfg self kx d f0 ops rd df kk CX sk l:=λsk=>TF hC bf l sk;simp only[ic]at hs
  have YQ:∀t,o.dst=aa t->t<V.nt:=by
   intro t ht;rw[ht]at hs;by_cases ai:t<V.nt
   ·exact ai
   ·have:as7 t V.nt=af:=by
     cases h:as7 t V.nt
     ·rfl
     ·exact absurd (by simpa using h) ai
    simp only[this,aw4,if_true]at hs;exact hs.elim
  rw[if_neg]at hs
  rotate_left
  ·cases hh:o.dst with
   |none=>simp
   |some t=>simp[YQ t hh]
  ·have hd:∀t,o.dst=aa t->t<(E d).n:=by rw[cn];exact YQ
   simp only[asA,if_false]at hs;split at hs
   ·rename_i t pv abN;obtain⟨x,p,b0,ho,fY,hg1,rfl,hp,TE,hty,rfl⟩:=abM abN;have hx:=bo hJ d t x;have bD:=Cv (d:=d) (dst:=o.dst) (x:=.di t (ax (E d) x)) hJ;have J2:(V.jE d o.dst).ln=V.ln:=Cw ..
    obtain⟨fP,kj⟩:=ij J2
    obtain⟨b,hb⟩:=mQ t _ (V.jE d o.dst) [] K R φ _ σ (ax (E d) x) ⟨asP K,by rw[fP];exact hK,kj,by rw[asm];exact bD,by rw[asm,Ey];exact hn,λj hj=>gE _ _ _ (by omega),by rw[cg,eP]⟩
     (by rw[asm];cases o.dst<;>exact hx) (by rw[asm];exact hs)
    rw[cg]at hb;refine⟨max b σ.n,λN hN=>?_⟩;have P0:aO o ops (E d)=ab:=by unfold aO;rw[hg1]
    have eh:av P 0 (ax (E d)) o σ=aa (.val (.di t (ax (E d) x)) σ):=by
     simp only[av,ho];split
     ·rename_i u hu;exact((hty u).1 hu).elim
     ·rfl
     ·rename_i hu;exact((hty #[]).2 hu).elim
    refine .val P0 eh (by omega) ?_;have ai:b0<(E d).n:=hd b0 fY;refine .panic (by unfold aO;rw[TE]) (v:=.di t (ax (E d) x)) ?_ (hb N (by omega)).2;simp only[av,hp,ax];rw[fY,dN ai]
   rename_i abN;clear abN
   have fJ:∀(V1:SS),J (au P ν) R φ V1.g V1.l E σ->V1.n=V.n->V1.ln=V.ln->aO o ops (E d)=ab->
    (match yn P cfg d af o V1 with
     |some (g,args)=>FD P cfg self kx d f0 o.dst g args V1 λV=>ic P cfg self kx d f0 af ops (tE sk o.dst) l V kk
     |none=>BL P cfg self kx d f0 af o V1 λpv V=>ic P cfg self kx d f0 af ops (tE sk o.dst) l (V.bO d o.dst pv) kk).sat P C Q K ν->∃b,∀N,b<=N->dp P N rd ops (o::l) (E d) df σ (CX N):=by
    intro V1 bD dJ Dw hw dC;obtain⟨fP,kj⟩:=ij Dw;split at dC
    ·rename_i g da hj;obtain⟨c,f,bs,ho,hc,hf,rfl⟩:=YM hj;have oe:=bo bD d 0 f;rw[hf]at oe;have br:=fL bD d c.args.toList c.argTypes.toList
     have bT:∃fn,P.funcs[g]?=aa fn/\fn.body.isSome=ab/\(fn.name != "runtime.NumGoroutine")=ab:=by
      by_cases hh:∃fn,P.funcs[g]?=aa fn/\fn.body.isSome=ab/\(fn.name != "runtime.NumGoroutine")=ab
      ·exact hh
      ·exfalso;unfold FD at dC;simp only at dC;split at dC
       ·exact dC
       ·rename_i hfb
        obtain⟨n,hn⟩:=abD (P:=P) (cfg:=cfg) (self:=self) (kx:=λ_ _ _=>.fail 0) (d:=d) (f0:=f0) (dst:=o.dst) (V:={V1 with lv:=V1.lv+1}) (k:=λpv W=>.bad 999999 (W.bO d o.dst pv).n (W.bO d o.dst pv).lv 0 0 (W.bO d o.dst pv).g (W.bO d o.dst pv).l (W.bO d o.dst pv).g (W.bO d o.dst pv).l) (g:=g)
         (da:=ib P d V1 c.args.toList c.argTypes.toList++bs.map λ(p:Nat×Nat)=>.one (.pt p.1 0 p.2)) (λfn h1 h2 h3=>hh ⟨fn,h1,h2,h3⟩)
        rw[hn]at hfb;cases hfb
     obtain⟨fn,bT,hb,lj⟩:=bT;obtain⟨ys,iA,qB⟩:=ki (args:=c.args.toList.map (ax (E d))) oe bT hb lj
     have eh:av P 0 (ax (E d)) o σ=aa (.enter g (c.args.toList.map (ax (E d))++ys)):=by
      simp only[av,ho,hc];exact iA
     obtain⟨_,_,_,_,b,hcw⟩:=abF (RW:=λN v aq=>aq.n<=N/\dp P N rd ops l ((E d).put o.dst v) df aq (CX N)) (PW:=λN v aq=>CX N (.bY v) (E d) aq) hC bf bD (by rw[dJ];exact hn) (by rw[fP];exact hK) (by rw[kj];exact cn) (br.app qB) hd dC (by
      intro H vs R' aL E' ao v LZ C6 aof abO hE' yI bt
      obtain⟨b,hb⟩:=ih (tE sk o.dst) H (ν++vs) K R' aL E' ao (by rw[yI];exact EC.put o.dst _) bt LZ C6 (by rw[aof,fP];exact hK) (by rw[yI,eP,abO,kj];exact cn) (by
       rw[abO,kj];exact eb.fwd (asP K) hE' (by rw[yI,eP])) (by
       rw[abO,kj];exact mQ.fwd (asP K) hE' (by rw[yI,eP]))
      refine⟨max b ao.n,λN hN=>⟨by omega,by omega,?_⟩⟩;have:=hb N (by omega);rw[yI]at this;exact this) (by
      intro t pv V' μ K' R' aL E' ao v hF nb hv bt;obtain⟨b,hb⟩:=mQ t pv V' μ K' R' aL E' ao v (kj▸hF) hv bt;exact⟨b,λN hN=>⟨(hb N hN).1,by rw[<-nb];exact(hb N hN).2⟩⟩)
     exact⟨b,λN hN=>.VF hw eh (hcw N hN) (λv aq hv=>hv) λv aq hv=>hv⟩
    ·exact abL hC bf (ih (tE sk o.dst)) bD (by rw[dJ];exact hn) (by rw[fP];exact hK) (by rw[kj];exact cn) hd (λx=>EC.put o.dst x) (by rw[kj];exact eb) (by rw[kj];exact mQ) hw dC
   have CA:∀(V1:SS),J (au P ν) R φ V1.g V1.l E σ->V1.n=V.n->V1.ln=V.ln->aO o ops (E d)=af->
    (ic P cfg self kx d f0 af ops (FF sk o.dst) l (V1.jE d o.dst) kk).sat P C Q K ν->∃b,∀N,b<=N->dp P N rd ops (o::l) (E d) df σ (CX N):=by
    intro V1 bD dJ Dw hw dC;have J2:(V1.jE d o.dst).ln=V.ln:=by rw[Cw,Dw]
    obtain⟨fP,kj⟩:=ij J2
    obtain⟨b,hb⟩:=ih (FF sk o.dst) (V1.jE d o.dst) ν K R φ _ σ (by rw[cg];exact EC.add hd) dC (Cv (x:=.undef) bD) (by rw[Ey,dJ];exact hn) (by rw[fP];exact hK) (by rw[cg,eP,kj];exact cn) (by
     rw[kj];have:=eb.fwd (zT:=[]) (E1:=qJ E d ((E d).put o.dst .undef)) (asP K) (λj hj=>gE _ _ _ (by omega)) (by rw[cg,eP]);rw[asm]at this;exact this) (by
     rw[kj];have:=mQ.fwd (zT:=[]) (E1:=qJ E d ((E d).put o.dst .undef)) (asP K) (λj hj=>gE _ _ _ (by omega)) (by rw[cg,eP]);rw[asm]at this;exact this)
    refine⟨b,λN hN=>.skip hw ?_⟩;have:=hb N hN;rw[cg]at this;exact this
   obtain⟨w1,w2,w3⟩:=PM (o:=o) hJ cn (ops:=ops)
   have w2':(if mK sk ops o=ab then Want.skip else tB ops d V o)=.skip->aO o ops (E d)=af:=λh=>by
    by_cases hq:mK sk ops o=ab
    ·exact EC.ac2 hq
    ·rw[if_neg hq]at h;exact w2 h
   have w0:∀w,w≠.skip->(if mK sk ops o=ab then Want.skip else tB ops d V o)=w->tB ops d V o=w:=λw hw h=>by
    by_cases hq:mK sk ops o=ab
    ·rw[if_pos hq]at h;exact absurd h.symm hw
    ·rw[if_neg hq]at h;exact h
   split at hs
   ·rename_i hh;exact fJ V hJ rfl rfl (w1 (w0 _ (by simp) hh)) hs
   ·rename_i hh;exact CA V hJ rfl rfl (w2' hh) hs
   ·rename_i t e want hh;replace hh:=w0 _ (by simp) hh;obtain⟨hg,hb⟩:=w3 _ _ _ hh;rcases hs with⟨h1,hs⟩|⟨h1,hs⟩
    ·obtain⟨aE,bD⟩:=J.refine hJ hg h1;have hw:=hb _ aE;cases want
     ·exact CA _ bD rfl rfl (by rw[hw];rfl) hs
     ·exact fJ _ bD rfl rfl (by rw[hw];rfl) hs
    ·obtain⟨aE,bD⟩:=J.refine hJ hg h1;have hw:=hb _ aE;cases want
     ·exact fJ _ bD rfl rfl (by rw[hw];rfl) hs
     ·exact CA _ bD rfl rfl (by rw[hw];rfl) hs
   ·exact hs.elim
end Go.Ev
namespace Go.Ev
variable{P:Program}{N:Nat}{σ ao:St}{R R':Rs}{φ aL:Ph}{E:Nat->Env}{ν:List IV}{ro:Nat}{ι:Io}{w:World}{cfg:bg}{self:nB}
variable{C:Cr}{Q:IV->Prop}{K:List (List IV->Prop)}{V:SS}{d f0:Nat}{o:Oper}{k:PV SE->SS->ak}{L:List (LO SE)}{Γ:Gm SE}{rd:Option Nat}{df:List Df}
variable{fr:Bool}{kx:Kx}{sk:List Nat}{ops:Array Oper}{pl:dR}{l:List (Oper×Nat)}{kk:SS->ak}{CX:Nat->jS}
def NP(fr:Bool)(P:Program)(C:Cr)(Q:IV->Prop)(cfg:bg)(self:nB)(kx:Kx)(d f0:Nat)(ops:Array Oper)(pl:dR)(kk:SS->ak)(CX:Nat->jS)(sk:List Nat)(l:List (Oper×Nat)):Prop:=
 ∀(V:SS) ν K R φ E σ,l8 (E d) sk->(ic P cfg self kx d f0 ab ops sk (l.map auQ) V kk).sat P C Q K ν->J (au P ν) R φ V.g V.l E σ->ν.length=V.n->K.length=V.lv->(E d).n=V.nt->KS P C Q d E K ν V.nt kk (λN e σ=>CX N .normal e σ)->
  ∃e' ao,fZ P 0 ops pl fr l (E d) σ e' ao/\∃b,∀N,b<=N->ao.n<=N/\CX N .normal e' ao
theorem xl(ih:NP fr P C Q cfg self kx d f0 ops pl kk CX sk l){dst:Option Nat}(nc:∀x,l8 ((E d).put dst x) sk)(hd:∀t,dst=aa t->t<(E d).n){nt:Nat}(cn:(E d).n=nt)(eb:KS P C Q d E K ν nt kk (λN e σ=>CX N .normal e σ))
 {V1:SS}{μ:List IV}{R1:Rs}{dA:Ph}{aq:St}{x:IV}{pv:PV SE}
 (hJ:J (au P (ν++μ)) R1 dA V1.g V1.l E aq)(hn:(ν++μ).length=V1.n)(fP:K.length=V1.lv)(kj:V1.nt=nt)
 (hx:VR (au P (ν++μ)) R1 dA V1.l aq x pv)(hs:(ic P cfg self kx d f0 ab ops sk (l.map auQ) (V1.bO d dst pv) kk).sat P C Q K (ν++μ)):
 ∃e' ao,fZ P 0 ops pl fr l ((E d).put dst x) aq e' ao/\∃b,∀N,b<=N->ao.n<=N/\CX N .normal e' ao:=by
 have bD:=Cu (d:=d) (dst:=dst) hJ hx hd;have KR:(V1.bO d dst pv).nt=nt:=by cases dst<;>exact kj
 have abC:(V1.bO d dst pv).lv=V1.lv:=by cases dst<;>rfl
 have:=ih (V1.bO d dst pv) (ν++μ) K R1 dA _ aq (by rw[cg];exact nc x) hs bD (by rw[Ew];exact hn) (by rw[abC];exact fP) (by rw[cg,eP,cn,KR]) (by
  rw[KR];exact eb.fwd (asP K) (λj hj=>by rw[gE _ _ _ (by omega)]) (by rw[cg,eP]))
 rw[cg]at this;exact this
theorem WE(cfg:bg)(g:FuncId):xB (A4 cfg) g=af:=by
 cases h:xB (A4 cfg) g with
 |false=>rfl
 |true=>
  unfold xB A4 at h;simp only[ar4]at h;obtain⟨ai,h⟩:=h;obtain⟨n,hn,hg⟩:=avI.1 h;have:=asb hg;have h2:=(atc.1 hn).2;simp at h2 ai;omega
theorem abP{j:Nat}(hC:jb P C)(hq:∀g,xB cfg g=ab->fr=ab)(ih:NP fr P C Q cfg self kx d f0 ops pl kk CX sk l)(hJ:J (au P ν) R φ V.g V.l E σ)(hn:ν.length=V.n)(hK:K.length=V.lv)(cn:(E d).n=V.nt)
 (hd:∀t,o.dst=aa t->t<(E d).n)(nc:∀x,l8 ((E d).put o.dst x) sk)(eb:KS P C Q d E K ν V.nt kk (λN e σ=>CX N .normal e σ))(hw:aO o ops (E d)=ab)
 (hs:(BL P cfg self kx d f0 ab o V λpv V=>ic P cfg self kx d f0 ab ops sk (l.map auQ) (V.bO d o.dst pv) kk).sat P C Q K ν):
 ∃e' ao,fZ P 0 ops pl fr ((o,j)::l) (E d) σ e' ao/\∃b,∀N,b<=N->ao.n<=N/\CX N .normal e' ao:=by
 have Jf:(fI P d o V λpv V=>ic P cfg self kx d f0 ab ops sk (l.map auQ) (V.bO d o.dst pv) kk).sat P C Q K ν->∃e' ao,fZ P 0 ops pl fr ((o,j)::l) (E d) σ e' ao/\∃b,∀N,b<=N->ao.n<=N/\CX N .normal e' ao:=by
  intro hs;obtain⟨x,aq,R1,dA,pv,V1,μ,h1,h2,h3,h4,h5,h6⟩:=YA hJ hn hs;obtain⟨e',ao,g1,g2⟩:=xl ih nc hd cn eb h2 h4 (by rw[(ij h5).1];exact hK) (ij h5).2 h3 h6;exact⟨e',ao,.val hw h1 g1,g2⟩
 unfold BL at hs;simp only[if_true,au0,aw5,asA,if_false]at hs;unfold ID at hs;split at hs
 ·rename_i c ho;unfold VS at hs;split at hs
  ·exact Jf hs
  ·rename_i f hc;split at hs<;>first|(exact hs.elim)|skip
   rename_i g bs hf;simp only at hs;split at hs
   ·split at hs
    ·simp only[au0,aw5,asA,if_false]at hs;exact hs.elim
    ·exact hs.elim
   split at hs
   ·rename_i hp;simp only[ar4,ate]at hp;obtain⟨gk,uj⟩:=hp;subst gk
    have aog:∃(args:List IV) (v:IV) (aq:St) (R1:Rs) (dA:Ph) (pv:PV SE) (V1:SS) (μ:List IV),av P 0 (ax (E d)) o σ=aa (.enter g args)/\(∀ro,gJ P ro g args σ v aq)/\(aq=σ\/∃ob,aq=σ.add ob)/\J (au P (ν++μ)) R1 dA V1.g V1.l E aq/\VR (au P (ν++μ)) R1 dA V1.l aq v pv/\(ν++μ).length=V1.n/\V1.ln=V.ln/\
     (ic P cfg self kx d f0 ab ops sk (l.map auQ) (V1.bO d o.dst pv) kk).sat P C Q K (ν++μ):=by
     split at hs
     ·exact Mj hC hJ hn ‹_› ho hc hf hs
     ·exact Mi hC hJ hn ho hc hf hs
    obtain⟨args,v,aq,R1,dA,pv,V1,μ,eh,qz,s5,g1,g2,g3,g4,g5⟩:=aog;obtain⟨e',ao,r1,r2⟩:=xl ih nc hd cn eb g1 g3 (by rw[(ij g4).1];exact hK) (ij g4).2 g2 g5;rcases s5 with rfl|⟨ob,rfl⟩
    ·exact⟨e',ao,.Ir hw eh qz r1,r2⟩
    ·exact⟨e',ao,.VC (hq g uj) hw eh qz r1,r2⟩
   split at hs
   ·rename_i hp;simp only[ar4,ate]at hp;have gk:=hp.1;subst gk;obtain⟨args,v,aq,R1,dA,pv,V1,μ,eh,qz,rfl,g1,g2,g3,g4,g5⟩:=PL hC hJ hn ho hc hf hs;obtain⟨e',ao,r1,r2⟩:=xl ih nc hd cn eb g1 g3 (by rw[(ij g4).1];exact hK) (ij g4).2 g2 g5;exact⟨e',ao,.Ir hw eh qz r1,r2⟩
   split at hs
   ·split at hs<;>exact hs.elim
   split at hs
   ·rename_i hp;simp only[ar4,ate]at hp;have gk:=hp.1;subst gk;split at hs<;>first|(exact hs.elim)|skip
    rename_i zs V' fn hr bT;split at hs<;>first|(exact hs.elim)|skip
    rename_i bP;simp only[ar4]at bP;obtain⟨g',args,z,R1,pv,V1,μ,h1,h2,h3,h4,h5,h6,h7⟩:=PK hC hJ hn ho hc hf hr bT bP.1.2 bP.2 bP.1.1 hs;obtain⟨e',ao,g1,g2⟩:=xl ih nc hd cn eb h3 h5 (by rw[(ij h6).1];exact hK) (ij h6).2 h4 h7;exact⟨e',ao,.Ir hw h1 h2 g1,g2⟩
   ·exact hs.elim
  ·exact hs.elim
 ·exact Jf hs
theorem ED(hC:jb P C)(hq:∀g,xB cfg g=ab->fr=ab):∀(l:List (Oper×Nat)) (sk:List Nat),NP fr P C Q cfg self kx d f0 ops pl kk CX sk l
 |[],sk=>by
  intro V ν K R φ E σ _ hs hJ hn hK cn eb;exact⟨E d,σ,.nil _ _,eb.now hJ hn hK hs⟩
 |(o,j)::l,sk=>by
  intro V ν K R φ E σ EC hs hJ hn hK cn eb;have ih:∀sk,NP fr P C Q cfg self kx d f0 ops pl kk CX sk l:=λsk=>ED hC hq l sk;simp only[asZ,ic,if_true]at hs
  have YQ:∀t,o.dst=aa t->t<V.nt:=by
   intro t ht;rw[ht]at hs;by_cases ai:t<V.nt
   ·exact ai
   ·have:as7 t V.nt=af:=by
     cases h:as7 t V.nt
     ·rfl
     ·exact absurd (by simpa using h) ai
    simp only[this,aw4,if_true]at hs;exact hs.elim
  rw[if_neg]at hs
  rotate_left
  ·cases hh:o.dst with
   |none=>simp
   |some t=>simp[YQ t hh]
  ·have hd:∀t,o.dst=aa t->t<(E d).n:=by rw[cn];exact YQ
   have fJ:∀(V1:SS),J (au P ν) R φ V1.g V1.l E σ->V1.n=V.n->V1.ln=V.ln->aO o ops (E d)=ab->
    (match yn P cfg d ab o V1 with
     |some (g,args)=>FD P cfg self kx d f0 o.dst g args V1 λV=>ic P cfg self kx d f0 ab ops (tE sk o.dst) (l.map auQ) V kk
     |none=>BL P cfg self kx d f0 ab o V1 λpv V=>ic P cfg self kx d f0 ab ops (tE sk o.dst) (l.map auQ) (V.bO d o.dst pv) kk).sat P C Q K ν->
    ∃e' ao,fZ P 0 ops pl fr ((o,j)::l) (E d) σ e' ao/\∃b,∀N,b<=N->ao.n<=N/\CX N .normal e' ao:=by
    intro V1 bD dJ Dw hw dC;obtain⟨fP,kj⟩:=ij Dw;have:yn P cfg d ab o V1=ah:=by simp[yn]
    rw[this]at dC;exact abP hC hq (ih (tE sk o.dst)) bD (by rw[dJ];exact hn) (by rw[fP];exact hK) (by rw[kj];exact cn) hd (λx=>EC.put o.dst x) (by rw[kj];exact eb) hw dC
   have CA:∀(V1:SS),J (au P ν) R φ V1.g V1.l E σ->V1.n=V.n->V1.ln=V.ln->aO o ops (E d)=af->
    (ic P cfg self kx d f0 ab ops (FF sk o.dst) (l.map auQ) (V1.jE d o.dst) kk).sat P C Q K ν->∃e' ao,fZ P 0 ops pl fr ((o,j)::l) (E d) σ e' ao/\∃b,∀N,b<=N->ao.n<=N/\CX N .normal e' ao:=by
    intro V1 bD dJ Dw hw dC;have J2:(V1.jE d o.dst).ln=V.ln:=by rw[Cw,Dw]
    obtain⟨fP,kj⟩:=ij J2
    obtain⟨e',ao,g1,g2⟩:=ih (FF sk o.dst) (V1.jE d o.dst) ν K R φ _ σ (by rw[cg];exact EC.add hd) dC (Cv (x:=.undef) bD) (by rw[Ey,dJ];exact hn) (by rw[fP];exact hK) (by rw[cg,eP,kj];exact cn) (by
     rw[kj];have:=eb.fwd (zT:=[]) (E1:=qJ E d ((E d).put o.dst .undef)) (asP K) (λj hj=>gE _ _ _ (by omega)) (by rw[cg,eP]);rw[asm]at this;exact this)
    rw[cg]at g1;exact⟨e',ao,.skip hw g1,g2⟩
   obtain⟨w1,w2,w3⟩:=PM (o:=o) hJ cn (ops:=ops)
   have w2':(if mK sk ops o=ab then Want.skip else tB ops d V o)=.skip->aO o ops (E d)=af:=λh=>by
    by_cases hq:mK sk ops o=ab
    ·exact EC.ac2 hq
    ·rw[if_neg hq]at h;exact w2 h
   have w0:∀w,w≠.skip->(if mK sk ops o=ab then Want.skip else tB ops d V o)=w->tB ops d V o=w:=λw hw h=>by
    by_cases hq:mK sk ops o=ab
    ·rw[if_pos hq]at h;exact absurd h.symm hw
    ·rw[if_neg hq]at h;exact h
   split at hs
   ·rename_i hh;exact fJ V hJ rfl rfl (w1 (w0 _ (by simp) hh)) hs
   ·rename_i hh;exact CA V hJ rfl rfl (w2' hh) hs
   ·rename_i t e want hh;replace hh:=w0 _ (by simp) hh;obtain⟨hg,hb⟩:=w3 _ _ _ hh;rcases hs with⟨h1,hs⟩|⟨h1,hs⟩
    ·obtain⟨aE,bD⟩:=J.refine hJ hg h1;have hw:=hb _ aE;cases want
     ·exact CA _ bD rfl rfl (by rw[hw];rfl) hs
     ·exact fJ _ bD rfl rfl (by rw[hw];rfl) hs
    ·obtain⟨aE,bD⟩:=J.refine hJ hg h1;have hw:=hb _ aE;cases want
     ·exact fJ _ bD rfl rfl (by rw[hw];rfl) hs
     ·exact CA _ bD rfl rfl (by rw[hw];rfl) hs
   ·exact hs.elim
theorem aeE(hJ:J (au P ν) R φ V.g V.l E σ)(cn:(E d).n=V.nt):lW σ.n (E d) (Eh d V):=by
 refine⟨cn,λt ht=>?_,λt ht=>by cases ht⟩;unfold wj Eh at ht;rw[avI]at ht;obtain⟨t',ht',hb⟩:=ht;have:=asb hb;subst this;have h2:=(atc.1 ht').2;split at h2
 ·rename_i k off ext hg;obtain⟨id,cs,h3,_,h5⟩:=hJ.slot d t _ hg;exact .inl ⟨id,off,0,ext,h5,(hJ.lt k id h3).2⟩
 ·rename_i cs hg;obtain⟨ds,h3,_⟩:=hJ.slot d t _ hg;exact .inr (.inl ⟨ds,h3⟩)
 ·cases h2
theorem abQ(hJ:J (au P ν) R φ V.g V.l E σ){ops:Array Oper}:tx P ops φ (E d) σ (Eh d V):=by
 refine⟨λt h ht=>?_,λi a d h hm=>by cases hm⟩;obtain⟨⟨d',t',pv⟩,_,h2⟩:=List.mem_filterMap.1 (show(t,h)∈V.g.filterMap _ from ht);simp only at h2;split at h2<;>first|(cases h2;done)|skip
 split at h2<;>first|(cases h2;done)|skip
 rename_i k off ext hg;cases h2;obtain⟨id,cs,h3,_,h5⟩:=hJ.slot d _ _ hg;exact⟨id,off,0,ext,h3,h5⟩
theorem abR(eW:P.follows .mixedOrders=ab)(hC:jb P C){fn:FuncId}{id:Nat}(nW:((dx ops).ok&&(Ft ops (dx ops)||mI P (dx ops) ops.toList.zipIdx (Eh d V)))=ab)(hs:(ic P (if mI P (dx ops) ops.toList.zipIdx (Eh d V)then cfg else A4 cfg) self kx d f0 ab ops [] ops.toList V kk).sat P C Q K ν)
 (hJ:J (au P ν) R φ V.g V.l E σ)(hn:ν.length=V.n)(hK:K.length=V.lv)(cn:(E d).n=V.nt)(eb:KS P C Q d E K ν V.nt kk (λN e σ=>CX N .normal e σ)):
 ∃b,∀N,b<=N->dF P N rd (.region id ops ab) (E d) df σ (CX N):=by
 simp only[ar4,asL]at nW;have aT:ops.toList.zipIdx.map (·.1)=ops.toList:=by simp
 by_cases hq:mI P (dx ops) ops.toList.zipIdx (Eh d V)=ab
 ·rw[if_pos hq]at hs;obtain⟨e',ao,h1,b,hb⟩:=ED (fr:=ab) (pl:=dx ops) (CX:=CX) hC (λ_ _=>rfl) ops.toList.zipIdx [] V ν K R φ E σ (l8.nil _) (by rw[aT];exact hs) hJ hn hK cn eb;exact⟨b,λN hN=>dF.Iw (fn:=fn) (fC.ajo eW nW.1 hq (aeE hJ cn) hJ.inj (abQ hJ) hJ.wf h1) rfl (hb N hN).1 (hb N hN).2⟩
 ·rw[if_neg hq]at hs;obtain⟨e',ao,h1,b,hb⟩:=ED (fr:=af) (pl:=dx ops) (CX:=CX) hC (λg hg=>by rw[WE]at hg;cases hg) ops.toList.zipIdx [] V ν K R φ E σ (l8.nil _) (by rw[aT];exact hs) hJ hn hK cn eb;rcases nW.2 with vS|vS
  ·exact⟨b,λN hN=>dF.Iw (fn:=fn) (fC.draw eW nW.1 vS hJ.wf h1) rfl (hb N hN).1 (hb N hN).2⟩
  ·exact absurd vS hq
end Go.Ev
