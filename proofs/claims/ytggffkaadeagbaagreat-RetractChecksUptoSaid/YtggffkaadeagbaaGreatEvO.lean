/- Lemmas over the model, without conditions of their own: code on expressions is sound (1). -/
import Derived.Test.YtggffkaadeagbaaGreatEvN
open Nat renaming le_refl->aqK,eq_of_beq_eq_true->aqO,blt->arH
open List renaming getElem?_append_left->aqQ,append_assoc->aq4,getElem?_set_ne->atK,all_eq_true->aqW,mem_of_getElem?->aqS,getElem?_eq_some_iff->aqF,getElem?_map->aqU,getElem?_range->atk,getElem?_eq_getElem->aqE,map_cons->arC,nodup_cons->auo,length_map->ar8,prefix_refl->ars,append_nil->aqY,isEmpty_iff->arP,eq_nil_of_length_eq_zero->arf,any_eq_true->aum,mem_filter->arN
open Option renaming map_eq_some_iff->aqL,bind_some->aqN,bind_eq_some_iff->aqZ,map_some->aq9
open Option.some renaming injEq->aqH
open Bool renaming and_eq_true->aqG,not_eq_true'->aru,or_eq_true->arl,false_eq_true->ara,not_false->avH,not_true->atA,false_and->avI
open Prod.mk renaming injEq->aq6
open Array renaming getElem?_eq_some_iff->arA
open Go.Op renaming equal->atO,equalIn->ar3
open Classical renaming propDecidable->awl
open List.cons renaming injEq->arF
open Prod renaming fst->atp
set_option linter.all false
namespace Go.Ev
variable{P:Program}{N:Nat}{σ ah:St}{R R':Rs}{φ aG:Ph}{E:Nat→Env}{ν qc vs:List IV}{V:SS}{d t:Nat}
theorem J.Pb{Γ:Gm SE}{L:List (LO SE)}(hJ:J (aj P ν) R φ Γ L E σ){pv:PV SE}(h:VR (aj P ν) R φ L σ ((E d).at t) pv):J (aj P ν) R φ (N_ d t pv Γ) L E σ:=by
 refine{hJ with slot:=fun d' t' Co DW=>?_};rcases mL DW with⟨rfl,rfl,rfl⟩|⟨_,h3⟩
 ·exact h
 ·exact hJ.slot d' t' Co (GB Γ h3).2
theorem VG(hJ:J (aj P ν) R φ V.g V.l E σ)(d t:Nat):∃R',J (aj P ν) R' φ (wI d t V).g (wI d t V).l E σ∧(wI d t V).n=V.n∧(wI d t V).ln=V.ln:=by
 unfold wI;split
 ·rename_i k hg;split
  ·rename_i s st cut fr es hk;obtain⟨R',h1,h2,h3⟩:=FZ hJ k;have hv:=hJ.slot d t _ hg;have SP:cz (aj P ν) R' φ (oT k V).l σ ((E d).at t) (.sr k):=h1.Lf hv;obtain⟨y,a1,a2,a3⟩:=OA h2 (h3 _ _ _ _ _ hk) SP;refine⟨R',h2.Pb (pv:=.one (.w fr es)) ⟨y,a1,a2,a3⟩,?_,?_⟩
   ·rw[DU];exact h1.2.1
   ·rw[VF];exact h1.2.2.1
  ·exact⟨R,hJ,rfl,rfl⟩
 ·exact⟨R,hJ,rfl,rfl⟩
theorem yW:∀(ws:List (Nat×Nat×Nat)) {V:SS} {R:Rs},J (aj P ν) R φ V.g V.l E σ→∃R',J (aj P ν) R' φ (settle ws V).g (settle ws V).l E σ∧(settle ws V).n=V.n∧(settle ws V).ln=V.ln
 |[],V,R,hJ=>⟨R,hJ,rfl,rfl⟩
 |(d,t,m)::ws,V,R,hJ=>by
  simp only[settle];split
  ·obtain⟨R1,h1,h2,h3⟩:=VG hJ d t;obtain⟨R2,h4,h5,h6⟩:=yW ws h1;exact⟨R2,h4,h5.trans h2,h6.trans h3⟩
  ·exact yW ws hJ
theorem Pc{L:List (LO SE)}{Γ:Gm SE}(hJ:J (aj P ν) R φ Γ L E σ){x:IV}{b:Bool}{s:Nat}(hx:cz (aj P ν) R φ L σ x (.nl b s)):
 J (aj P ν) R φ Γ (L++[.row s false false false (.tr s .an)]) E σ∧jZ (aj P ν) (aj P ν) R φ L σ R φ (L++[.row s false false false (.tr s .an)]) σ (fun _=>False)∧cz (aj P ν) R φ (L++[.row s false false false (.tr s .an)]) σ x (.sr L.length):=by
 obtain⟨hs,hx⟩:=hx;have hz:(SE.tr s .an).den P ν=some (.tree s []):=by simp[SE.den,hs]
 obtain⟨h1,h2⟩:=hJ.Aa (fr:=false) hs hz;exact⟨h2,h1,s,false,false,false,_,[],by simp,hz,.inl ⟨wL hJ (aqK _),rfl,by subst hx;cases b<;>simp⟩⟩
theorem All2.set{α β:Type}{r:α→β→Prop}:∀{as:List α} {bs:List β} {i:Nat} {b:β},All2 r as bs→(∀a,as[i]?=some a→r a b)→All2 r as (bs.set i b)
 |[],[],i,b,_,_=>by simp;trivial
 |a::as,b'::bs,i,b,h,hr=>by
  cases i with
  |zero=>exact⟨hr a rfl,h.2⟩
  |succ i=>exact⟨h.1,All2.set h.2 fun a ha=>hr a (by simpa using ha)⟩
 |[],_::_,_,_,h,_=>h.elim
 |_::_,[],_,_,h,_=>h.elim
theorem XT(hJ:J (aj P ν) R φ V.g V.l E σ)(d t j:Nat):J (aj P ν) R φ (zV d t j V).g (zV d t j V).l E σ∧(zV d t j V).n=V.n∧(zV d t j V).ln=V.ln:=by
 unfold zV;split
 ·rename_i b s hg;split
  ·obtain⟨h1,_,h2⟩:=Pc hJ (x:=(E d).at t) (b:=b) (s:=s) (hJ.slot d t _ hg);exact⟨h1.Pb (pv:=.one (.sr V.l.length)) h2,rfl,rfl⟩
  ·exact⟨hJ,rfl,rfl⟩
 ·rename_i cs hg;split
  ·rename_i b s hc;obtain⟨xs,xZ,vH⟩:=hJ.slot d t _ hg;obtain⟨x,hx,hr⟩:=vH.zj hc;obtain⟨h1,h3,h2⟩:=Pc hJ hr;refine⟨h1.Pb (pv:=.ag _) ⟨xs,xZ,(vH.mono fun _ _ bT=>bT.step h3 (Cl.aU _)).set fun a ha=>?_⟩,rfl,rfl⟩;rw[hx]at ha;cases ha;exact h2
  ·exact⟨hJ,rfl,rfl⟩
 ·exact⟨hJ,rfl,rfl⟩
theorem XU(hJ:J (aj P ν) R φ V.g V.l E σ)(k j:Nat):J (aj P ν) R φ (zW k j V).g (zW k j V).l E σ∧(zW k j V).n=V.n∧(zW k j V).ln=V.ln:=by
 unfold zW;split
 ·rename_i cs hk;split
  ·rename_i b s hc;obtain⟨id,cA,g1,g2,g3,g4⟩:=hJ.obj k _ hk;obtain⟨x,hx,hr⟩:=g4.zj hc;obtain⟨h1,h3,h2⟩:=Pc hJ hr;have ot:=c7 hk;have mK:(V.l++[LO.row s false false false (SE.tr s SE.an)])[k]?=some (.var cs):=by rw[aqQ ot];exact hk
   obtain⟨dw,bz⟩:=h1.sK (R':=R) (bad:=fun _=>False) (jK:=.var (cs.set j (.sr V.l.length))) (eE:=.cells cA 0 0) g1 mK (fun _ _=>rfl)
    (fun m hm=>by rw[g2]at hm;cases hm) (fun m _ _ _ hm=>by rw[g2]at hm;cases hm) (fun m _ _ _ hm=>by rw[g2]at hm;cases hm)
    (fun _ _=>⟨_,rfl⟩) (fun _ _ h=>by cases h) (fun _ _ _ _ _ h=>by cases h) (fun _ _ pv _=>pv.aU) (fun _ o _ _=>o.aU)
    (fun dw=>⟨id,cA,g1,g2,by rw[St.cS,if_pos rfl],((g4.mono fun _ _ bT=>bT.step h3 (Cl.aU _)).set fun a ha=>by rw[hx]at ha;cases ha;exact h2).mono fun _ _ bT=>bT.step dw (Cl.aU _)⟩)
   have HJ:σ.put id (.cells cA 0 0)=σ:=by
    unfold St.put
    have:σ.t.set id (.cells cA 0 0)=σ.t:=T.WF.ext (hJ.wf.set _ _) hJ.wf fun i=>by
     rw[T.fQ];split
     ·rename_i hh;subst hh;exact g3.symm
     ·rfl
    rw[this]
   rw[HJ]at bz
   have rz:(V.l++[LO.row s false false false (SE.tr s SE.an)]).set k (LO.var (cs.set j (Cl.sr V.l.length)))=V.l.set k (LO.var (cs.set j (Cl.sr V.l.length)))++[LO.row s false false false (SE.tr s SE.an)]:=by
    rw[List.set_append_left _ _ ot]
   rw[rz]at bz;exact⟨bz,rfl,rfl⟩
  ·exact⟨hJ,rfl,rfl⟩
 ·exact⟨hJ,rfl,rfl⟩
theorem BH(h:Hint):∀(l:List (Nat×Nat×Nat)) {V:SS},J (aj P ν) R φ V.g V.l E σ→J (aj P ν) R φ (tX h l V).g (tX h l V).l E σ∧(tX h l V).n=V.n∧(tX h l V).ln=V.ln
 |[],V,hJ=>⟨hJ,rfl,rfl⟩
 |(d,t,j)::l,V,hJ=>by
  simp only[tX];split
  ·obtain⟨h1,h2,h3⟩:=XT hJ d t j;obtain⟨h4,h5,h6⟩:=BH h l h1;exact⟨h4,h5.trans h2,h6.trans h3⟩
  ·exact BH h l hJ
theorem Iz:∀(l:List (Nat×Nat)) {V:SS},J (aj P ν) R φ V.g V.l E σ→J (aj P ν) R φ (tY l V).g (tY l V).l E σ∧(tY l V).n=V.n∧(tY l V).ln=V.ln
 |[],V,hJ=>⟨hJ,rfl,rfl⟩
 |(k,j)::l,V,hJ=>by
  simp only[tY];obtain⟨h1,h2,h3⟩:=XU hJ k j;obtain⟨h4,h5,h6⟩:=Iz l h1;exact⟨h4,h5.trans h2,h6.trans h3⟩
theorem Pd(h:Hint)(hJ:J (aj P ν) R φ V.g V.l E σ):∃R',J (aj P ν) R' φ (tZ h (settle h.xp V)).g (tZ h (settle h.xp V)).l E σ∧(tZ h (settle h.xp V)).n=V.n∧(tZ h (settle h.xp V)).ln=V.ln:=by
 obtain⟨R',h1,h2,h3⟩:=yW h.xp hJ;obtain⟨h4,h5,h6⟩:=BH h h.HT.reverse h1;obtain⟨h7,h8,h9⟩:=Iz h.xo.reverse h4;exact⟨R',h7,h8.trans (h5.trans h2),h9.trans (h6.trans h3)⟩
end Go.Ev
namespace Go.Ev
variable{P:Program}{N:Nat}{σ ah:St}{R R':Rs}{φ aG:Ph}{E:Nat→Env}{ν:List IV}{ro:Nat}{ι:Io}{w:World}{cfg:bj}{self:mZ}
variable{C:Cr}{Q:IV→Prop}{K:List (List IV→Prop)}{V:SS}{d f0:Nat}{o:Oper}{k:PV SE→SS→ab}{L:List (LO SE)}{Γ:Gm SE}
theorem IA{g:FuncId}{bs:List (Nat×Nat)}{args:List (PV SE)}{t:TypeId}{c:FuncId}{tM:List (Nat×Nat)}(h:EU cfg g bs args=some (t,c,tM)):bs=[]∧args=[.one (.fn c tM)]∧guardOf cfg g=some t:=by
 unfold EU at h;split at h
 ·rw[aqL]at h;obtain⟨t',h1,h2⟩:=h;cases h2;exact⟨rfl,rfl,h1⟩
 ·cases h
theorem DY{j:Nat}(h:Dv d V=some j):ct d 2 V.g=some (.one (.pt j 0 1))∧V.l[j]?=some (.var [.v (.i 0)]):=by
 unfold Dv at h;split at h
 ·rename_i j' hg;split at h
  ·rename_i z hj;split at h
   ·rename_i hz;cases h;have:z=0:=by simpa using hz
    subst this;exact⟨hg,hj⟩
   ·cases h
  ·cases h
 ·cases h
theorem Pe(hJ:J (aj P ν) R φ V.g V.l E σ){j:Nat}(h:Dv d V=some j){qv:Nat}(he:(E d).at 2=.ptr qv 0 0 1):φ j=some qv∧R qv=none∧σ.at qv=some (.cells [.int 0] 0 0):=by
 obtain⟨hg,hj⟩:=DY h;obtain⟨id,cs,h1,h2,h3⟩:=hJ.slot d 2 _ hg;obtain⟨br,cA,h4,h5,h6,h7⟩:=hJ.obj j _ hj;rw[he]at h3;have hid:id=qv:=by injection h3 with e;exact e.symm
 subst hid;rw[h1]at h4;cases h4;refine⟨h1,h5,?_⟩;rw[h6]
 match cA,h7 with
 |[x],h7=>
  obtain⟨y,h8,h9,_⟩:=h7.1;simp only[aj,SE.den,aqH]at h8;subst h8;rw[bV h9]
theorem J.XV(hJ:J (aj P ν) R φ Γ L E σ){j id:Nat}{cs cq:List (Cl SE)}{cA:List IV}(h1:φ j=some id)(hj:L[j]?=some (.var cs))(h2:R id=none)(hc:All2 (cz (aj P ν) R φ L σ) cA cq):
 J (aj P ν) R φ Γ (L.set j (.var cq)) E (σ.put id (.cells cA 0 0))∧jZ (aj P ν) (aj P ν) R φ L σ R φ (L.set j (.var cq)) (σ.put id (.cells cA 0 0)) (fun _=>False):=by
 obtain⟨dw,bz⟩:=hJ.sK (R':=R) (bad:=fun _=>False) (jK:=.var cq) (eE:=.cells cA 0 0) h1 hj (fun _ _=>rfl)
  (fun m hm=>by rw[h2]at hm;cases hm) (fun m _ _ _ hm=>by rw[h2]at hm;cases hm) (fun m _ _ _ hm=>by rw[h2]at hm;cases hm)
  (fun _ _=>⟨_,rfl⟩) (fun _ _ h=>by cases h) (fun _ _ _ _ _ h=>by cases h) (fun _ _ pv _=>pv.aU) (fun _ o _ _=>o.aU)
  (fun dw=>⟨id,_,h1,h2,by rw[St.cS,if_pos rfl],hc.mono fun _ _ bT=>bT.step dw (Cl.aU _)⟩)
 exact⟨bz,dw⟩
theorem J.adD(hJ:J (aj P ν) R φ Γ L E σ)(ob eE:Ob):J (aj P ν) R (bQ φ L.length σ.n) Γ ((L++[LO.dead]).set L.length LO.dead) E ((σ.add ob).put σ.n eE)∧
 jZ (aj P ν) (aj P ν) R φ L σ R (bQ φ L.length σ.n) (L++[LO.dead]) (σ.add ob) (fun _=>False)∧
 jZ (aj P ν) (aj P ν) R (bQ φ L.length σ.n) (L++[LO.dead]) (σ.add ob) R (bQ φ L.length σ.n) ((L++[LO.dead]).set L.length LO.dead) ((σ.add ob).put σ.n eE) (fun _=>False):=by
 have hs:=EN hJ ob .dead;have bz:=hJ.xm ob .dead trivial;have hn:=hJ.qF
 obtain⟨dE,eQ⟩:=bz.sK (k:=L.length) (id:=σ.n) (lo:=.dead) (R':=R) (bad:=fun _=>False) (jK:=.dead) (eE:=eE) (by simp[bQ]) (by simp) (fun _ _=>rfl)
  (fun m hm=>by rw[hn]at hm;cases hm) (fun m _ _ _ hm=>by rw[hn]at hm;cases hm) (fun m _ _ _ hm=>by rw[hn]at hm;cases hm)
  (fun _ h=>by cases h) (fun _ _ h=>by cases h) (fun _ _ _ _ _ h=>by cases h) (fun _ _ pv _=>pv.aU) (fun _ o _ _=>o.aU) (fun _=>trivial)
 exact⟨eQ,hs,dE⟩
theorem LJ(hC:iP P C)(aW:oE P C Q self)(hJ:J (aj P ν) R φ V.g V.l E σ)(hn:ν.length=V.n)(hK:K.length=V.lv)(cb:(E d).n=V.nt){g c:FuncId}{t:TypeId}{dst:Option Nat}{tM:List (Nat×Nat)}{cl:IV}(hg:g<P.funcs.size)
 (dU:VR (aj P ν) R φ V.l σ cl (.one (.fn c tM)))(hs:(HX P cfg self d f0 dst g t c tM V k).sat P C Q K ν){RW:Nat→IV→St→Prop}
 (hk:∀(pv:PV SE) (V':SS) μ K' R' aG E' ah v,vi P d E K ν V.nt V' μ K' R' aG E' ah→E' d=E d→VR (aj P (ν++μ)) R' aG V'.l ah v pv→(k pv V').sat P C Q K' (ν++μ)→∃b,∀N,b≤N→ah.n≤N∧RW N v ah):
 ∃b,∀N,b≤N→dF P N g [cl] σ (RW N):=by
 unfold HX at hs;obtain⟨xs,z,hx,hc,hs⟩:=hs;obtain⟨t',rfl,am0⟩:=(hC _ _ _ _ hc).2.2.2.1 g hg rfl
 have htt:t'=t:=by
  unfold ir at hx;simp[dO,SE.den]at hx;omega
 subst htt;have hJu:J (aj P (ν++[z])) R φ V.g V.l E σ:=hJ.up fun e z h=>SE.cR P e h;have am1:VR (aj P (ν++[z])) R φ V.l σ cl (.one (.fn c tM)):=dU;have iz:All2 (cz (aj P (ν++[z])) R φ V.l σ) [.int 0] [.v (.i 0)]:=⟨⟨.int 0,rfl,.raw _,rfl⟩,trivial⟩;have bA:=EN hJu (.cells [.int 0] 0 0) (.var [.v (.i 0)])
 have bz:J (aj P (ν++[z])) R (bQ φ V.l.length σ.n) V.g (V.l++[.var [.v (.i 0)]]) E (σ.add (.cells [.int 0] 0 0)):=
  hJu.xm _ _ ⟨σ.n,[.int 0],by simp[bQ],hJu.qF,by simp,iz.mono fun _ _ bT=>bT.step bA (Cl.aU _)⟩
 have hpt:VR (aj P (ν++[z])) R (bQ φ V.l.length σ.n) (V.l++[.var [.v (.i 0)]]) (σ.add (.cells [.int 0] 0 0)) (.ptr σ.n 0 0 1) (.one (.pt V.l.length 0 1)):=⟨σ.n,[.v (.i 0)],by simp[bQ],by simp,rfl⟩;have aaK:VR (aj P (ν++[z])) R (bQ φ V.l.length σ.n) (V.l++[.var [.v (.i 0)]]) (σ.add (.cells [.int 0] 0 0)) cl (.one (.fn c tM)):=am1.step bA (PV.aU _)
 let e1:Env:=(⟨3,.lf⟩:Env).put (some 2) (.ptr σ.n 0 0 1)
 have l5:e1.at 2=.ptr σ.n 0 0 1:=dH (by decide);have am2:e1.n=3:=eK ..
 have eQ:J (aj P (ν++[z])) R (bQ φ V.l.length σ.n) ((d+1,2,.one (.pt V.l.length 0 1))::jt (d+1) V.g) (V.l++[.var [.v (.i 0)]]) (qn E (d+1) e1) (σ.add (.cells [.int 0] 0 0)):=by
  refine{bz with slot:=fun d' t pv DW=>?_};rcases mL DW with⟨rfl,rfl,rfl⟩|⟨aT,DW⟩
  ·rw[bY,l5];exact hpt
  ·obtain⟨h1,h2⟩:=tC DW;rw[gr _ _ _ h1];exact bz.slot d' t pv h2
 have bO:∃fn,P.funcs[c]?=some fn∧fn.body.isSome=true∧(fn.name != "runtime.NumGoroutine")=true:=by
  unfold rP at hs;split at hs<;>first|(exact hs.elim)|skip
  rename_i fn bO;split at hs<;>first|(exact hs.elim)|skip
  rename_i body hb;split at hs<;>first|(exact hs.elim)|skip
  split at hs<;>first|(exact hs.elim)|skip
  rename_i lZ;simp only[aqG]at lZ;exact⟨fn,bO,by simp[hb],lZ.2⟩
 obtain⟨fn,bO,hb,kR⟩:=bO;obtain⟨ys,ij,qb⟩:=jT (args:=[]) aaK bO hb kR;rw[List.nil_append]at ij
 obtain⟨_,_,_,_,b,hcx⟩:=BG (d:=d+1) (V:={V with n:=V.n+1,l:=V.l++[.var [.v (.i 0)]],g:=(d+1,2,.one (.pt V.l.length 0 1))::jt (d+1) V.g,nt:=3}) (ν:=ν++[z]) (E:=qn E (d+1) e1)
  (RW:=fun N _ dc=>dc.at σ.n=some (.cells [.int 0] 0 0)∧dc.n≤N∧RW N (.int 0) (dc.put σ.n (.cells [.int 0] 0 0)))
  (PW:=fun N v dc=>∃u,v=.da t' (.agg [.raw u])∧af (.raw u)=true∧dc.at σ.n=some (.cells [.int 0] 0 0)∧dc.n+1≤N∧σ.n<dc.n∧RW N (.raw u) (wH dc σ.n (.raw u)))
  aW eQ (by simp[hn]) hK (by rw[bY,am2]) qb hs (by
   intro pv V' μ K' R' aG E' ah v hf mN hv bf;split at bf<;>first|(exact bf.elim)|skip
   rename_i j hj;have Pf:(E' (d+1)).at 2=.ptr σ.n 0 0 1:=by rw[mN,bY,l5]
   obtain⟨h1,h2,h3⟩:=Pe hf.hJ hj Pf;obtain⟨_,Ci⟩:=DY hj;obtain⟨tN,_⟩:=hf.hJ.XV h1 Ci h2 (cA:=[.int 0]) (cq:=[.v (.i 0)]) ⟨⟨.int 0,rfl,.raw _,rfl⟩,trivial⟩;have xK:E' d=E d:=by rw[hf.hE d (by omega),gr _ _ _ (by omega)]
   obtain⟨b,hb⟩:=hk (.one (.v (.i 0))) {V' with g:=jt (d+1) V'.g,nt:=V.nt,l:=V'.l.set j (.var [.v (.i 0)])} ([z]++μ) K' R' aG E' (ah.put σ.n (.cells [.int 0] 0 0)) (.int 0)
    ⟨hf.hK,hf.fK,rfl,by rw[←aq4];exact yS (V:={V' with l:=V'.l.set j (.var [.v (.i 0)])}) tN (d+1),by rw[←aq4];exact hf.hn,fun i hi=>by rw[hf.hE i (by omega),gr _ _ _ (by omega)],by rw[xK]⟩ xK
    (by rw[←aq4];exact⟨.int 0,rfl,.raw _,rfl⟩) (by rw[←aq4];exact bf)
   exact⟨max b ah.n,fun N hN=>⟨by omega,h3,by omega,(hb N (by omega)).2⟩⟩) (by
   intro tt pv V' μ K' R' aG E' ah v hf mN hv bf;split at bf<;>first|(exact bf.elim)|skip
   rename_i e j hj;split at bf<;>first|(exact bf.elim)|skip
   rename_i htt;have:=aqO htt;subst this;obtain⟨⟨y0,hy0⟩,bf⟩:=bf;have Pf:(E' (d+1)).at 2=.ptr σ.n 0 0 1:=by rw[mN,bY,l5]
   obtain⟨h1,h2,h3⟩:=Pe hf.hJ hj Pf;obtain⟨_,Ci⟩:=DY hj;obtain⟨vs,rfl,gR⟩:=hv
   obtain⟨x0,rfl,y,zR,HO,Li⟩:∃x0,vs=[x0]∧∃y,aj P (ν++[z]++μ) e=some y∧il x0 y∧af y=true:=by
    match vs,gR with
    |[x0],gR=>exact⟨x0,rfl,gR.1⟩
   have hyr:aw y=true:=by
    have aaj:e.den P (ν++[z]++μ)=some y:=zR;simp only[SE.den,aaj,aqN]at hy0;split at hy0
    ·assumption
    ·cases hy0
   obtain⟨u,rfl⟩:∃u,y=.raw u:=by
    cases y<;>simp[aw]at hyr;exact⟨_,rfl⟩
   have hxu:=bV HO;subst hxu;obtain⟨LK,bH,gm⟩:=hf.hJ.adD (.cells [.int 0] 0 0) (.cells [.raw u] 0 0);have am3:=c7 Ci;have aaG:bQ aG V'.l.length ah.n j=some σ.n:=by simp[bQ,show j≠V'.l.length by omega,h1]
   have am4:((V'.l++[LO.dead]).set V'.l.length LO.dead)[j]?=some (.var [.v (.i 0)]):=by
    rw[atK (by omega),aqQ am3];exact Ci
   obtain⟨hJb,_⟩:=LK.XV aaG am4 h2 (cA:=[.raw u]) (cq:=[.v e]) ⟨⟨.raw u,zR,.raw _,Li⟩,trivial⟩;have aa:=(hf.hJ.lt j σ.n h1).2;have xK:E' d=E d:=by rw[hf.hE d (by omega),gr _ _ _ (by omega)]
   obtain⟨b,hb⟩:=hk (.one (.v e)) {V' with g:=jt (d+1) V'.g,nt:=V.nt,l:=((V'.l++[LO.dead]).set V'.l.length LO.dead).set j (.var [.v e])} ([z]++μ) K' R' (bQ aG V'.l.length ah.n) E' (wH ah σ.n (.raw u)) (.raw u)
    ⟨hf.hK,hf.fK,rfl,by rw[←aq4];exact yS (V:={V' with l:=((V'.l++[LO.dead]).set V'.l.length LO.dead).set j (.var [.v e])}) hJb (d+1),by rw[←aq4];exact hf.hn,fun i hi=>by rw[hf.hE i (by omega),gr _ _ _ (by omega)],by rw[xK]⟩ xK
    (by rw[←aq4];exact⟨.raw u,zR,.raw _,Li⟩) (by rw[←aq4];exact bf)
   refine⟨max b (ah.n+1),fun N hN=>⟨by omega,u,rfl,Li,h3,by omega,aa,(hb N (by omega)).2⟩⟩)
 refine⟨max b (σ.n+1),fun N hN=>?_⟩;exact am0 N cl c ys σ _ _ _ ij (by omega) (hcx N (by omega)) (fun v dc h=>h) fun v dc h=>h
end Go.Ev
namespace Go.Ev
variable{P:Program}{N:Nat}{σ ah:St}{R R':Rs}{φ aG:Ph}{E:Nat→Env}{ν:List IV}{ro:Nat}{ι:Io}{w:World}{cfg:bj}{self:mZ}
variable{C:Cr}{Q:IV→Prop}{K:List (List IV→Prop)}{V:SS}{d f0:Nat}{o:Oper}{k:PV SE→SS→ab}{L:List (LO SE)}{Γ:Gm SE}{rd:Option Nat}{df:List Df}
variable{kx:Kx}{sk:List Nat}{ops:Array Oper}{l:List Oper}{kk:SS→ab}{CW:Nat→Env→St→Prop}{CX:Nat→jG}
def lR(e:Env)(sk:List Nat):Prop:=∀t,vu sk t=true→e.at t=.undef
theorem lR.nil(e:Env):lR e []:=fun _ h=>by cases h
theorem lR.put{e:Env}{sk:List Nat}(h:lR e sk)(dst:Option Nat)(x:IV):lR (e.put dst x) (sR sk dst):=by
 cases dst with
 |none=>exact h
 |some d=>
  intro t ht;obtain⟨h1,h2⟩:=zk ht;rw[fj h2];exact h t h1
theorem lR.add{e:Env}{sk:List Nat}(h:lR e sk){dst:Option Nat}(hd:∀t,dst=some t→t<e.n):lR (e.put dst .undef) (EY sk dst):=by
 cases dst with
 |none=>exact h
 |some d=>
  intro t ht;rcases yq ht with rfl|ht
  ·exact dH (hd _ rfl)
  ·exact h.put (some d) .undef t ht
theorem lR.ab7{e:Env}{sk:List Nat}(h:lR e sk){ops:Array Oper}{o:Oper}(hs:mq sk ops o=true):aJ o ops e=false:=by
 unfold mq at hs;unfold aJ;split at hs<;>first|(cases hs;done)|skip
 rename_i j w hg;rw[hg];simp only;split at hs<;>first|(cases hs;done)|skip
 rename_i t ht;rw[ht];simp only;rw[h t hs];split
 ·rfl
 ·rfl
def Af(P:Program)(C:Cr)(Q:IV→Prop)(cfg:bj)(self:mZ)(kx:Kx)(d f0:Nat)(ops:Array Oper)(rd:Option Nat)(df:List Df)(kk:SS→ab)(CX:Nat→jG)(sk:List Nat)(l:List Oper):Prop:=
 ∀(V:SS) ν K R φ E σ,lR (E d) sk→(gY P cfg self kx d f0 false ops sk l V kk).sat P C Q K ν→J (aj P ν) R φ V.g V.l E σ→ν.length=V.n→K.length=V.lv→(E d).n=V.nt→KS P C Q d E K ν V.nt kk (fun N e σ=>CX N .normal e σ)→KP P C Q d E K ν V.nt kx (fun N v e σ=>CX N (.bU v) e σ)→
  ∃b,∀N,b≤N→dg P N rd ops l (E d) df σ (CX N)
theorem fv(ih:Af P C Q cfg self kx d f0 ops rd df kk CX sk l){dst:Option Nat}(mO:∀x,lR ((E d).put dst x) sk)(hd:∀t,dst=some t→t<(E d).n){nt:Nat}(cb:(E d).n=nt)(d_:KS P C Q d E K ν nt kk (fun N e σ=>CX N .normal e σ))(mB:KP P C Q d E K ν nt kx (fun N v e σ=>CX N (.bU v) e σ))
 {V1:SS}{μ:List IV}{K1:List (List IV→Prop)}{R1:Rs}{du:Ph}{E1:Nat→Env}{ai:St}{x:IV}{pv:PV SE}
 (hJ:J (aj P (ν++μ)) R1 du V1.g V1.l E1 ai)(hn:(ν++μ).length=V1.n)(hK:K<+:K1)(fK:K1.length=V1.lv)(jU:V1.nt=nt)(hE:∀j,j<d→E1 j=E j)(mN:E1 d=E d)
 (hx:VR (aj P (ν++μ)) R1 du V1.l ai x pv)(hs:(gY P cfg self kx d f0 false ops sk l (V1.bJ d dst pv) kk).sat P C Q K1 (ν++μ)):
 ∃b,∀N,b≤N→dg P N rd ops l ((E d).put dst x) df ai (CX N):=by
 have bz:=BD (d:=d) (dst:=dst) hJ hx (by rw[mN];exact hd);have Ke:(V1.bJ d dst pv).nt=nt:=by cases dst<;>exact jU
 have aaL:(V1.bJ d dst pv).lv=V1.lv:=by cases dst<;>rfl
 obtain⟨b,hb⟩:=ih (V1.bJ d dst pv) (ν++μ) K1 R1 du _ ai (by rw[bY,mN];exact mO x) hs bz (by rw[DU];exact hn) (by rw[aaL];exact fK) (by rw[bY,eK,mN,cb,Ke]) (by
  rw[Ke];exact d_.fwd hK (fun j hj=>by rw[gr _ _ _ (by omega)];exact hE j hj) (by rw[bY,eK,mN])) (by
  rw[Ke];exact mB.fwd hK (fun j hj=>by rw[gr _ _ _ (by omega)];exact hE j hj) (by rw[bY,eK,mN]))
 refine⟨b,fun N hN=>?_⟩;have:=hb N hN;rw[bY,mN]at this;exact this
theorem XW{p7:Bool}{g:FuncId}{c8:List (PV SE)}(h:xw P cfg d p7 o V=some (g,c8)):
 ∃c f bs,o.op=.call c∧c.callee=.value f∧bI P d V 0 f=.one (.fn g bs)∧c8=gX P d V c.args.toList c.argTypes.toList++bs.map (fun(p:Nat×Nat)=>.one (.pt p.1 0 p.2)):=by
 unfold xw at h;split at h<;>first|(cases h;done)|skip
 split at h<;>first|(cases h;done)|skip
 rename_i c ho;split at h<;>first|(cases h;done)|skip
 rename_i f hc;split at h<;>first|(cases h;done)|skip
 rename_i g' bs hf;split at h<;>first|(cases h;done)|skip
 simp only[aqH,aq6]at h;obtain⟨rfl,rfl⟩:=h;exact⟨c,f,bs,ho,hc,hf,rfl⟩
theorem G0{es:List SE}{vs:List IV}(h:ir (P:=P) ν (dO es)=some vs):All2 (fun(e:SE) y=>e.den P ν=some y) es vs:=by
 induction es generalizing vs with
 |nil=>
  unfold ir at h;simp only[dO,SE.den,aqH]at h;subst h;trivial
 |cons e es ih=>
  unfold ir at h;simp only[dO,SE.den]at h;cases h1:e.den P ν with
  |none=>rw[h1]at h;simp at h
  |some x=>
   rw[h1]at h;simp only[aqN]at h;cases h2:(dO es).den P ν with
   |none=>rw[h2]at h;simp at h
   |some y=>
    rw[h2]at h;simp only[aqN]at h;cases y<;>simp only at h<;>first|(cases h;done)|skip
    rename_i cs;cases h;exact⟨h1,ih (by unfold ir;rw[h2])⟩
theorem aaM{g:FuncId}{dst:Option Nat}{c8:List (PV SE)}(h:∀fn,P.funcs[g]?=some fn→fn.body.isSome=true→(fn.name != "runtime.NumGoroutine")=true→False):∃n,EV P cfg self kx d f0 dst g c8 V k=.fail n:=by
 unfold EV;split
 ·split
  ·rename_i fn bO;split
   ·rename_i hc;simp only[aqG]at hc;exact(h fn bO hc.1 hc.2).elim
   ·exact⟨_,rfl⟩
  ·exact⟨_,rfl⟩
 ·unfold rP;split
  ·rename_i fn bO;split
   ·rename_i body hb;split
    ·exact⟨_,rfl⟩
    ·split
     ·rename_i hc;simp only[aqG]at hc;exact(h fn bO (by simp[hb]) hc.2).elim
     ·exact⟨_,rfl⟩
   ·exact⟨_,rfl⟩
  ·exact⟨_,rfl⟩
theorem aaN(hC:iP P C)(aW:oE P C Q self)(hJ:J (aj P ν) R φ V.g V.l E σ)(hn:ν.length=V.n)(hK:K.length=V.lv)(cb:(E d).n=V.nt){g:FuncId}{dst:Option Nat}{args:List IV}{c8:List (PV SE)}(bc:All2 (VR (aj P ν) R φ V.l σ) args c8)
 (hs:(EV P cfg self kx d f0 dst g c8 V k).sat P C Q K ν){RW PW:Nat→IV→St→Prop}
 (hk:∀(pv:PV SE) (V':SS) μ K' R' aG E' ah v,vi P d E K ν V.nt V' μ K' R' aG E' ah→E' d=E d→VR (aj P (ν++μ)) R' aG V'.l ah v pv→(k pv V').sat P C Q K' (ν++μ)→∃b,∀N,b≤N→ah.n≤N∧RW N v ah)
 (XS:∀t (pv:PV SE) (V':SS) μ K' R' aG E' ah v,vi P d E K ν V.nt V' μ K' R' aG E' ah→E' d=E d→VR (aj P (ν++μ)) R' aG V'.l ah v pv→(kx t pv V').sat P C Q K' (ν++μ)→∃b,∀N,b≤N→ah.n≤N∧PW N (.da t v) ah):
 ∃fn,P.funcs[g]?=some fn∧fn.body.isSome=true∧(fn.name != "runtime.NumGoroutine")=true∧∃b,∀N,b≤N→vV P N g args σ (RW N) (PW N):=by
 unfold EV at hs;split at hs
 ·rename_i t c tM AI;obtain⟨_,rfl,_⟩:=IA AI;split at hs<;>first|(exact hs.elim)|skip
  rename_i fn bO;split at hs<;>first|(exact hs.elim)|skip
  rename_i bK;simp only[aqG]at bK
  match args,bc with
  |[cl],bc=>
   obtain⟨b,hb⟩:=LJ hC aW hJ hn hK cb (arA.1 bO).1 bc.1 hs hk;exact⟨fn,bO,bK.1,bK.2,b,fun N hN=>(hb N hN).toX⟩
 ·exact BG aW hJ hn hK cb bc hs hk XS
theorem aaO(hC:iP P C)(aW:oE P C Q self)(hJ:J (aj P ν) R φ V.g V.l E σ)(hn:ν.length=V.n)(hK:K.length=V.lv)(cb:(E d).n=V.nt){g:FuncId}{dst:Option Nat}{args:List IV}{c8:List (PV SE)}(bc:All2 (VR (aj P ν) R φ V.l σ) args c8)
 (hd:∀t,dst=some t→t<(E d).n)
 {k:SS→ab}(hs:(EW P cfg self kx d f0 dst g c8 V k).sat P C Q K ν){RW PW:Nat→IV→St→Prop}
 (hk:∀(H:SS) vs R' aG E' ah v,J (aj P (ν++vs)) R' aG H.g H.l E' ah→(ν++vs).length=H.n→H.lv=V.lv→H.nt=V.nt→(∀j,j<d→E' j=E j)→E' d=(E d).put dst v→(k H).sat P C Q K (ν++vs)→∃b,∀N,b≤N→ah.n≤N∧RW N v ah)
 (XS:∀t (pv:PV SE) (V':SS) μ K' R' aG E' ah v,vi P d E K ν V.nt V' μ K' R' aG E' ah→E' d=E d→VR (aj P (ν++μ)) R' aG V'.l ah v pv→(kx t pv V').sat P C Q K' (ν++μ)→∃b,∀N,b≤N→ah.n≤N∧PW N (.da t v) ah):
 ∃fn,P.funcs[g]?=some fn∧fn.body.isSome=true∧(fn.name != "runtime.NumGoroutine")=true∧∃b,∀N,b≤N→vV P N g args σ (RW N) (PW N):=by
 unfold EW at hs;simp only at hs;split at hs
 ·exact hs.elim
 ·simp only[ab.sat]at hs;refine aaN (V:={V with lv:=V.lv+1}) hC aW hJ hn (by simp[hK]) cb bc hs ?_ (fun t pv V' μ K' R' aG E' ah v hf=>XS t pv V' μ K' R' aG E' ah v ⟨(List.prefix_append K _).trans hf.hK,hf.fK,hf.cb,hf.hJ,hf.hn,hf.hE,hf.Iw⟩);intro pv V' μ K' R' aG E' ah v hf mN hv bf;have bz:=BD (d:=d) (dst:=dst) hf.hJ hv (by rw[mN];exact hd);obtain⟨R2,eQ,xc,_⟩:=Pd _ bz;split at bf
  ·rename_i es dS hi;obtain⟨vs,p,h1,h2,h3⟩:=bf;obtain⟨hlen,tN⟩:=Kd (qc:=ν) eQ hn ⟨μ,rfl⟩ hi (G0 h1);obtain⟨t,ht⟩:=hf.hK;rw[←ht,aq4,List.getElem?_append_right (by omega),hK,Nat.sub_self]at h2;simp only[List.singleton_append,List.getElem?_cons_zero,aqH]at h2;subst h2;exact hk _ vs R2 _ _ ah v tN (by rw[List.length_append,hlen,hn]) rfl rfl (fun j hj=>by rw[gr _ _ _ (by omega)];exact hf.hE j hj) (by rw[bY,mN]) h3.2
  ·exact bf.elim
end Go.Ev
namespace Go.Ev
variable{P:Program}{N:Nat}{ι:Io}{w:World}{σ ah:St}{e:Env}{rd:Option Nat}{fn:FuncId}{df:List Df}
variable{ops:Array Oper}{o:Oper}{l:List Oper}{CW:jG}
theorem adE{t el:TypeId}(hu:P.underlying t=some (.slice el))(a:Option Addr)(n c:Nat)(x y:Operand):
 oL P .eql t x y (.raw (.slice a n c)) (.raw (.slice none 0 0))=some (.bool a.isNone)∧oL P .neq t x y (.raw (.slice a n c)) (.raw (.slice none 0 0))=some (.bool (!a.isNone)):=by
 have he:aK P (atO t (.slice a n c) (.slice none 0 0))=some a.isNone:=by
  show aK P (ar3 (9999+1) t (.slice a n c) (.slice none 0 0))=_;unfold ar3;rw[bn,run_underlying hu,aqN];cases a<;>rfl
 constructor
 ·show(aK P (do eqGuard .eql t x y (.slice a n c) (.slice none 0 0);Go.binOp .eql t (.slice a n c) (.slice none 0 0))).map lift=_;rw[bn];show(aK P (do pure (.bool (←atO t (.slice a n c) (.slice none 0 0))))).map lift=_;rw[bn,he];rfl
 ·show(aK P (do eqGuard .neq t x y (.slice a n c) (.slice none 0 0);Go.binOp .neq t (.slice a n c) (.slice none 0 0))).map lift=_;rw[bn];show(aK P (do pure (.bool (!(←atO t (.slice a n c) (.slice none 0 0)))))).map lift=_;rw[bn,he];rfl
theorem dg.at{v:IV}{CW:jG}(hw:aJ o ops e=true)(hn:σ.n≤N)
 (h:∀ι w (r:Operand→Value),Inv N ι σ w→(∀x,Rv ι (aq e x) (r x))→∃ρ v,(∀x,Rv ι (ρ x) (r x))∧ak P 0 ρ o σ=some (.val v σ)∧dg P N rd ops l (e.put o.dst v) df σ CW):dg P N rd ops (o::l) e df σ CW:=by
 refine .cons hw fun F ι a w Q k hl hF hi he hd hQ=>?_;refine⟨fun f _=>hF.fn f,?_⟩;obtain⟨ρ,v,hρ,hv,h⟩:=h ι w _ hi he.eval;rw[Oper.semAt_eq _ _ _ (gV hv (by simp))];obtain⟨u,w',aC,hr,h2,h3,h4⟩:=oj hi hρ hv hn
 have key:wpOpsIn F 0 P ops Q (List.range' (k+1) l.length) (a.put o.dst u) w':=
  h F aC _ w' Q (k+1) hl (hF.mono h4.ext) h3 ((he.mono h4.ext).put h2 _) (hd.mono h4.ext|>fun x=>by cases o.dst<;>exact x) (fun ex e' ah hc=>(hQ ex e' ah hc).from hi h4 hn)
 rcases hr with hr|⟨hr,rfl⟩
 ·rw[hr,Oper.uponIn_value];exact key
 ·rw[hr,Oper.uponIn_skip];exact key
def VH(x:IV):Prop:=x=.raw (.slice none 0 0)∨x=.emp∨(∃s es,x=.tree s es)∨∃id off len cap ep s,x=.sl id off len cap ep s
theorem dg.isNil{CW:jG}{e0:Bool}{op:BinOp}{t el yt:TypeId}{x:Operand}(hw:aJ o ops e=true)(hn:σ.n≤N)(ho:o.op=.binOp op t x (.const (.slice none 0 0)) yt)(fi:(op=.eql∧e0=true)∨(op=.neq∧e0=false))
 (hu:P.underlying t=some (.slice el))(hx:VH (aq e x))
 (h1:aq e x≠.raw (.slice none 0 0)→dg P N rd ops l (e.put o.dst (.raw (.bool (!e0)))) df σ CW)
 (h2:(aq e x=.raw (.slice none 0 0)∨∃s,aq e x=.tree s [])→dg P N rd ops l (e.put o.dst (.raw (.bool e0))) df σ CW):dg P N rd ops (o::l) e df σ CW:=by
 refine .at (v:=.undef) hw hn fun ι w r hi hr=>?_
 have main:∀a n c,r x=.slice a n c→(a=none→aq e x=.raw (.slice none 0 0)∨∃s,aq e x=.tree s [])→(a≠none→aq e x≠.raw (.slice none 0 0))→
  ∃ρ v,(∀x,Rv ι (ρ x) (r x))∧ak P 0 ρ o σ=some (.val v σ)∧dg P N rd ops l (e.put o.dst v) df σ CW:=by
  intro a n c og ha hb
  have Lu:∀ρ:Operand→IV,ρ (.const (.slice none 0 0))=.raw (.slice none 0 0)→ρ x=.raw (.slice a n c)→ak P 0 ρ o σ=some (.val (.raw (.bool (if a.isNone then e0 else !e0))) σ):=by
   intro ρ h3 h4;obtain⟨g1,g2⟩:=adE (P:=P) hu a n c x (.const (.slice none 0 0));rcases fi with⟨rfl,rfl⟩|⟨rfl,rfl⟩
   ·simp only[ak,ho,h3,h4,g1,ret];cases a<;>rfl
   ·simp only[ak,ho,h3,h4,g2,ret];cases a<;>rfl
  have hy:aq e (.const (.slice none 0 0))=.raw (.slice none 0 0):=rfl;refine⟨fun z=> @ite _ (z=x) (awl _) (.raw (.slice a n c)) (aq e z),_,fun z=>?_,Lu _ ?_ ?_,?_⟩
  ·dsimp only;split
   ·rename_i hz;subst hz;rw[og];exact .raw _
   ·exact hr z
  ·split
   ·rename_i hz;have hh:=hr x;rw[←hz,hy,hz,og]at hh;generalize hq:Value.slice a n c=q at hh⊢;cases hh;rfl
   ·rfl
  ·rw[if_pos rfl]
  ·cases a with
   |none=>exact h2 (ha rfl)
   |some a=>exact h1 (hb (by simp))
 have og:=hr x;rcases hx with hx|hx|⟨s,es,hx⟩|⟨id,off,len,cap,ep,s,hx⟩
 ·rw[hx]at og;generalize hq:r x=u at og;cases og;exact main none 0 0 hq (fun _=>.inl hx) (fun h=>absurd rfl h)
 ·rw[hx]at og;generalize hq:r x=u at og;cases og;exact main _ 0 0 hq (fun h=>by cases h) (fun _=>by rw[hx];simp)
 ·rw[hx]at og;generalize hq:r x=u at og;cases og with
  |tree=>exact main _ _ _ hq (fun h=>by cases h) (fun _=>by rw[hx];simp)
  |dN=>exact main _ _ _ hq (fun _=>.inr ⟨s,hx⟩) (fun _=>by rw[hx];simp)
 ·rw[hx]at og;generalize hq:r x=u at og;cases og;exact main _ _ _ hq (fun h=>by cases h) (fun _=>by rw[hx];simp)
theorem Pj{fr:Bool}{R:Rs}{x:IV}{s:Nat}{es:List IV}(h:aY fr R σ x (.tree s es)):VH x∧(x=.raw (.slice none 0 0)∨(∃s,x=.tree s [])→es=[]):=by
 cases h with
 |nil=>exact⟨.inl rfl,fun _=>rfl⟩
 |emp=>exact⟨.inr (.inl rfl),fun _=>rfl⟩
 |pure=>exact⟨.inr (.inr (.inl ⟨_,_,rfl⟩)),fun h=>by rcases h with h|⟨_,h⟩<;>cases h;rfl⟩
 |sl=>exact⟨.inr (.inr (.inr ⟨_,_,_,_,_,_,rfl⟩)),fun h=>by rcases h with h|⟨_,h⟩<;>cases h⟩
end Go.Ev
namespace Go.Ev
variable{P:Program}{N:Nat}{σ ah:St}{R R':Rs}{φ aG:Ph}{E:Nat→Env}{ν:List IV}{cfg:bj}
variable{C:Cr}{Q:IV→Prop}{K:List (List IV→Prop)}{V:SS}{d f0:Nat}{o:Oper}{k:PV SE→SS→ab}{L:List (LO SE)}{Γ:Gm SE}
theorem Fl{e:SE}{z:IV}(h:(SE.rws e).den P ν=some z):∃s es,e.den P ν=some (.tree s es)∧z=.tree s es∧∀e∈es,∀c∈cellsOf e,aw c=true:=by
 simp only[SE.den,aqZ]at h;obtain⟨y,h1,h2⟩:=h;split at h2<;>first|(cases h2;done)|skip
 split at h2<;>first|(cases h2;done)|skip
 rename_i bp;cases h2;rw[aqW]at bp;exact⟨_,_,h1,rfl,fun e he c hc=>aqW.1 (bp e he) c hc⟩
def SQ(P:Program)(C:Cr)(Q:IV→Prop)(K:List (List IV→Prop))(E:Nat→Env)(ν:List IV)(lv:Nat×Nat)(k:PV SE→SS→ab)(KW:Nat→IV→St→Prop):Prop:=
 ∀(V1:SS) (μ:List IV) (R1:Rs) (du:Ph) (ai:St) (x:IV) (pv:PV SE),J (aj P (ν++μ)) R1 du V1.g V1.l E ai→V1.ln=lv→(ν++μ).length=V1.n→V1.ln=lv→VR (aj P (ν++μ)) R1 du V1.l ai x pv→(k pv V1).sat P C Q K (ν++μ)→∃b,∀N,b≤N→KW N x ai
theorem aaP{fr:Bool}{x:IV}{cs:List IV}(h:aY fr R σ x (.agg cs)):∃xs,x=.agg xs∧All2 (aY fr R σ) xs cs:=by
 cases h with
 |agg pZ _ hl hh=>exact⟨pZ,rfl,.mk hl hh⟩
 |pure _ hf hp=>
  refine⟨cs,rfl,.mk rfl fun i a b h1 h2=>?_⟩;rw[h1]at h2;cases h2;cases hp with
  |agg _ hh=>exact .pure a hf (hh a (aqS h1))
theorem BI{t:TypeId}{e:SE}{x z:IV}{f:ab}(hz:e.den P ν=some z)(hc:il x z)(hs:(qR P t e f).sat P C Q K ν):f.sat P C Q K ν∧VR (aj P ν) R φ L σ x (ofType P t e):=by
 unfold qR at hs;unfold ofType;by_cases ha:isAgg P t=true
 ·rw[if_pos ha]at hs;obtain⟨⟨y,hy⟩,hk⟩:=hs;simp only[SE.den,hz,aqN]at hy;split at hy
  ·rename_i cs;split at hy
   ·rename_i lZ;obtain⟨xs,rfl,iC⟩:=aaP hc;refine⟨hk,?_⟩;rw[if_pos ha];refine⟨xs,rfl,.mk (by simp[iC.len,lZ.1]) fun i a b h1 h2=>?_⟩;have hi:=(aqF.1 h1).1;rw[iC.len]at hi;rw[aqU,atk (by omega)]at h2;simp only[aq9,aqH]at h2;subst h2;have LA:cs[i]?=some cs[i]:=aqE hi;have bo:Ev.af cs[i]=true:=(aqW.1 lZ.2) _ (List.getElem_mem hi);exact⟨cs[i],by simp[aj,SE.den,hz,LA,xx,bo],iC.get h1 LA,bo⟩
   ·cases hy
  ·cases hy
 ·rw[if_neg ha]at hs;obtain⟨⟨y,hy⟩,hk⟩:=hs;obtain⟨h1,h2⟩:=oY hy;rw[hz]at h1;cases h1;rw[if_neg ha];exact⟨hk,z,hy,hc,h2⟩
theorem Kf:∀{zs:List SE} {v:IV},(dO zs).den P ν=some v→∃ys,v=.agg ys∧All2 (fun(z:SE) y=>z.den P ν=some y) zs ys
 |[],v,h=>by
  simp only[dO,SE.den,aqH]at h;exact⟨[],h.symm,trivial⟩
 |z::zs,v,h=>by
  simp only[dO,SE.den]at h;obtain⟨x,hx,h⟩:=aqZ.1 h;obtain⟨w,hw,h⟩:=aqZ.1 h;obtain⟨ys,rfl,qb⟩:=Kf hw;simp only[aqH]at h;exact⟨x::ys,h.symm,hx,qb⟩
theorem IB:∀(args:List (PV SE)),args=(rQ args).1.map (fun p=>PV.one (Cl.pt p.1 0 p.2))++(rQ args).2
 |[]=>rfl
 |pv::r=>by
  unfold rQ;split
  ·rename_i k ext r' h;cases h;simp only[arC,List.cons_append];rw[←IB r]
  ·simp
theorem Ag:∀{l:List Nat},distinct l=true→l.Nodup
 |[],_=>List.nodup_nil
 |k::l,h=>by
  simp only[distinct,aqG,aru,List.any_eq_false]at h;refine auo.2 ⟨fun hm=>?_,Ag h.2⟩;exact h.1 k hm (by simp)
theorem aaQ(es:List SE)(h:∀e∈es,∃y,e.den P ν=some y):∃cs:List IV,All2 (fun(z:SE) y=>z.den P ν=some y) es cs:=by
 induction es with
 |nil=>exact⟨[],trivial⟩
 |cons e es ih=>
  obtain⟨y,hy⟩:=h e (by simp);obtain⟨cs,bC⟩:=ih fun e he=>h e (by simp[he]);exact⟨y::cs,hy,bC⟩
theorem F6(hJ:J (aj P ν) R φ V.g V.l E σ):∀{l:List (Nat×Nat)} {Dw:List (List SE)},xu V l=some Dw→
 ∃ins:List (List IV),Dw.length=l.length∧ins.length=l.length∧All2 (fun(z:SE) y=>z.den P ν=some y) (Dw.map dO) (ins.map IV.agg)∧
  ∀(i:Nat) (p:Nat×Nat) (cs:List IV),l[i]?=some p→ins[i]?=some cs→∃es:List SE,V.l[p.1]?=some (.var (es.map .v))∧cs.length=p.2∧All2 (fun(z:SE) y=>z.den P ν=some y) es cs
 |[],Dw,h=>by
  simp only[xu,aqH]at h;subst h;exact⟨[],rfl,rfl,trivial,fun i p cs h=>by simp at h⟩
 |(k,n)::l,Dw,h=>by
  simp only[xu]at h;split at h<;>first|(cases h;done)|skip
  rename_i ds hk;split at h<;>first|(cases h;done)|skip
  rename_i hn;split at h<;>first|(cases h;done)|skip
  rename_i es r gl hr;simp only[aqH]at h;subst h;have Iq:=GW gl;subst Iq;have Cj:=aqO hn;obtain⟨ins,h1,h2,h3,h4⟩:=F6 hJ hr;obtain⟨id,cA,o1,o2,o3,o4⟩:=hJ.obj k _ hk
  obtain⟨cs,bC⟩:=aaQ (P:=P) (ν:=ν) es fun e he=>by
   obtain⟨q,hq⟩:=List.getElem?_of_mem he;obtain⟨x,_,hx⟩:=o4.zj (i:=q) (b:=.v e) (by rw[aqU,hq];rfl);obtain⟨y,hy,_⟩:=hx;exact⟨y,hy⟩
  refine⟨cs::ins,by simp[h1],by simp[h2],⟨ew bC,h3⟩,fun i p cq hp hc=>?_⟩;cases i with
  |zero=>
   simp at hp hc;subst hp hc;exact⟨es,hk,by rw[←bC.len];simpa using Cj,bC⟩
  |succ i=>exact h4 i p cq (by simpa using hp) (by simpa using hc)
theorem F7{y:SE}:∀{l:List (Nat×Nat)} {i:Nat} {L:List (LO SE)},(lg y i l L).length=L.length
 |[],_,_=>rfl
 |(k,n)::l,i,L=>by simp[lg,F7 (l:=l)]
theorem zq{y:SE}:∀{l:List (Nat×Nat)} {i j:Nat} {L:List (LO SE)},j∉l.map (·.1)→(lg y i l L)[j]?=L[j]?
 |[],_,_,_,_=>rfl
 |(k,n)::l,i,j,L,h=>by
  simp only[arC,List.mem_cons,not_or]at h;simp only[lg];rw[zq h.2,atK (fun hc=>h.1 hc.symm)]
theorem F8{y:SE}:∀{l:List (Nat×Nat)} {i q:Nat} {p:Nat×Nat} {L:List (LO SE)},(l.map (·.1)).Nodup→l[q]?=some p→p.1<L.length→
 (lg y i l L)[p.1]?=some (.var ((List.range p.2).map fun j=>.v (.bN (.proj y (i+q+1)) j)))
 |[],_,_,_,_,_,h,_=>by simp at h
 |(k,n)::l,i,0,p,L,oD,h,aa=>by
  simp at h;subst h;simp only[arC,auo]at oD;simp only[lg];rw[zq oD.1,List.getElem?_set_self aa]
 |(k,n)::l,i,q+1,p,L,oD,h,aa=>by
  simp only[arC,auo]at oD;simp only[lg];rw[F8 (q:=q) oD.2 (by simpa using h) (by simpa using aa)];rw[show i+1+q+1=i+(q+1)+1 by omega]
theorem IC{α β:Type}{r:α→β→Prop}:∀{bs cs:List β} {as:List α},All2 r as (bs++cs)→∃as1 as2,as=as1++as2∧All2 r as1 bs∧All2 r as2 cs
 |[],cs,as,h=>⟨[],as,rfl,trivial,h⟩
 |b::bs,cs,[],h=>h.elim
 |b::bs,cs,a::as,h=>by
  obtain⟨as1,as2,rfl,h1,h2⟩:=IC h.2;exact⟨a::as1,as2,rfl,⟨h.1,h1⟩,h2⟩
theorem adF{a b:List (List IV)}(h:a.map IV.agg=b.map IV.agg):a=b:=(List.map_inj_right (fun x y hh=>by injection hh)).1 h
theorem adG(hC:iP P C)(hJ:J (aj P ν) R φ V.g V.l E σ)(hn:ν.length=V.n){g:FuncId}{l:List (Nat×Nat)}{rest:List (PV SE)}{ps xs:List IV}
 (hp:All2 (VR (aj P ν) R φ V.l σ) ps (l.map fun p=>PV.one (Cl.pt p.1 0 p.2)))(hx:All2 (VR (aj P ν) R φ V.l σ) xs rest)(hs:(Z_ P g l rest V k).sat P C Q K ν){KW:Nat→IV→St→Prop}(hk:SQ P C Q K E ν V.ln k KW):
 ∃b,∀N,b≤N→dF P N g (ps++xs) σ (KW N):=by
 unfold Z_ at hs;split at hs<;>first|(exact hs.elim)|skip
 rename_i zs V' Dw fn hr hoc bO;split at hs
 ·exact hs.elim
 rename_i am5;have nC:rest.all nV=true:=by simpa using am5
 split at hs
 ·exact hs.elim
 rename_i am6;have oD:(l.map (·.1)).Nodup:=Ag (by simpa using am6);split at hs<;>first|(exact hs.elim)|skip
 rename_i t ht;obtain⟨_,aja⟩:=wv (P:=P) (ν:=ν) (R:=R) (φ:=φ) (σ:=σ) hr nC;obtain⟨ys,c1,c2⟩:=aja hx;obtain⟨ins,i1,i2,i3,i4⟩:=F6 hJ hoc;obtain⟨us,z,d1,d2,d3⟩:=hs
 have w8:us=.agg (ins.map IV.agg)::ys:=by
  have bp:All2 (fun(z:SE) y=>z.den P ν=some y) (dO (Dw.map dO)::zs) (.agg (ins.map IV.agg)::ys):=⟨ew i3,c1⟩;have:=ew bp;unfold ir at d1;rw[show SE.ac (dO (Dw.map dO)) (dO zs)=dO (dO (Dw.map dO)::zs)from rfl,this]at d1;cases d1;rfl
 subst w8;obtain⟨aqx,nD,outs,z0,e1,rfl,e3,e4,am7⟩:=(hC _ _ _ _ d2).2.2.1 g (arA.1 bO).1 rfl;simp only[arF,IV.agg.injEq]at e1;obtain⟨e1,rfl⟩:=e1;have:=adF e1;subst this;have ye:outs.length=ins.length:=by have:=congrArg List.length e3;simpa using this
 have yk:∀e w,aj P ν e=some w→aj P (ν++[IV.av (z0::outs.map IV.agg)]) e=some w:=fun e w h=>SE.cR P e h;have hZ:(SE.var V.n).den P (ν++[IV.av (z0::outs.map IV.agg)])=some (IV.av (z0::outs.map IV.agg)):=by simp[SE.den,←hn]
 have am8:(SE.proj (.var V.n) 0).den P (ν++[IV.av (z0::outs.map IV.agg)])=some z0:=by simp only[SE.den]at hZ⊢;rw[hZ];rfl
 refine VC yk hJ (ks:=l.map (·.1)) oD (L':=lg (.var V.n) 0 l V.l) (ins:=ins) (outs:=outs) (by simp[i2]) (fun i k cs hk hi=>?_) ⟨by rw[hp.len,ar8,i2],fun i cs p hi N7=>?_⟩ c2 am7 ye F7 (fun j hj=>zq hj) (fun i k cs hk hi=>?_) KW fun R' ah v Lo hv=>?_
 ·rw[aqU]at hk;obtain⟨p,hpk,rfl⟩:=aqL.1 hk;obtain⟨es,a1,_,a3⟩:=i4 i p cs hpk hi;refine⟨_,a1,.mk (by rw[ar8,a3.len]) fun q c u hc hu=>?_⟩;rw[aqU]at hc;obtain⟨e,he,rfl⟩:=aqL.1 hc;exact⟨e,rfl,a3.get he hu⟩
 ·have Cf:i<l.length:=by rw[←i2];exact(aqF.1 hi).1
  have hli:=aqE Cf;obtain⟨es,a1,a2,a3⟩:=i4 i _ cs hli hi;obtain⟨id,ds,b1,b2,b3⟩:=hp.get N7 (by rw[aqU,hli];rfl);exact⟨id,by simp only[aqU,hli,aq9,aqN];exact b1,by rw[b3,a2]⟩
 ·rw[aqU]at hk;obtain⟨p,hpk,rfl⟩:=aqL.1 hk;have Ln:i<ins.length:=by rw[←ye];exact(aqF.1 hi).1
  obtain⟨es,a1,a2,_⟩:=i4 i p _ hpk (aqE Ln);have aa:p.1<V.l.length:=(aqF.1 a1).1;refine⟨_,F8 oD hpk aa,?_⟩
  have dU:cs.length=p.2:=by
   have h5:=congrArg (fun q=>q[i]?) e3;simp only[aqU,hi,aqE Ln,aq9,aqH]at h5;omega
  refine .mk (by simp[dU]) fun q c u hc hu=>?_;have hq:=(aqF.1 hu).1;rw[aqU,atk (by omega)]at hc;simp only[aq9,aqH]at hc;subst hc;refine⟨_,rfl,?_⟩
  have hoi:(z0::outs.map IV.agg)[0+i+1]?=some (.agg cs):=by
   rw[Nat.zero_add,List.getElem?_cons_succ,aqU,hi];rfl
  have vB:=e4 cs (aqS hi) u (aqS hu);show(SE.bN _ _).den P _=_;simp only[SE.den]at hZ⊢;rw[hZ];simp only[aqN,hoi,hu];simp[xx,vB]
 ·obtain⟨g1,g2⟩:=BI (R:=R') (φ:=φ) (L:=lg (.var V.n) 0 l V.l) (σ:=ah) am8 hv d3;exact hk {V with n:=V.n+1,l:=lg (.var V.n) 0 l V.l} [IV.av (z0::outs.map IV.agg)] R' φ ah v _ Lo rfl (by simp[hn]) rfl g2 g1
theorem ID(hC:iP P C)(hJ:J (aj P ν) R φ V.g V.l E σ)(hn:ν.length=V.n){g:FuncId}{j:Nat}{zs:List SE}{x:IV}{xs ys:List IV}(hx:cz (aj P ν) R φ V.l σ x (.sr j))
 (hz:All2 (fun(z:SE) y=>z.den P ν=some y) zs ys)(iC:All2 il xs ys)(hs:(EX P g zs j V k).sat P C Q K ν){KW:Nat→IV→St→Prop}(hk:SQ P C Q K E ν V.ln k KW):
 ∃b,∀N,b≤N→dF P N g (x::xs) σ (KW N):=by
 unfold EX at hs;split at hs<;>first|(exact hs.elim)|skip
 rename_i s fr es hj;split at hs<;>first|(exact hs.elim)|skip
 rename_i am9;have ajb:g<P.funcs.size:=by simpa using am9
 obtain⟨⟨_,hr⟩,us,z,h1,h2,h3⟩:=hs;obtain⟨s1,eP,h4,_,dJ⟩:=Fl hr
 have w8:us=.tree s1 eP::ys:=by
  have:All2 (fun(z:SE) y=>z.den P ν=some y) (es::zs) (.tree s1 eP::ys):=⟨h4,hz⟩;unfold ir at h1;rw[ew this]at h1;cases h1;rfl
 subst w8;obtain⟨s2,e2,xs2,aB,g1,rfl,FF⟩:=(hC _ _ _ _ h2).2.1 g ajb rfl;simp only[arF,IV.tree.injEq]at g1;obtain⟨⟨rfl,rfl⟩,rfl⟩:=g1;obtain⟨_,iA,k1,_,_⟩:=hJ.obj j _ hj;have LB:es.den P ν=some (.tree s iA):=k1;rw[h4]at LB;cases LB;have bz:=hJ.up (gW:=aj P (ν++[.tree s aB])) (fun e y h=>SE.cR P e h)
 have cD:cz (aj P (ν++[.tree s aB])) R φ V.l σ x (.sr j):=by
  have hbv:VR (aj P ν) R φ V.l σ x (.one (.sr j)):=hx;exact VR.up hJ hbv (fun e z h=>SE.cR P e h)
 have eQ:=bz.UK j;have Xs:(V.l.map (LO.drop j))[j]?=some (.row s false false fr es):=by simp[aqU,hj,LO.drop]
 have e_:cz (aj P (ν++[.tree s aB])) R φ (V.l.map (LO.drop j)) σ x (.sr j):=cD.step (GC bz j) (Cl.aU _);have hZ:(SE.var V.n).den P (ν++[.tree s aB])=some (.tree s aB):=by simp[SE.den,←hn]
 refine XK eQ Xs (SE.cR P es h4) hZ dJ e_ iC (fun d t pv hg=>Ij hg) (fun i o hi aT=>by
  rw[aqU]at hi;obtain⟨o',_,rfl⟩:=aqL.1 hi;exact o'.me j) FF KW fun R' aG ah v a b=>?_
 exact hk ((({V with n:=V.n+1}:SS).rO j).setObj j (.row s false false false (.var V.n))) [.tree s aB] R' aG ah v (.one (.sr j)) a rfl (by simp[hn,SS.rO,SS.setObj]) rfl b h3
theorem adH{KW:Nat→IV→St→Prop}(hC:iP P C)(hJ:J (aj P ν) R φ V.g V.l E σ)(hn:ν.length=V.n){g:FuncId}{c8:List (PV SE)}{xs:List IV}
 (bc:All2 (VR (aj P ν) R φ V.l σ) xs c8)(hs:(aaa P g c8 V k).sat P C Q K ν)
 (hk:∀(V1:SS) (μ:List IV) (R1:Rs) (du:Ph) (ai:St) (x:IV) (pv:PV SE),J (aj P (ν++μ)) R1 du V1.g V1.l E ai→V1.ln=V.ln→(ν++μ).length=V1.n→V1.ln=V.ln→VR (aj P (ν++μ)) R1 du V1.l ai x pv→(k pv V1).sat P C Q K (ν++μ)→∃b,∀N,b≤N→KW N x ai):
 ∃b,∀N,b≤N→dF P N g xs σ (KW N):=by
 unfold aaa at hs;split at hs
 ·have he:=IB c8;rw[he]at bc;obtain⟨ps,as,rfl,hp,hx⟩:=IC bc;exact adG hC hJ hn hp hx hs hk
 split at hs<;>first|(exact hs.elim)|skip
 rename_i c rest _;split at hs<;>first|(exact hs.elim)|skip
 rename_i zs V' hr;split at hs
 ·exact hs.elim
 rename_i hp;have qw:rest.all nV=true:=by simpa using hp
 cases xs with
 |nil=>exact bc.elim
 |cons x xs=>
  obtain⟨_,nC⟩:=wv (P:=P) (ν:=ν) (R:=R) (φ:=φ) (σ:=σ) hr qw;obtain⟨ys,c1,c2⟩:=nC bc.2;split at hs<;>first|(exact hs.elim)|skip
  ·exact ID hC hJ hn bc.1 c1 c2 hs hk
  ·rename_i b s _;have hx:=bc.1;unfold newObj at hs;obtain⟨bA,ie⟩:=hx;have mG:(SE.tr s SE.an).den P ν=some (.tree s []):=by simp[SE.den,bA]
   obtain⟨_,eQ⟩:=hJ.Aa (fr:=false) bA mG;have jo:(V.l++[LO.row s false false false (SE.tr s SE.an)])[V.l.length]?=some (.row s false false false (SE.tr s SE.an)):=by simp
   exact ID (V:={V with l:=V.l++[.row s false false false (.tr s .an)]}) hC eQ hn (x:=x) ⟨s,false,false,false,_,[],jo,mG,.inl ⟨wL hJ (aqK _),rfl,by subst ie;cases b<;>simp⟩⟩ c1 c2 hs hk
end Go.Ev
namespace Go.Ev
variable{P:Program}{N:Nat}{σ ah:St}{R R':Rs}{φ aG:Ph}{E:Nat→Env}{ν:List IV}{ro:Nat}{ι:Io}{w:World}{cfg:bj}{self:mZ}
variable{C:Cr}{Q:IV→Prop}{K:List (List IV→Prop)}{V:SS}{d f0:Nat}{o:Oper}{k:PV SE→SS→ab}{L:List (LO SE)}{Γ:Gm SE}{rd:Option Nat}{df:List Df}
variable{kx:Kx}{sk:List Nat}{ops:Array Oper}{l:List Oper}{kk:SS→ab}{CX:Nat→jG}
theorem h_{V V1:SS}(h:V1.ln=V.ln):V1.lv=V.lv∧V1.nt=V.nt:=by
 simp only[SS.ln,aq6]at h;exact h
theorem XX(hC:iP P C)(aW:oE P C Q self)(ih:Af P C Q cfg self kx d f0 ops rd df kk CX sk l)(hJ:J (aj P ν) R φ V.g V.l E σ)(hn:ν.length=V.n)(hK:K.length=V.lv)(cb:(E d).n=V.nt)
 (hd:∀t,o.dst=some t→t<(E d).n)(mO:∀x,lR ((E d).put o.dst x) sk)(d_:KS P C Q d E K ν V.nt kk (fun N e σ=>CX N .normal e σ))(mB:KP P C Q d E K ν V.nt kx (fun N v e σ=>CX N (.bU v) e σ))(hw:aJ o ops (E d)=true)
 (hs:(HY P cfg self kx d f0 false o V fun pv V=>gY P cfg self kx d f0 false ops sk l (V.bJ d o.dst pv) kk).sat P C Q K ν):
 ∃b,∀N,b≤N→dg P N rd ops (o::l) (E d) df σ (CX N):=by
 have IE:(fE P d o V fun pv V=>gY P cfg self kx d f0 false ops sk l (V.bJ d o.dst pv) kk).sat P C Q K ν→∃b,∀N,b≤N→dg P N rd ops (o::l) (E d) df σ (CX N):=by
  intro hs;obtain⟨x,ai,R1,du,pv,V1,μ,h1,h2,h3,h4,h5,h6⟩:=XJ hJ hn hs;obtain⟨b,hb⟩:=fv ih mO hd cb d_ mB h2 h4 (ars K) (by rw[(h_ h5).1];exact hK) (h_ h5).2 (fun _ _=>rfl) rfl h3 h6;exact⟨max b ai.n,fun N hN=>.val hw h1 (by omega) (hb N (by omega))⟩
 unfold HY at hs;split at hs
 ·rename_i c ho;unfold UY at hs;split at hs
  ·exact IE hs
  ·rename_i f hc;split at hs<;>first|(exact hs.elim)|skip
   rename_i g bs hf;simp only at hs;split at hs
   ·rename_i t cf tM AI;obtain⟨rfl,p8,_⟩:=IA AI;split at hs<;>first|(exact hs.elim)|skip
    rename_i fn bO;split at hs<;>first|(exact hs.elim)|skip
    rename_i bK;simp only[aqG]at bK;have nM:=aZ hJ d 0 f;rw[hf]at nM;have bc:=fG hJ d c.args.toList c.argTypes.toList;obtain⟨ys,ij,qb⟩:=jT (args:=c.args.toList.map (aq (E d))) nM bO bK.1.2 bK.2
    have xJ:ys=[]:=by
     cases ys with
     |nil=>rfl
     |cons=>exact qb.elim
    subst xJ;rw[aqY]at ij
    have ef:ak P 0 (aq (E d)) o σ=some (.enter g (c.args.toList.map (aq (E d)))):=by
     simp only[ak,ho,hc];exact ij
    rw[p8]at bc
    obtain⟨cl,dU,am_⟩:∃cl,c.args.toList.map (aq (E d))=[cl]∧VR (aj P ν) R φ V.l σ cl (.one (.fn cf tM)):=by
     generalize c.args.toList.map (aq (E d))=l at bc
     match l,bc with
     |[cl],bc=>exact⟨cl,rfl,bc.1⟩
    obtain⟨b,hb⟩:=LJ (RW:=fun N v ai=>ai.n≤N∧dg P N rd ops l ((E d).put o.dst v) df ai (CX N)) hC aW hJ hn hK cb (arA.1 bO).1 am_ hs (by
     intro pv V' μ K' R' aG E' ah v hF mN hv bf;obtain⟨b,hb⟩:=fv ih mO hd cb d_ mB hF.hJ hF.hn hF.hK hF.fK hF.cb hF.hE mN hv bf;exact⟨max b ah.n,fun N hN=>⟨by omega,by omega,hb N (by omega)⟩⟩)
    rw[dU]at ef;exact⟨b,fun N hN=>.call hw ef (hb N hN) fun v ai hv=>hv⟩
   split at hs
   ·rename_i hp;simp only[aqG,arP]at hp;have gb:=hp.1;subst gb
    have tI:∃(args:List IV) (v:IV) (ai:St) (R1:Rs) (du:Ph) (pv:PV SE) (V1:SS) (μ:List IV),ak P 0 (aq (E d)) o σ=some (.enter g args)∧(∀ro,gy P ro g args σ v ai)∧(ai=σ∨∃ob,ai=σ.add ob)∧J (aj P (ν++μ)) R1 du V1.g V1.l E ai∧VR (aj P (ν++μ)) R1 du V1.l ai v pv∧(ν++μ).length=V1.n∧V1.ln=V.ln∧
     (gY P cfg self kx d f0 false ops sk l (V1.bJ d o.dst pv) kk).sat P C Q K (ν++μ):=by
     split at hs
     ·exact LG hC hJ hn ‹_› ho hc hf hs
     ·exact LF hC hJ hn ho hc hf hs
    obtain⟨args,v,ai,R1,du,pv,V1,μ,ef,p_,_,g1,g2,g3,g4,g5⟩:=tI;obtain⟨b,hb⟩:=fv ih mO hd cb d_ mB g1 g3 (ars K) (by rw[(h_ g4).1];exact hK) (h_ g4).2 (fun _ _=>rfl) rfl g2 g5;exact⟨max b ai.n,fun N hN=>.call hw ef (dF.HR (p_ 0) (by omega)) fun v1 dc hv=>by obtain⟨rfl,rfl⟩:=hv;exact⟨by omega,hb N (by omega)⟩⟩
   split at hs
   ·rename_i hp;simp only[aqG,arP]at hp;have gb:=hp.1;subst gb;obtain⟨args,v,ai,R1,du,pv,V1,μ,ef,p_,_,g1,g2,g3,g4,g5⟩:=O8 hC hJ hn ho hc hf hs;obtain⟨b,hb⟩:=fv ih mO hd cb d_ mB g1 g3 (ars K) (by rw[(h_ g4).1];exact hK) (h_ g4).2 (fun _ _=>rfl) rfl g2 g5;exact⟨max b ai.n,fun N hN=>.call hw ef (dF.HR (p_ 0) (by omega)) fun v1 dc hv=>by obtain⟨rfl,rfl⟩:=hv;exact⟨by omega,hb N (by omega)⟩⟩
   split at hs
   ·rename_i hp;simp only[aqG,arP]at hp;have gb:=hp.1;subst gb;split at hs<;>first|(exact hs.elim)|skip
    rename_i fn bO;split at hs<;>first|(exact hs.elim)|skip
    rename_i bK;simp only[aqG]at bK;have nM:=aZ hJ d 0 f;rw[hf]at nM;have bc:=fG hJ d c.args.toList c.argTypes.toList;obtain⟨ys,ij,qb⟩:=jT (args:=c.args.toList.map (aq (E d))) nM bO bK.1.2 bK.2
    have xJ:ys=[]:=by
     cases ys with
     |nil=>rfl
     |cons=>exact qb.elim
    subst xJ;rw[aqY]at ij
    have ef:ak P 0 (aq (E d)) o σ=some (.enter g (c.args.toList.map (aq (E d)))):=by
     simp only[ak,ho,hc];exact ij
    obtain⟨b,hb⟩:=adH (KW:=fun N v ai=>ai.n≤N∧dg P N rd ops l ((E d).put o.dst v) df ai (CX N)) hC hJ hn bc hs (by
     intro V1 μ R1 du ai x pv h2 h4 hlen h5 hx h6;obtain⟨b,hb⟩:=fv ih mO hd cb d_ mB h2 hlen (ars K) (by rw[(h_ h5).1];exact hK) (h_ h5).2 (fun _ _=>rfl) rfl hx h6;exact⟨max b ai.n,fun N hN=>⟨by omega,hb N (by omega)⟩⟩)
    exact⟨b,fun N hN=>.call hw ef (hb N hN) fun v ai hv=>hv⟩
   split at hs
   ·rename_i hp;simp only[aqG,arP]at hp;have gb:=hp.1;subst gb;split at hs<;>first|(exact hs.elim)|skip
    rename_i zs V' fn hr bO;split at hs<;>first|(exact hs.elim)|skip
    rename_i bK;simp only[aqG]at bK;obtain⟨g',args,z,R1,pv,V1,μ,h1,h2,h3,h4,h5,h6,h7⟩:=O7 hC hJ hn ho hc hf hr bO bK.1.2 bK.2 bK.1.1 hs;obtain⟨b,hb⟩:=fv ih mO hd cb d_ mB h3 h5 (ars K) (by rw[(h_ h6).1];exact hK) (h_ h6).2 (fun _ _=>rfl) rfl h4 h7;refine⟨max b σ.n,fun N hN=>.call hw h1 (dF.HR (h2 0) (by omega)) fun v ai hv=>?_⟩;obtain⟨rfl,rfl⟩:=hv;exact⟨by omega,hb N (by omega)⟩
   ·split at hs
    ·exact hs.elim
    ·have nM:=aZ hJ d 0 f;rw[hf]at nM;have bc:=fG hJ d c.args.toList c.argTypes.toList
     have bO:∃fn,P.funcs[g]?=some fn∧fn.body.isSome=true∧(fn.name != "runtime.NumGoroutine")=true:=by
      unfold rP at hs;split at hs<;>first|(exact hs.elim)|skip
      rename_i fn bO;split at hs<;>first|(exact hs.elim)|skip
      rename_i body hb;split at hs<;>first|(exact hs.elim)|skip
      split at hs<;>first|(exact hs.elim)|skip
      rename_i lZ;simp only[aqG]at lZ;exact⟨fn,bO,by simp[hb],lZ.2⟩
     obtain⟨fn,bO,hb,kR⟩:=bO;obtain⟨ys,ij,qb⟩:=jT (args:=c.args.toList.map (aq (E d))) nM bO hb kR
     have ef:ak P 0 (aq (E d)) o σ=some (.enter g (c.args.toList.map (aq (E d))++ys)):=by
      simp only[ak,ho,hc];exact ij
     obtain⟨_,_,_,_,b,hcw⟩:=BG (RW:=fun N v ai=>ai.n≤N∧dg P N rd ops l ((E d).put o.dst v) df ai (CX N)) (PW:=fun N v ai=>CX N (.bU v) (E d) ai) aW hJ hn hK cb (bc.app qb) hs (by
      intro pv V' μ K' R' aG E' ah v hF mN hv bf;obtain⟨b,hb⟩:=fv ih mO hd cb d_ mB hF.hJ hF.hn hF.hK hF.fK hF.cb hF.hE mN hv bf;exact⟨max b ah.n,fun N hN=>⟨by omega,by omega,hb N (by omega)⟩⟩) (by
      intro t pv V' μ K' R' aG E' ah v hF mN hv bf;obtain⟨b,hb⟩:=mB t pv V' μ K' R' aG E' ah v hF hv bf;exact⟨b,fun N hN=>⟨(hb N hN).1,by rw[←mN];exact(hb N hN).2⟩⟩)
     exact⟨b,fun N hN=>.UL hw ef (hcw N hN) (fun v ai hv=>hv) fun v ai hv=>hv⟩
  ·exact hs.elim
 ·exact IE hs
theorem aaR{e0:Bool}{c:Cl SE}(h:UZ P d o V=some (e0,c)):∃op t x yt el,o.op=.binOp op t x (.const (.slice none 0 0)) yt∧P.underlying t=some (.slice el)∧bI P d V t x=.one c∧((op=.eql∧e0=true)∨(op=.neq∧e0=false)):=by
 unfold UZ at h;split at h<;>first|(cases h;done)|skip
 rename_i op t x y yt ho;split at h<;>first|(cases h;done)|skip
 rename_i el c' hu hx;split at h<;>first|(cases h;done)|skip
 ·cases h;exact⟨_,t,x,yt,el,ho,hu,hx,.inl ⟨rfl,rfl⟩⟩
 ·cases h;exact⟨_,t,x,yt,el,ho,hu,hx,.inr ⟨rfl,rfl⟩⟩
theorem Pk{a:SE}{u x:IV}(h:M3 a=some u)(hx:VR (aj P ν) R φ V.l σ x (.one (.v a))):x=u:=by
 unfold M3 at h;split at h<;>first|(cases h;done)|skip
 ·cases h;obtain⟨y,h1,h2,_⟩:=hx;simp only[aj,SE.den,aqH]at h1;subst h1;exact bV h2
 ·cases h;obtain⟨y,h1,h2,_⟩:=hx;simp only[aj,SE.den,aqH]at h1;subst h1;exact bV h2
theorem aaS(hJ:J (aj P ν) R φ V.g V.l E σ){pv:PV SE}(h:Oz P d V o=some pv):∃x,ak P 0 (aq (E d)) o σ=some (.val x σ)∧VR (aj P ν) R φ V.l σ x pv:=by
 unfold Oz at h;split at h
 ·rename_i op t x y yt ho;split at h<;>first|(cases h;done)|skip
  rename_i a b ha hb;split at h<;>first|(cases h;done)|skip
  rename_i u v hu hv;have hx:=aZ hJ d t x;have hy:=aZ hJ d t y;rw[ha]at hx;rw[hb]at hy;rw[aqL]at h;obtain⟨e,h1,rfl⟩:=h;rw[aqZ]at h1;obtain⟨w,h2,h3⟩:=h1;refine⟨w,?_,?_⟩
  ·simp only[ak,ho,Pk hu hx,Pk hv hy,h2,ret]
  ·unfold abQ at h3;split at h3<;>first|(cases h3;done)|skip
   ·cases h3;exact⟨_,rfl,.raw _,rfl⟩
   ·cases h3;exact⟨_,rfl,.raw _,rfl⟩
 ·rename_i t x ix ho;split at h<;>first|(cases h;done)|skip
  rename_i n el cs z hu ib cT;split at h<;>first|(cases h;done)|skip
  rename_i s ba aL Cv;split at h<;>first|(cases h;done)|skip
  rename_i hc;have hx:=aZ hJ d t x;have hi:=aZ hJ d 0 ix;rw[ib]at hx;rw[cT]at hi;have si:=Pk (a:=.i z) rfl hi;obtain⟨cA,hxe,bC⟩:=hx
  obtain⟨v,hv,hr⟩:=rU (pv:=pv) aL Cv bC hc.2.2 (by
   split at h
   ·rename_i ha;cases h;rw[if_pos ha]
   ·rename_i ha;rw[if_neg ha];split at h
    ·rename_i c lZ;cases h;exact⟨c,lZ,rfl⟩
    ·cases h)
  refine⟨v,?_,hr⟩;simp only[ak,ho,hu,hxe,si,aL,IV.int];rw[if_pos ⟨hc.1,hc.2.1⟩,hv];rfl
 ·cases h
theorem adI(hJ:J (aj P ν) R φ V.g V.l E σ){es:SE}{s:Nat}{c:Cl SE}(h:U0 P d V o=some (es,s,c)){z:IV}(hz:(SE.sub s es (.len es) (.i 0)).den P ν=some z):
 ∃x,ak P 0 (aq (E d)) o σ=some (.val x σ)∧VR (aj P ν) R φ V.l σ x (.one c):=by
 unfold U0 at h;split at h<;>first|(cases h;done)|skip
 rename_i c0 ho;split at h<;>first|(cases h;done)|skip
 rename_i hc;have bc:=fG hJ d c0.args.toList c0.argTypes.toList;split at h<;>first|(cases h;done)|skip
 rename_i base ca hh;rw[hh]at bc;obtain⟨x0,x1,hx,HK,qa⟩:=GV bc;split at h<;>first|(cases h;done)|skip
 rename_i t0 t1 Sz SA;split at h<;>first|(cases h;done)|skip
 rename_i et et1 het aaq;split at h<;>first|(cases h;done)|skip
 rename_i s' z' bytes aL ve Ls;split at h<;>first|(cases h;done)|skip
 rename_i bK;simp only[arl,aru,not_or,Bool.not_eq_true,Bool.not_eq_false]at bK;obtain⟨⟨bH,gm⟩,hc3⟩:=bK;have ana:=aqO gm;have aqy:bytes≤1000000:=by simpa using hc3
 have bA:s'≠0:=fun h=>by subst h;simp at bH
 split at h<;>first|(cases h;done)|skip
 rename_i fr aB raw b w aar;cases h;simp only[SE.den,aqZ]at hz;obtain⟨a1,gl,b1,⟨a2,afE,hlen⟩,h0⟩:=hz;rw[gl]at afE;cases afE
 have:a1=.tree s []:=by
  obtain⟨a,ha,h0⟩:=h0;cases ha;unfold H0 at hlen;split at hlen<;>first|(cases hlen;done)|skip
  rename_i q fs;cases hlen;simp only[mu,IV.int,gC]at h0;split at h0
  ·rename_i hc;obtain⟨rfl,_,h1,_,_⟩:=hc;have:fs=[]:=arf (by simpa using h1);rw[this]
  ·cases h0
 subst this;have aT:iN s []=true:=rfl;obtain⟨g1,new,g2,g3,_,g5⟩:=DJ hJ aar qa gl (by omega) aT (fun _=>⟨.tree s [],by simp[SE.den,gl]⟩);have ko:new=[]:=by simpa using g3
 subst ko;obtain⟨hw,ie⟩:=HK;refine⟨x0,?_,hw,ie⟩;have ajc:eA 0 s 0 0 [] x0 σ=some (.val x0 σ):=by subst ie;cases b<;>simp[eA,ret]
 have ja:kh x0=some 0:=by subst ie;cases b<;>rfl
 simp only[ak,ho,hc,dv,hx,kf,Sz,SA,nX het,nX aaq,aL,ve,Ls,rF,g1,g2,ja];rw[if_neg (by rintro(h|h);exact bA h;exact h ana),if_pos ⟨by simp,by simp,by simp;omega,by simp⟩];exact ajc
theorem XY{o:Oper}{j kt:Nat}{lA:TypeId}{es x:SE}(h:HZ P d V o=some (j,kt,lA,es,x)):
 ∃it,o.op=.next it false∧bI P d V 0 it=.one (.mp j)∧V.l[j]?=some (.mp kt x)∧1000000≤kt∧V.l[kt % 1000000]?=some (.mp lA es)∧¬gp lA=true:=by
 unfold HZ at h;split at h<;>first|(cases h;done)|skip
 rename_i it ho;split at h<;>first|(cases h;done)|skip
 rename_i j' hm;split at h<;>first|(cases h;done)|skip
 rename_i ly x' hj;split at h<;>first|(cases h;done)|skip
 rename_i hle;split at h<;>first|(cases h;done)|skip
 rename_i aqz aB XE;split at h<;>first|(cases h;done)|skip
 rename_i hk;simp only[aqH,aq6]at h;obtain⟨rfl,rfl,rfl,rfl,rfl⟩:=h;exact⟨it,ho,hm,hj,by simpa using hle,XE,hk⟩
theorem XZ(hJ:J (aj P ν) R φ V.g V.l E σ)(hn:ν.length=V.n){j id kt m i:Nat}{x0:SE}{ds Pl:List IV}{seen:List Nat}{y:IV}{ob:Ob}(hj:V.l[j]?=some (.mp kt x0))(jE:1000000≤kt)(ky:φ j=some id)(hR:R id=none)
 (yQ:∃ly z',V.l[kt % 1000000]?=some (.mp ly z'))(hm:φ (kt % 1000000)=some m)(hs:∀s∈seen,s<ds.length)(hl:Left ds (seen++[i]) Pl)(hy:ds[i]?=some y)(aA:σ.at id=some ob):
 J (aj P (ν++[y,.av [.av ds,.av Pl,y]])) R φ V.g (V.l.set j (.mp kt (.var (V.n+1)))) E (σ.put id (.jm (some m) ds.length (seen++[i]) ds.length)):=by
 have bz:=hJ.up (gW:=aj P (ν++[y,.av [.av ds,.av Pl,y]])) (fun e y h=>SE.cR P e h)
 exact(bz.sK (R':=R) (bad:=fun _=>False) (jK:=.mp kt (.var (V.n+1))) (eE:=.jm (some m) ds.length (seen++[i]) ds.length) ky hj (fun _ _=>rfl)
  (fun m hm=>by rw[hR]at hm;cases hm) (fun m _ _ _ hm=>by rw[hR]at hm;cases hm) (fun m _ _ _ hm=>by rw[hR]at hm;cases hm)
  (fun _ h=>by cases h) (fun _ _ _=>by rename_i h;cases h;exact⟨_,rfl⟩) (fun _ _ _ _ _ h=>by cases h) (fun _ _ pv _=>pv.aU) (fun _ o _ _=>o.aU)
  (fun dw=>by
   rw[gB,if_pos (Dm jE)];refine .inr ⟨jE,id,m,ds,seen++[i],Pl,[y],by simp[aj,SE.den,←hn],ky,hR,?_,hm,by rw[St.cS,if_pos rfl],fun s bf=>?_,hl,.inr ⟨i,y,rfl,by simp,hy⟩⟩
   ·obtain⟨ly,z',hz⟩:=yQ;rw[List.getElem?_set];split
    ·rename_i hh;have aa:=(aqF.1 hj).1;rw[if_pos aa];exact⟨_,_,rfl⟩
    ·exact⟨_,_,hz⟩
   ·simp only[List.mem_append,List.mem_singleton]at bf;rcases bf with bf|rfl
    ·exact hs s bf
    ·exact(aqF.1 hy).1)).2
theorem aaT(ih:Af P C Q cfg self kx d f0 ops rd df kk CX sk l)(hJ:J (aj P ν) R φ V.g V.l E σ)(hn:ν.length=V.n)(hK:K.length=V.lv)(cb:(E d).n=V.nt)
 (hd:∀t,o.dst=some t→t<(E d).n)(mO:∀x,lR ((E d).put o.dst x) sk)(d_:KS P C Q d E K ν V.nt kk (fun N e σ=>CX N .normal e σ))(mB:KP P C Q d E K ν V.nt kx (fun N v e σ=>CX N (.bU v) e σ))(hw:aJ o ops (E d)=true)
 {j kt:Nat}{lA:TypeId}{es x:SE}(hit:HZ P d V o=some (j,kt,lA,es,x))
 (hs:(U1 P j kt lA es x V fun pv V=>gY P cfg self kx d f0 false ops sk l (V.bJ d o.dst pv) kk).sat P C Q K ν):
 ∃b,∀N,b≤N→dg P N rd ops (o::l) (E d) df σ (CX N):=by
 obtain⟨it,ho,hm,hj,jE,XE,dV⟩:=XY hit;have o_:=aZ hJ d 0 it;rw[hm]at o_;obtain⟨id,kt3,x3,g1,g2,g3⟩:=o_;rw[hj]at g2;cases g2;rw[if_pos (Dm jE)]at g3;have dt:=hJ.obj j _ hj;rw[gB,if_pos (Dm jE)]at dt;rcases dt with⟨h0,_⟩|⟨_,br,m,ds,seen,rem,rest,e1,e2,e3,e4,e5,e6,e7,e8,e9⟩
 ·exact(abN jE h0).elim
 rw[g1]at e2;cases e2;have cV:x.den P ν=some (.av (.av ds::.av rem::rest)):=e1;have O2:=hJ.obj _ _ XE;rw[gB,if_neg dV]at O2;obtain⟨id2,IF,clock,SK,c1,c2,c3,c4,c5,c6⟩:=O2;rw[e5]at c2;cases c2;have j2:es.den P ν=some (.av SK):=c1;unfold U1 at hs;split at hs<;>first|(exact hs.elim)|skip
 obtain⟨l6,Pl,d1,⟨r,d2⟩,qg,ajd⟩:=hs;rw[cV]at d2;simp only[aqH,IV.av.injEq,arF]at d2;obtain⟨rfl,rfl,_⟩:=d2;rw[j2]at d1;simp only[aqH,IV.av.injEq]at d1;subst d1;have hlen:IF.length=SK.length:=All2.len c5
 obtain⟨B1,Ah⟩:∃b,∀N,b≤N→(∀i,i<IF.length→i∈seen)→dg P N rd ops l ((E d).put o.dst (.av [.bool false])) df σ (CX N):=by
  by_cases bp:∀i,i<IF.length→i∈seen
  ·obtain⟨b,hb⟩:=fv (V1:=V) (μ:=[]) (x:=.av [.bool false]) (pv:=.tu [(false,[.v (.b false)])]) ih mO hd cb d_ mB (by rw[aqY];exact hJ) (by rw[aqY];exact hn) (ars K) hK rfl (fun _ _=>rfl) rfl
    (by rw[aqY];exact⟨_,rfl,⟨_,rfl,.raw (.bool false),rfl,.raw _,rfl⟩,trivial⟩) (by rw[aqY];exact qg (e8.empty fun i hi=>bp i (by rw[hlen];exact hi)))
   exact⟨b,fun N hN _=>hb N hN⟩
  ·exact⟨0,fun _ _ h=>absurd h bp⟩
 obtain⟨B2,IG⟩:=Oa (p:=fun i N=>∀en,IF[i]?=some en→i∉seen→dg P N rd ops l ((E d).put o.dst (.av [.bool true,lift en.1,en.2.1])) df (σ.put id (.jm (some m) IF.length (seen++[i]) IF.length)) (CX N)) IF.length fun i hi=>by
  by_cases w7:i∈seen
  ·exact⟨0,fun _ _ _ _ h=>absurd w7 h⟩
  obtain⟨q,y,hq,hy,hl⟩:=e8.has (by rw[←hlen];exact hi) w7;have eQ:=XZ hJ hn hj jE g1 e3 e4 e5 e7 hl hy e6
  obtain⟨b,hb⟩:=fv (V1:={V with n:=V.n+2,l:=V.l.set j (.mp kt (.var (V.n+1)))}) (μ:=[y,.av [.av SK,.av (rem.eraseIdx q),y]]) (x:=.av [.bool true,lift IF[i].1,IF[i].2.1]) (pv:=.tu [(false,[.v (.b true)]),(false,[.un]),(false,[.un])]) ih mO hd cb d_ mB eQ (by simp[hn]) (ars K) hK rfl (fun _ _=>rfl) rfl
   ⟨_,rfl,⟨_,rfl,.raw (.bool true),rfl,.raw _,rfl⟩,⟨_,rfl,trivial⟩,⟨_,rfl,trivial⟩,trivial⟩ (ajd q y hq)
  refine⟨b,fun N hN en om _=>?_⟩;rw[aqE hi]at om;cases om;rw[hlen];exact hb N hN
 refine⟨max σ.n (max B1 B2),fun N hN=>.aij hw ho g3 (by rw[hlen];exact e6) c4 c6 (by omega) (Ah N (by omega)) fun i en om w7=>IG i (aqF.1 om).1 N (by omega) en om w7⟩
theorem aaU(hC:iP P C)(aW:oE P C Q self)(ih:Af P C Q cfg self kx d f0 ops rd df kk CX sk l)(hJ:J (aj P ν) R φ V.g V.l E σ)(hn:ν.length=V.n)(hK:K.length=V.lv)(cb:(E d).n=V.nt)
 (hd:∀t,o.dst=some t→t<(E d).n)(mO:∀x,lR ((E d).put o.dst x) sk)(d_:KS P C Q d E K ν V.nt kk (fun N e σ=>CX N .normal e σ))(mB:KP P C Q d E K ν V.nt kx (fun N v e σ=>CX N (.bU v) e σ))(hw:aJ o ops (E d)=true)
 (hs:(AQ P cfg self kx d f0 false o V fun pv V=>gY P cfg self kx d f0 false ops sk l (V.bJ d o.dst pv) kk).sat P C Q K ν):
 ∃b,∀N,b≤N→dg P N rd ops (o::l) (E d) df σ (CX N):=by
 unfold AQ at hs;simp only[ara,if_false]at hs;split at hs
 ·rename_i hit;exact aaT ih hJ hn hK cb hd mO d_ mB hw hit hs
 split at hs
 ·rename_i e0 c bx;obtain⟨op,t,x,yt,el,ho,hu,hx,fi⟩:=aaR bx;have p5:=aZ hJ d t x;rw[hx]at p5
  have next:∀b:Bool,(gY P cfg self kx d f0 false ops sk l (V.bJ d o.dst (.one (.v (.b b)))) kk).sat P C Q K ν→∃B,∀N,B≤N→dg P N rd ops l ((E d).put o.dst (.raw (.bool b))) df σ (CX N):=fun b h=>by
   have:=fv (V1:=V) (μ:=[]) (x:=.raw (.bool b)) (pv:=.one (.v (.b b))) ih mO hd cb d_ mB (by rw[aqY];exact hJ) (by rw[aqY];exact hn) (ars K) hK rfl (fun _ _=>rfl) rfl (by rw[aqY];exact⟨.raw (.bool b),rfl,.raw _,rfl⟩) (by rw[aqY];exact h);exact this
  have two:∀z q es,z.den P ν=some (.tree q es)→VH (aq (E d) x)→(aq (E d) x=.raw (.slice none 0 0)∨(∃s,aq (E d) x=.tree s [])→es=[])→(ab.two z (gY P cfg self kx d f0 false ops sk l (V.bJ d o.dst (.one (.v (.b e0)))) kk) (gY P cfg self kx d f0 false ops sk l (V.bJ d o.dst (.one (.v (.b (!e0))))) kk)).sat P C Q K ν→
   ∃b,∀N,b≤N→dg P N rd ops (o::l) (E d) df σ (CX N):=by
   intro z q es hz oi gl dE;obtain⟨q',aB,h1,h2,h3⟩:=dE;rw[hz]at h1;cases h1;obtain⟨B1,Ah⟩:=next _ h2
   by_cases he:es=[]
   ·obtain⟨B2,IG⟩:=next _ (h3 he)
    exact⟨max σ.n (max B1 B2),fun N hN=>.isNil hw (by omega) ho fi hu oi (fun _=>Ah N (by omega)) (fun _=>IG N (by omega))⟩
   ·exact⟨max σ.n B1,fun N hN=>.isNil hw (by omega) ho fi hu oi (fun _=>Ah N (by omega)) (fun h=>absurd (gl h) he)⟩
  unfold afc at hs;split at hs<;>first|(exact hs.elim)|skip
  ·obtain⟨y,h1,h2,_⟩:=p5;obtain⟨q,es,h3,bf⟩:=hs;have cW:=h3.symm.trans h1;cases cW;obtain⟨g1,g2⟩:=Pj h2;exact two _ q es h3 g1 g2 ⟨q,es,h3,bf⟩
  ·obtain⟨y,h1,h2,_⟩:=p5;obtain⟨q,es,h3,bf⟩:=hs;have cW:=h3.symm.trans h1;cases cW;obtain⟨g1,g2⟩:=Pj h2;exact two _ q es h3 g1 g2 ⟨q,es,h3,bf⟩
  ·rename_i b s;obtain⟨_,h1⟩:=p5;obtain⟨B,hB⟩:=next _ hs
   cases b with
   |true=>
    simp only[if_true]at h1 hB;exact⟨max σ.n B,fun N hN=>.isNil hw (by omega) ho fi hu (.inl h1) (fun h=>absurd h1 h) (fun _=>hB N (by omega))⟩
   |false=>
    simp only[ara,if_false]at h1 hB;exact⟨max σ.n B,fun N hN=>.isNil hw (by omega) ho fi hu (.inr (.inl h1)) (fun _=>hB N (by omega)) (fun h=>by rw[h1]at h;rcases h with h|⟨_,h⟩<;>cases h)⟩
  ·rename_i j;split at hs<;>first|(exact hs.elim)|skip
   rename_i s0 st0 aqA fr0 iA hj;obtain⟨s1,rS,ry,rT,z1,eP,b1,b2,b3⟩:=p5;rw[hj]at b1;cases b1;have pc:iA.den P ν=some (.tree s0 eP):=b2;refine two _ s0 eP pc ?_ ?_ hs
   ·rcases b3 with⟨_,_,b3|b3⟩|⟨_,_,_,_,_,_,_,b3,_⟩
    ·exact .inl b3
    ·exact .inr (.inl b3)
    ·exact .inr (.inr (.inr ⟨_,_,_,_,_,_,b3⟩))
   ·intro h;rcases b3 with⟨_,b4,_⟩|⟨_,_,_,_,_,_,_,b3,_⟩
    ·exact arf b4
    ·rw[b3]at h;rcases h with h|⟨_,h⟩<;>cases h
 split at hs
 ·rename_i es s c hq;split at hq
  ·obtain⟨⟨z,hz⟩,hk⟩:=hs;obtain⟨x,h1,h2⟩:=adI hJ hq hz;obtain⟨b,hb⟩:=fv (V1:=V) (μ:=[]) (x:=x) (pv:=.one c) ih mO hd cb d_ mB (by rw[aqY];exact hJ) (by rw[aqY];exact hn) (ars K) hK rfl (fun _ _=>rfl) rfl (by rw[aqY];exact h2) (by rw[aqY];exact hk);exact⟨max b σ.n,fun N hN=>.val hw h1 (by omega) (hb N (by omega))⟩
  ·cases hq
 ·split at hs
  ·rename_i pv hq;split at hq
   ·obtain⟨x,h1,h2⟩:=aaS hJ hq;obtain⟨b,hb⟩:=fv (V1:=V) (μ:=[]) (x:=x) (pv:=pv) ih mO hd cb d_ mB (by rw[aqY];exact hJ) (by rw[aqY];exact hn) (ars K) hK rfl (fun _ _=>rfl) rfl (by rw[aqY];exact h2) (by rw[aqY];exact hs);exact⟨max b σ.n,fun N hN=>.val hw h1 (by omega) (hb N (by omega))⟩
   ·cases hq
  ·exact XX hC aW ih hJ hn hK cb hd mO d_ mB hw hs
theorem aaV{o:Oper}{rest:List Oper}{t:TypeId}{pv:PV SE}(h:U2 P d V o rest=some (t,pv)):
 ∃x p b,o.op=.makeInterface t x∧o.dst=some b∧o.guard=none∧rest=[p]∧p.op=.panic (.tmp b)∧p.guard=none∧(∀u,(P.underlying t=some (.interface u)→False)∧(P.underlying t=none→False))∧pv=bI P d V t x:=by
 unfold U2 at h;split at h<;>first|(cases h;done)|skip
 rename_i t1 x1 p1 ho;split at h<;>first|(cases h;done)|skip
 rename_i a b hp fS hg1 SR;split at h<;>first|(cases h;done)|skip
 rename_i hc;simp only[aqG]at hc;obtain⟨bT,gm⟩:=hc;have:=aqO bT;subst this;cases h;refine⟨x1,p1,a,ho,fS,hg1,rfl,hp,SR,fun u=>⟨fun hu=>?_,fun hu=>?_⟩,rfl⟩
 ·unfold GM at gm;rw[hu]at gm;cases gm
 ·unfold GM at gm;rw[hu]at gm;cases gm
theorem SU(hC:iP P C)(aW:oE P C Q self):∀(l:List Oper) (sk:List Nat),Af P C Q cfg self kx d f0 ops rd df kk CX sk l
 |[],sk=>by
  intro V ν K R φ E σ _ hs hJ hn hK cb d_ _;obtain⟨b,hb⟩:=d_.now hJ hn hK hs;exact⟨b,fun N hN=>.nil (hb N hN).2⟩
 |o::l,sk=>by
  intro V ν K R φ E σ DZ hs hJ hn hK cb d_ mB;have ih:∀sk,Af P C Q cfg self kx d f0 ops rd df kk CX sk l:=fun sk=>SU hC aW l sk;simp only[gY]at hs
  have X0:∀t,o.dst=some t→t<V.nt:=by
   intro t ht;rw[ht]at hs;by_cases aa:t<V.nt
   ·exact aa
   ·have:arH t V.nt=false:=by
     cases h:arH t V.nt
     ·rfl
     ·exact absurd (by simpa using h) aa
    simp only[this,avH,if_true]at hs;exact hs.elim
  rw[if_neg]at hs
  rotate_left
  ·cases hh:o.dst with
   |none=>simp
   |some t=>simp[X0 t hh]
  ·have hd:∀t,o.dst=some t→t<(E d).n:=by rw[cb];exact X0
   simp only[ara,if_false]at hs;split at hs
   ·rename_i t pv aaW;obtain⟨x,p,b0,ho,fS,hg1,rfl,hp,SR,hty,rfl⟩:=aaV aaW;have hx:=aZ hJ d t x;have bz:=BE (d:=d) (dst:=o.dst) (x:=.da t (aq (E d) x)) hJ;have Js:(V.js d o.dst).ln=V.ln:=BF ..
    obtain⟨fK,jU⟩:=h_ Js
    obtain⟨b,hb⟩:=mB t _ (V.js d o.dst) [] K R φ _ σ (aq (E d) x) ⟨ars K,by rw[fK];exact hK,jU,by rw[aqY];exact bz,by rw[aqY,DV];exact hn,fun j hj=>gr _ _ _ (by omega),by rw[bY,eK]⟩
     (by rw[aqY];cases o.dst<;>exact hx) (by rw[aqY];exact hs)
    rw[bY]at hb;refine⟨max b σ.n,fun N hN=>?_⟩;have Pm:aJ o ops (E d)=true:=by unfold aJ;rw[hg1]
    have ef:ak P 0 (aq (E d)) o σ=some (.val (.da t (aq (E d) x)) σ):=by
     simp only[ak,ho];split
     ·rename_i u hu;exact((hty u).1 hu).elim
     ·rfl
     ·rename_i hu;exact((hty #[]).2 hu).elim
    refine .val Pm ef (by omega) ?_;have aa:b0<(E d).n:=hd b0 fS;refine .panic (by unfold aJ;rw[SR]) (v:=.da t (aq (E d) x)) ?_ (hb N (by omega)).2;simp only[ak,hp,aq];rw[fS,dH aa]
   rename_i aaW;clear aaW
   have fF:∀(V1:SS),J (aj P ν) R φ V1.g V1.l E σ→V1.n=V.n→V1.ln=V.ln→aJ o ops (E d)=true→
    (match xw P cfg d false o V1 with
     |some (g,args)=>EW P cfg self kx d f0 o.dst g args V1 fun V=>gY P cfg self kx d f0 false ops (sR sk o.dst) l V kk
     |none=>AQ P cfg self kx d f0 false o V1 fun pv V=>gY P cfg self kx d f0 false ops (sR sk o.dst) l (V.bJ d o.dst pv) kk).sat P C Q K ν→∃b,∀N,b≤N→dg P N rd ops (o::l) (E d) df σ (CX N):=by
    intro V1 bz dD CM hw dw;obtain⟨fK,jU⟩:=h_ CM;split at dw
    ·rename_i g c8 hj;obtain⟨c,f,bs,ho,hc,hf,rfl⟩:=XW hj;have nM:=aZ bz d 0 f;rw[hf]at nM;have bc:=fG bz d c.args.toList c.argTypes.toList
     have bO:∃fn,P.funcs[g]?=some fn∧fn.body.isSome=true∧(fn.name != "runtime.NumGoroutine")=true:=by
      by_cases hh:∃fn,P.funcs[g]?=some fn∧fn.body.isSome=true∧(fn.name != "runtime.NumGoroutine")=true
      ·exact hh
      ·exfalso;unfold EW at dw;simp only at dw;split at dw
       ·exact dw
       ·rename_i hfb
        obtain⟨n,hn⟩:=aaM (P:=P) (cfg:=cfg) (self:=self) (kx:=fun _ _ _=>.fail 0) (d:=d) (f0:=f0) (dst:=o.dst) (V:={V1 with lv:=V1.lv+1}) (k:=fun pv W=>.bad 999999 (W.bJ d o.dst pv).n (W.bJ d o.dst pv).lv 0 0 (W.bJ d o.dst pv).g (W.bJ d o.dst pv).l (W.bJ d o.dst pv).g (W.bJ d o.dst pv).l) (g:=g)
         (c8:=gX P d V1 c.args.toList c.argTypes.toList++bs.map fun(p:Nat×Nat)=>.one (.pt p.1 0 p.2)) (fun fn h1 h2 h3=>hh ⟨fn,h1,h2,h3⟩)
        rw[hn]at hfb;cases hfb
     obtain⟨fn,bO,hb,kR⟩:=bO;obtain⟨ys,ij,qb⟩:=jT (args:=c.args.toList.map (aq (E d))) nM bO hb kR
     have ef:ak P 0 (aq (E d)) o σ=some (.enter g (c.args.toList.map (aq (E d))++ys)):=by
      simp only[ak,ho,hc];exact ij
     obtain⟨_,_,_,_,b,hcw⟩:=aaO (RW:=fun N v ai=>ai.n≤N∧dg P N rd ops l ((E d).put o.dst v) df ai (CX N)) (PW:=fun N v ai=>CX N (.bU v) (E d) ai) hC aW bz (by rw[dD];exact hn) (by rw[fK];exact hK) (by rw[jU];exact cb) (bc.app qb) hd dw (by
      intro H vs R' aG E' ah v Lo Cj anb aaX hE' xK bf
      obtain⟨b,hb⟩:=ih (sR sk o.dst) H (ν++vs) K R' aG E' ah (by rw[xK];exact DZ.put o.dst _) bf Lo Cj (by rw[anb,fK];exact hK) (by rw[xK,eK,aaX,jU];exact cb) (by
       rw[aaX,jU];exact d_.fwd (ars K) hE' (by rw[xK,eK])) (by
       rw[aaX,jU];exact mB.fwd (ars K) hE' (by rw[xK,eK]))
      refine⟨max b ah.n,fun N hN=>⟨by omega,by omega,?_⟩⟩;have:=hb N (by omega);rw[xK]at this;exact this) (by
      intro t pv V' μ K' R' aG E' ah v hF mN hv bf;obtain⟨b,hb⟩:=mB t pv V' μ K' R' aG E' ah v (jU▸hF) hv bf;exact⟨b,fun N hN=>⟨(hb N hN).1,by rw[←mN];exact(hb N hN).2⟩⟩)
     exact⟨b,fun N hN=>.UL hw ef (hcw N hN) (fun v ai hv=>hv) fun v ai hv=>hv⟩
    ·exact aaU hC aW (ih (sR sk o.dst)) bz (by rw[dD];exact hn) (by rw[fK];exact hK) (by rw[jU];exact cb) hd (fun x=>DZ.put o.dst x) (by rw[jU];exact d_) (by rw[jU];exact mB) hw dw
   have BJ:∀(V1:SS),J (aj P ν) R φ V1.g V1.l E σ→V1.n=V.n→V1.ln=V.ln→aJ o ops (E d)=false→
    (gY P cfg self kx d f0 false ops (EY sk o.dst) l (V1.js d o.dst) kk).sat P C Q K ν→∃b,∀N,b≤N→dg P N rd ops (o::l) (E d) df σ (CX N):=by
    intro V1 bz dD CM hw dw;have Js:(V1.js d o.dst).ln=V.ln:=by rw[BF,CM]
    obtain⟨fK,jU⟩:=h_ Js
    obtain⟨b,hb⟩:=ih (EY sk o.dst) (V1.js d o.dst) ν K R φ _ σ (by rw[bY];exact DZ.add hd) dw (BE (x:=.undef) bz) (by rw[DV,dD];exact hn) (by rw[fK];exact hK) (by rw[bY,eK,jU];exact cb) (by
     rw[jU];have:=d_.fwd (yR:=[]) (E1:=qn E d ((E d).put o.dst .undef)) (ars K) (fun j hj=>gr _ _ _ (by omega)) (by rw[bY,eK]);rw[aqY]at this;exact this) (by
     rw[jU];have:=mB.fwd (yR:=[]) (E1:=qn E d ((E d).put o.dst .undef)) (ars K) (fun j hj=>gr _ _ _ (by omega)) (by rw[bY,eK]);rw[aqY]at this;exact this)
    refine⟨b,fun N hN=>.skip hw ?_⟩;have:=hb N hN;rw[bY]at this;exact this
   obtain⟨w1,w2,w3⟩:=O9 (o:=o) hJ cb (ops:=ops)
   have w2':(if mq sk ops o=true then Want.skip else sO ops d V o)=.skip→aJ o ops (E d)=false:=fun h=>by
    by_cases hq:mq sk ops o=true
    ·exact DZ.ab7 hq
    ·rw[if_neg hq]at h;exact w2 h
   have w0:∀w,w≠.skip→(if mq sk ops o=true then Want.skip else sO ops d V o)=w→sO ops d V o=w:=fun w hw h=>by
    by_cases hq:mq sk ops o=true
    ·rw[if_pos hq]at h;exact absurd h.symm hw
    ·rw[if_neg hq]at h;exact h
   split at hs
   ·rename_i hh;exact fF V hJ rfl rfl (w1 (w0 _ (by simp) hh)) hs
   ·rename_i hh;exact BJ V hJ rfl rfl (w2' hh) hs
   ·rename_i t e want hh;replace hh:=w0 _ (by simp) hh;obtain⟨hg,hb⟩:=w3 _ _ _ hh;rcases hs with⟨h1,hs⟩|⟨h1,hs⟩
    ·obtain⟨aA,bz⟩:=J.refine hJ hg h1;have hw:=hb _ aA;cases want
     ·exact BJ _ bz rfl rfl (by rw[hw];rfl) hs
     ·exact fF _ bz rfl rfl (by rw[hw];rfl) hs
    ·obtain⟨aA,bz⟩:=J.refine hJ hg h1;have hw:=hb _ aA;cases want
     ·exact fF _ bz rfl rfl (by rw[hw];rfl) hs
     ·exact BJ _ bz rfl rfl (by rw[hw];rfl) hs
   ·exact hs.elim
end Go.Ev
namespace Go.Ev
variable{P:Program}{N:Nat}{σ ah:St}{R R':Rs}{φ aG:Ph}{E:Nat→Env}{ν:List IV}{ro:Nat}{ι:Io}{w:World}{cfg:bj}{self:mZ}
variable{C:Cr}{Q:IV→Prop}{K:List (List IV→Prop)}{V:SS}{d f0:Nat}{o:Oper}{k:PV SE→SS→ab}{L:List (LO SE)}{Γ:Gm SE}{rd:Option Nat}{df:List Df}
variable{fr:Bool}{kx:Kx}{sk:List Nat}{ops:Array Oper}{pl:dM}{l:List (Oper×Nat)}{kk:SS→ab}{CX:Nat→jG}
def Nc(fr:Bool)(P:Program)(C:Cr)(Q:IV→Prop)(cfg:bj)(self:mZ)(kx:Kx)(d f0:Nat)(ops:Array Oper)(pl:dM)(kk:SS→ab)(CX:Nat→jG)(sk:List Nat)(l:List (Oper×Nat)):Prop:=
 ∀(V:SS) ν K R φ E σ,lR (E d) sk→(gY P cfg self kx d f0 true ops sk (l.map atp) V kk).sat P C Q K ν→J (aj P ν) R φ V.g V.l E σ→ν.length=V.n→K.length=V.lv→(E d).n=V.nt→KS P C Q d E K ν V.nt kk (fun N e σ=>CX N .normal e σ)→
  ∃e' ah,fT P 0 ops pl fr l (E d) σ e' ah∧∃b,∀N,b≤N→ah.n≤N∧CX N .normal e' ah
theorem wx(ih:Nc fr P C Q cfg self kx d f0 ops pl kk CX sk l){dst:Option Nat}(mO:∀x,lR ((E d).put dst x) sk)(hd:∀t,dst=some t→t<(E d).n){nt:Nat}(cb:(E d).n=nt)(d_:KS P C Q d E K ν nt kk (fun N e σ=>CX N .normal e σ))
 {V1:SS}{μ:List IV}{R1:Rs}{du:Ph}{ai:St}{x:IV}{pv:PV SE}
 (hJ:J (aj P (ν++μ)) R1 du V1.g V1.l E ai)(hn:(ν++μ).length=V1.n)(fK:K.length=V1.lv)(jU:V1.nt=nt)
 (hx:VR (aj P (ν++μ)) R1 du V1.l ai x pv)(hs:(gY P cfg self kx d f0 true ops sk (l.map atp) (V1.bJ d dst pv) kk).sat P C Q K (ν++μ)):
 ∃e' ah,fT P 0 ops pl fr l ((E d).put dst x) ai e' ah∧∃b,∀N,b≤N→ah.n≤N∧CX N .normal e' ah:=by
 have bz:=BD (d:=d) (dst:=dst) hJ hx hd;have Ke:(V1.bJ d dst pv).nt=nt:=by cases dst<;>exact jU
 have aaL:(V1.bJ d dst pv).lv=V1.lv:=by cases dst<;>rfl
 have:=ih (V1.bJ d dst pv) (ν++μ) K R1 du _ ai (by rw[bY];exact mO x) hs bz (by rw[DU];exact hn) (by rw[aaL];exact fK) (by rw[bY,eK,cb,Ke]) (by
  rw[Ke];exact d_.fwd (ars K) (fun j hj=>by rw[gr _ _ _ (by omega)]) (by rw[bY,eK]))
 rw[bY]at this;exact this
theorem VI(cfg:bj)(g:FuncId):wJ (zY cfg) g=false:=by
 cases h:wJ (zY cfg) g with
 |false=>rfl
 |true=>
  unfold wJ zY at h;simp only[aqG]at h;obtain⟨aa,h⟩:=h;obtain⟨n,hn,hg⟩:=aum.1 h;have:=aqO hg;have h2:=(arN.1 hn).2;simp at h2 aa;omega
theorem aaY{j:Nat}(hC:iP P C)(hq:∀g,wJ cfg g=true→fr=true)(ih:Nc fr P C Q cfg self kx d f0 ops pl kk CX sk l)(hJ:J (aj P ν) R φ V.g V.l E σ)(hn:ν.length=V.n)(hK:K.length=V.lv)(cb:(E d).n=V.nt)
 (hd:∀t,o.dst=some t→t<(E d).n)(mO:∀x,lR ((E d).put o.dst x) sk)(d_:KS P C Q d E K ν V.nt kk (fun N e σ=>CX N .normal e σ))(hw:aJ o ops (E d)=true)
 (hs:(AQ P cfg self kx d f0 true o V fun pv V=>gY P cfg self kx d f0 true ops sk (l.map atp) (V.bJ d o.dst pv) kk).sat P C Q K ν):
 ∃e' ah,fT P 0 ops pl fr ((o,j)::l) (E d) σ e' ah∧∃b,∀N,b≤N→ah.n≤N∧CX N .normal e' ah:=by
 have IE:(fE P d o V fun pv V=>gY P cfg self kx d f0 true ops sk (l.map atp) (V.bJ d o.dst pv) kk).sat P C Q K ν→∃e' ah,fT P 0 ops pl fr ((o,j)::l) (E d) σ e' ah∧∃b,∀N,b≤N→ah.n≤N∧CX N .normal e' ah:=by
  intro hs;obtain⟨x,ai,R1,du,pv,V1,μ,h1,h2,h3,h4,h5,h6⟩:=XJ hJ hn hs;obtain⟨e',ah,g1,g2⟩:=wx ih mO hd cb d_ h2 h4 (by rw[(h_ h5).1];exact hK) (h_ h5).2 h3 h6;exact⟨e',ah,.val hw h1 g1,g2⟩
 unfold AQ at hs;simp only[if_true,atA,avI,ara,if_false]at hs;unfold HY at hs;split at hs
 ·rename_i c ho;unfold UY at hs;split at hs
  ·exact IE hs
  ·rename_i f hc;split at hs<;>first|(exact hs.elim)|skip
   rename_i g bs hf;simp only at hs;split at hs
   ·split at hs
    ·simp only[atA,avI,ara,if_false]at hs;exact hs.elim
    ·exact hs.elim
   split at hs
   ·rename_i hp;simp only[aqG,arP]at hp;obtain⟨gb,tI⟩:=hp;subst gb
    have anc:∃(args:List IV) (v:IV) (ai:St) (R1:Rs) (du:Ph) (pv:PV SE) (V1:SS) (μ:List IV),ak P 0 (aq (E d)) o σ=some (.enter g args)∧(∀ro,gy P ro g args σ v ai)∧(ai=σ∨∃ob,ai=σ.add ob)∧J (aj P (ν++μ)) R1 du V1.g V1.l E ai∧VR (aj P (ν++μ)) R1 du V1.l ai v pv∧(ν++μ).length=V1.n∧V1.ln=V.ln∧
     (gY P cfg self kx d f0 true ops sk (l.map atp) (V1.bJ d o.dst pv) kk).sat P C Q K (ν++μ):=by
     split at hs
     ·exact LG hC hJ hn ‹_› ho hc hf hs
     ·exact LF hC hJ hn ho hc hf hs
    obtain⟨args,v,ai,R1,du,pv,V1,μ,ef,p_,so,g1,g2,g3,g4,g5⟩:=anc;obtain⟨e',ah,r1,r2⟩:=wx ih mO hd cb d_ g1 g3 (by rw[(h_ g4).1];exact hK) (h_ g4).2 g2 g5;rcases so with rfl|⟨ob,rfl⟩
    ·exact⟨e',ah,.HM hw ef p_ r1,r2⟩
    ·exact⟨e',ah,.UI (hq g tI) hw ef p_ r1,r2⟩
   split at hs
   ·rename_i hp;simp only[aqG,arP]at hp;have gb:=hp.1;subst gb;obtain⟨args,v,ai,R1,du,pv,V1,μ,ef,p_,rfl,g1,g2,g3,g4,g5⟩:=O8 hC hJ hn ho hc hf hs;obtain⟨e',ah,r1,r2⟩:=wx ih mO hd cb d_ g1 g3 (by rw[(h_ g4).1];exact hK) (h_ g4).2 g2 g5;exact⟨e',ah,.HM hw ef p_ r1,r2⟩
   split at hs
   ·split at hs<;>exact hs.elim
   split at hs
   ·rename_i hp;simp only[aqG,arP]at hp;have gb:=hp.1;subst gb;split at hs<;>first|(exact hs.elim)|skip
    rename_i zs V' fn hr bO;split at hs<;>first|(exact hs.elim)|skip
    rename_i bK;simp only[aqG]at bK;obtain⟨g',args,z,R1,pv,V1,μ,h1,h2,h3,h4,h5,h6,h7⟩:=O7 hC hJ hn ho hc hf hr bO bK.1.2 bK.2 bK.1.1 hs;obtain⟨e',ah,g1,g2⟩:=wx ih mO hd cb d_ h3 h5 (by rw[(h_ h6).1];exact hK) (h_ h6).2 h4 h7;exact⟨e',ah,.HM hw h1 h2 g1,g2⟩
   ·exact hs.elim
  ·exact hs.elim
 ·exact IE hs
theorem D0(hC:iP P C)(hq:∀g,wJ cfg g=true→fr=true):∀(l:List (Oper×Nat)) (sk:List Nat),Nc fr P C Q cfg self kx d f0 ops pl kk CX sk l
 |[],sk=>by
  intro V ν K R φ E σ _ hs hJ hn hK cb d_;exact⟨E d,σ,.nil _ _,d_.now hJ hn hK hs⟩
 |(o,j)::l,sk=>by
  intro V ν K R φ E σ DZ hs hJ hn hK cb d_;have ih:∀sk,Nc fr P C Q cfg self kx d f0 ops pl kk CX sk l:=fun sk=>D0 hC hq l sk;simp only[arC,gY,if_true]at hs
  have X0:∀t,o.dst=some t→t<V.nt:=by
   intro t ht;rw[ht]at hs;by_cases aa:t<V.nt
   ·exact aa
   ·have:arH t V.nt=false:=by
     cases h:arH t V.nt
     ·rfl
     ·exact absurd (by simpa using h) aa
    simp only[this,avH,if_true]at hs;exact hs.elim
  rw[if_neg]at hs
  rotate_left
  ·cases hh:o.dst with
   |none=>simp
   |some t=>simp[X0 t hh]
  ·have hd:∀t,o.dst=some t→t<(E d).n:=by rw[cb];exact X0
   have fF:∀(V1:SS),J (aj P ν) R φ V1.g V1.l E σ→V1.n=V.n→V1.ln=V.ln→aJ o ops (E d)=true→
    (match xw P cfg d true o V1 with
     |some (g,args)=>EW P cfg self kx d f0 o.dst g args V1 fun V=>gY P cfg self kx d f0 true ops (sR sk o.dst) (l.map atp) V kk
     |none=>AQ P cfg self kx d f0 true o V1 fun pv V=>gY P cfg self kx d f0 true ops (sR sk o.dst) (l.map atp) (V.bJ d o.dst pv) kk).sat P C Q K ν→
    ∃e' ah,fT P 0 ops pl fr ((o,j)::l) (E d) σ e' ah∧∃b,∀N,b≤N→ah.n≤N∧CX N .normal e' ah:=by
    intro V1 bz dD CM hw dw;obtain⟨fK,jU⟩:=h_ CM;have:xw P cfg d true o V1=none:=by simp[xw]
    rw[this]at dw;exact aaY hC hq (ih (sR sk o.dst)) bz (by rw[dD];exact hn) (by rw[fK];exact hK) (by rw[jU];exact cb) hd (fun x=>DZ.put o.dst x) (by rw[jU];exact d_) hw dw
   have BJ:∀(V1:SS),J (aj P ν) R φ V1.g V1.l E σ→V1.n=V.n→V1.ln=V.ln→aJ o ops (E d)=false→
    (gY P cfg self kx d f0 true ops (EY sk o.dst) (l.map atp) (V1.js d o.dst) kk).sat P C Q K ν→∃e' ah,fT P 0 ops pl fr ((o,j)::l) (E d) σ e' ah∧∃b,∀N,b≤N→ah.n≤N∧CX N .normal e' ah:=by
    intro V1 bz dD CM hw dw;have Js:(V1.js d o.dst).ln=V.ln:=by rw[BF,CM]
    obtain⟨fK,jU⟩:=h_ Js
    obtain⟨e',ah,g1,g2⟩:=ih (EY sk o.dst) (V1.js d o.dst) ν K R φ _ σ (by rw[bY];exact DZ.add hd) dw (BE (x:=.undef) bz) (by rw[DV,dD];exact hn) (by rw[fK];exact hK) (by rw[bY,eK,jU];exact cb) (by
     rw[jU];have:=d_.fwd (yR:=[]) (E1:=qn E d ((E d).put o.dst .undef)) (ars K) (fun j hj=>gr _ _ _ (by omega)) (by rw[bY,eK]);rw[aqY]at this;exact this)
    rw[bY]at g1;exact⟨e',ah,.skip hw g1,g2⟩
   obtain⟨w1,w2,w3⟩:=O9 (o:=o) hJ cb (ops:=ops)
   have w2':(if mq sk ops o=true then Want.skip else sO ops d V o)=.skip→aJ o ops (E d)=false:=fun h=>by
    by_cases hq:mq sk ops o=true
    ·exact DZ.ab7 hq
    ·rw[if_neg hq]at h;exact w2 h
   have w0:∀w,w≠.skip→(if mq sk ops o=true then Want.skip else sO ops d V o)=w→sO ops d V o=w:=fun w hw h=>by
    by_cases hq:mq sk ops o=true
    ·rw[if_pos hq]at h;exact absurd h.symm hw
    ·rw[if_neg hq]at h;exact h
   split at hs
   ·rename_i hh;exact fF V hJ rfl rfl (w1 (w0 _ (by simp) hh)) hs
   ·rename_i hh;exact BJ V hJ rfl rfl (w2' hh) hs
   ·rename_i t e want hh;replace hh:=w0 _ (by simp) hh;obtain⟨hg,hb⟩:=w3 _ _ _ hh;rcases hs with⟨h1,hs⟩|⟨h1,hs⟩
    ·obtain⟨aA,bz⟩:=J.refine hJ hg h1;have hw:=hb _ aA;cases want
     ·exact BJ _ bz rfl rfl (by rw[hw];rfl) hs
     ·exact fF _ bz rfl rfl (by rw[hw];rfl) hs
    ·obtain⟨aA,bz⟩:=J.refine hJ hg h1;have hw:=hb _ aA;cases want
     ·exact fF _ bz rfl rfl (by rw[hw];rfl) hs
     ·exact BJ _ bz rfl rfl (by rw[hw];rfl) hs
   ·exact hs.elim
theorem adJ(hJ:J (aj P ν) R φ V.g V.l E σ)(cb:(E d).n=V.nt):lK σ.n (E d) (Dx d V):=by
 refine⟨cb,fun t ht=>?_,fun t ht=>by cases ht⟩;unfold vu Dx at ht;rw[aum]at ht;obtain⟨t',ht',hb⟩:=ht;have:=aqO hb;subst this;have h2:=(arN.1 ht').2;split at h2
 ·rename_i k off ext hg;obtain⟨id,cs,h3,_,h5⟩:=hJ.slot d t _ hg;exact .inl ⟨id,off,0,ext,h5,(hJ.lt k id h3).2⟩
 ·rename_i cs hg;obtain⟨ds,h3,_⟩:=hJ.slot d t _ hg;exact .inr (.inl ⟨ds,h3⟩)
 ·cases h2
theorem aaZ(hJ:J (aj P ν) R φ V.g V.l E σ){ops:Array Oper}:sL P ops φ (E d) σ (Dx d V):=by
 refine⟨fun t h ht=>?_,fun i a d h hm=>by cases hm⟩;obtain⟨⟨d',t',pv⟩,_,h2⟩:=List.mem_filterMap.1 (show(t,h)∈V.g.filterMap _ from ht);simp only at h2;split at h2<;>first|(cases h2;done)|skip
 split at h2<;>first|(cases h2;done)|skip
 rename_i k off ext hg;cases h2;obtain⟨id,cs,h3,_,h5⟩:=hJ.slot d _ _ hg;exact⟨id,off,0,ext,h3,h5⟩
theorem aa0(eS:P.follows .mixedOrders=true)(hC:iP P C){fn:FuncId}{id:Nat}(nC:((dq ops).ok&&(EL ops (dq ops)||mh P (dq ops) ops.toList.zipIdx (Dx d V)))=true)(hs:(gY P (if mh P (dq ops) ops.toList.zipIdx (Dx d V)then cfg else zY cfg) self kx d f0 true ops [] ops.toList V kk).sat P C Q K ν)
 (hJ:J (aj P ν) R φ V.g V.l E σ)(hn:ν.length=V.n)(hK:K.length=V.lv)(cb:(E d).n=V.nt)(d_:KS P C Q d E K ν V.nt kk (fun N e σ=>CX N .normal e σ)):
 ∃b,∀N,b≤N→dz P N rd (.region id ops true) (E d) df σ (CX N):=by
 simp only[aqG,arl]at nC;have aL:ops.toList.zipIdx.map (·.1)=ops.toList:=by simp
 by_cases hq:mh P (dq ops) ops.toList.zipIdx (Dx d V)=true
 ·rw[if_pos hq]at hs;obtain⟨e',ah,h1,b,hb⟩:=D0 (fr:=true) (pl:=dq ops) (CX:=CX) hC (fun _ _=>rfl) ops.toList.zipIdx [] V ν K R φ E σ (lR.nil _) (by rw[aL];exact hs) hJ hn hK cb d_;exact⟨b,fun N hN=>dz.HR (fn:=fn) (fx.aip eS nC.1 hq (adJ hJ cb) hJ.inj (aaZ hJ) hJ.wf h1) rfl (hb N hN).1 (hb N hN).2⟩
 ·rw[if_neg hq]at hs;obtain⟨e',ah,h1,b,hb⟩:=D0 (fr:=false) (pl:=dq ops) (CX:=CX) hC (fun g hg=>by rw[VI]at hg;cases hg) ops.toList.zipIdx [] V ν K R φ E σ (lR.nil _) (by rw[aL];exact hs) hJ hn hK cb d_;rcases nC.2 with vb|vb
  ·exact⟨b,fun N hN=>dz.HR (fn:=fn) (fx.draw eS nC.1 vb hJ.wf h1) rfl (hb N hN).1 (hb N hN).2⟩
  ·exact absurd vb hq
end Go.Ev
