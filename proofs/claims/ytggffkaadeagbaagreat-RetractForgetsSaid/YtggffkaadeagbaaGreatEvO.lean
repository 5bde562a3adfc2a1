/- Lemmas over the model, without conditions of their own: code on expressions is sound (1). -/
import Derived.Test.YtggffkaadeagbaaGreatEvN
open Nat renaming le_refl->ar9,eq_of_beq_eq_true->asd,blt->as_
open List renaming getElem?_append_left->asf,append_assoc->asv,getElem?_set_ne->avc,all_eq_true->asl,mem_of_getElem?->ash,getElem?_eq_some_iff->ar5,getElem?_map->asi,getElem?_range->auN,getElem?_eq_getElem->ar4,map_cons->asY,nodup_cons->avN,length_map->atC,prefix_refl->asR,append_nil->asp,isEmpty_iff->atg,eq_nil_of_length_eq_zero->asH,any_eq_true->avJ,mem_filter->asK
open Option renaming map_eq_some_iff->ar_,bind_some->asc,bind_eq_some_iff->ass,map_some->asC
open Option.some renaming injEq->ar7
open Bool renaming and_eq_true->ar6,not_eq_true'->asN,or_eq_true->asP,false_eq_true->asD,not_false->aw2,not_true->au2,false_and->aw3
open Prod.mk renaming injEq->asx
open Array renaming getElem?_eq_some_iff->asW
open Go.Op renaming equal->avf,equalIn->atw
open Classical renaming propDecidable->axJ
open List.cons renaming injEq->as5
open Prod renaming fst->auQ
set_option linter.all false
namespace Go.Ev
variable{P:Program}{N:Nat}{σ ah:St}{R R':Rs}{φ aH:Ph}{E:Nat→Env}{ν qi vs:List IV}{V:SS}{d t:Nat}
theorem J.OH{Γ:Gm SE}{L:List (LO SE)}(hJ:J (aj P ν) R φ Γ L E σ){pv:PV SE}(h:VR (aj P ν) R φ L σ ((E d).at t) pv):J (aj P ν) R φ (NH d t pv Γ) L E σ:=by
 refine{hJ with slot:=fun d' t' CH OD=>?_};rcases mP OD with⟨rfl,rfl,rfl⟩|⟨_,h3⟩
 ·exact h
 ·exact hJ.slot d' t' CH (Gt Γ h3).2
theorem Vk(hJ:J (aj P ν) R φ V.g V.l E σ)(d t:Nat):∃R',J (aj P ν) R' φ (xh d t V).g (xh d t V).l E σ∧(xh d t V).n=V.n∧(xh d t V).ln=V.ln:=by
 unfold xh;split
 ·rename_i k hg;split
  ·rename_i s st cut fr es hk;obtain⟨R',h1,h2,h3⟩:=FM hJ k;have hv:=hJ.slot d t _ hg;have Sf:cw (aj P ν) R' φ (o9 k V).l σ ((E d).at t) (.sr k):=h1.KO hv;obtain⟨y,a1,a2,a3⟩:=N3 h2 (h3 _ _ _ _ _ hk) Sf;refine⟨R',h2.OH (pv:=.one (.w fr es)) ⟨y,a1,a2,a3⟩,?_,?_⟩
   ·rw[DY];exact h1.2.1
   ·rw[Vj];exact h1.2.2.1
  ·exact⟨R,hJ,rfl,rfl⟩
 ·exact⟨R,hJ,rfl,rfl⟩
theorem zw:∀(ws:List (Nat×Nat×Nat)) {V:SS} {R:Rs},J (aj P ν) R φ V.g V.l E σ→∃R',J (aj P ν) R' φ (settle ws V).g (settle ws V).l E σ∧(settle ws V).n=V.n∧(settle ws V).ln=V.ln
 |[],V,R,hJ=>⟨R,hJ,rfl,rfl⟩
 |(d,t,m)::ws,V,R,hJ=>by
  simp only[settle];split
  ·obtain⟨R1,h1,h2,h3⟩:=Vk hJ d t;obtain⟨R2,h4,h5,h6⟩:=zw ws h1;exact⟨R2,h4,h5.trans h2,h6.trans h3⟩
  ·exact zw ws hJ
theorem OI{L:List (LO SE)}{Γ:Gm SE}(hJ:J (aj P ν) R φ Γ L E σ){x:IV}{b:Bool}{s:Nat}(hx:cw (aj P ν) R φ L σ x (.nl b s)):
 J (aj P ν) R φ Γ (L++[.row s false false false (.tr s .an)]) E σ∧jU (aj P ν) (aj P ν) R φ L σ R φ (L++[.row s false false false (.tr s .an)]) σ (fun _=>False)∧cw (aj P ν) R φ (L++[.row s false false false (.tr s .an)]) σ x (.sr L.length):=by
 obtain⟨hs,hx⟩:=hx;have hz:(SE.tr s .an).den P ν=some (.tree s []):=by simp[SE.den,hs]
 obtain⟨h1,h2⟩:=hJ.AG (fr:=false) hs hz;exact⟨h2,h1,s,false,false,false,_,[],by simp,hz,.inl ⟨xk hJ (ar9 _),rfl,by subst hx;cases b<;>simp⟩⟩
theorem All2.set{α β:Type}{r:α→β→Prop}:∀{as:List α} {bs:List β} {i:Nat} {b:β},All2 r as bs→(∀a,as[i]?=some a→r a b)→All2 r as (bs.set i b)
 |[],[],i,b,_,_=>by simp;trivial
 |a::as,b'::bs,i,b,h,hr=>by
  cases i with
  |zero=>exact⟨hr a rfl,h.2⟩
  |succ i=>exact⟨h.1,All2.set h.2 fun a ha=>hr a (by simpa using ha)⟩
 |[],_::_,_,_,h,_=>h.elim
 |_::_,[],_,_,h,_=>h.elim
theorem XL(hJ:J (aj P ν) R φ V.g V.l E σ)(d t j:Nat):J (aj P ν) R φ (Ax d t j V).g (Ax d t j V).l E σ∧(Ax d t j V).n=V.n∧(Ax d t j V).ln=V.ln:=by
 unfold Ax;split
 ·rename_i b s hg;split
  ·obtain⟨h1,_,h2⟩:=OI hJ (x:=(E d).at t) (b:=b) (s:=s) (hJ.slot d t _ hg);exact⟨h1.OH (pv:=.one (.sr V.l.length)) h2,rfl,rfl⟩
  ·exact⟨hJ,rfl,rfl⟩
 ·rename_i cs hg;split
  ·rename_i b s hc;obtain⟨xs,yC,v_⟩:=hJ.slot d t _ hg;obtain⟨x,hx,hr⟩:=v_.zO hc;obtain⟨h1,h3,h2⟩:=OI hJ hr;refine⟨h1.OH (pv:=.ag _) ⟨xs,yC,(v_.mono fun _ _ bR=>bR.step h3 (Cl.aS _)).set fun a ha=>?_⟩,rfl,rfl⟩;rw[hx]at ha;cases ha;exact h2
  ·exact⟨hJ,rfl,rfl⟩
 ·exact⟨hJ,rfl,rfl⟩
theorem XM(hJ:J (aj P ν) R φ V.g V.l E σ)(k j:Nat):J (aj P ν) R φ (Ay k j V).g (Ay k j V).l E σ∧(Ay k j V).n=V.n∧(Ay k j V).ln=V.ln:=by
 unfold Ay;split
 ·rename_i cs hk;split
  ·rename_i b s hc;obtain⟨id,cx,g1,g2,g3,g4⟩:=hJ.obj k _ hk;obtain⟨x,hx,hr⟩:=g4.zO hc;obtain⟨h1,h3,h2⟩:=OI hJ hr;have qc:=cO hk;have oG:(V.l++[LO.row s false false false (SE.tr s SE.an)])[k]?=some (.var cs):=by rw[asf qc];exact hk
   obtain⟨c9,bk⟩:=h1.sL (R':=R) (bad:=fun _=>False) (jD:=.var (cs.set j (.sr V.l.length))) (eF:=.cells cx 0 0) g1 oG (fun _ _=>rfl)
    (fun m hm=>by rw[g2]at hm;cases hm) (fun m _ _ _ hm=>by rw[g2]at hm;cases hm) (fun m _ _ _ hm=>by rw[g2]at hm;cases hm)
    (fun _ _=>⟨_,rfl⟩) (fun _ _ h=>by cases h) (fun _ _ _ _ _ h=>by cases h) (fun _ _ pv _=>pv.aS) (fun _ o _ _=>o.aS)
    (fun c9=>⟨id,cx,g1,g2,by rw[St.cJ,if_pos rfl],((g4.mono fun _ _ bR=>bR.step h3 (Cl.aS _)).set fun a ha=>by rw[hx]at ha;cases ha;exact h2).mono fun _ _ bR=>bR.step c9 (Cl.aS _)⟩)
   have HD:σ.put id (.cells cx 0 0)=σ:=by
    unfold St.put
    have:σ.t.set id (.cells cx 0 0)=σ.t:=T.WF.ext (hJ.wf.set _ _) hJ.wf fun i=>by
     rw[T.fQ];split
     ·rename_i hh;subst hh;exact g3.symm
     ·rfl
    rw[this]
   rw[HD]at bk
   have uC:(V.l++[LO.row s false false false (SE.tr s SE.an)]).set k (LO.var (cs.set j (Cl.sr V.l.length)))=V.l.set k (LO.var (cs.set j (Cl.sr V.l.length)))++[LO.row s false false false (SE.tr s SE.an)]:=by
    rw[List.set_append_left _ _ qc]
   rw[uC]at bk;exact⟨bk,rfl,rfl⟩
  ·exact⟨hJ,rfl,rfl⟩
 ·exact⟨hJ,rfl,rfl⟩
theorem Cb(h:Hint):∀(l:List (Nat×Nat×Nat)) {V:SS},J (aj P ν) R φ V.g V.l E σ→J (aj P ν) R φ (ur h l V).g (ur h l V).l E σ∧(ur h l V).n=V.n∧(ur h l V).ln=V.ln
 |[],V,hJ=>⟨hJ,rfl,rfl⟩
 |(d,t,j)::l,V,hJ=>by
  simp only[ur];split
  ·obtain⟨h1,h2,h3⟩:=XL hJ d t j;obtain⟨h4,h5,h6⟩:=Cb h l h1;exact⟨h4,h5.trans h2,h6.trans h3⟩
  ·exact Cb h l hJ
theorem It:∀(l:List (Nat×Nat)) {V:SS},J (aj P ν) R φ V.g V.l E σ→J (aj P ν) R φ (uu l V).g (uu l V).l E σ∧(uu l V).n=V.n∧(uu l V).ln=V.ln
 |[],V,hJ=>⟨hJ,rfl,rfl⟩
 |(k,j)::l,V,hJ=>by
  simp only[uu];obtain⟨h1,h2,h3⟩:=XM hJ k j;obtain⟨h4,h5,h6⟩:=It l h1;exact⟨h4,h5.trans h2,h6.trans h3⟩
theorem OJ(h:Hint)(hJ:J (aj P ν) R φ V.g V.l E σ):∃R',J (aj P ν) R' φ (uw h (settle h.xO V)).g (uw h (settle h.xO V)).l E σ∧(uw h (settle h.xO V)).n=V.n∧(uw h (settle h.xO V)).ln=V.ln:=by
 obtain⟨R',h1,h2,h3⟩:=zw h.xO hJ;obtain⟨h4,h5,h6⟩:=Cb h h.HO.reverse h1;obtain⟨h7,h8,h9⟩:=It h.xN.reverse h4;exact⟨R',h7,h8.trans (h5.trans h2),h9.trans (h6.trans h3)⟩
end Go.Ev
namespace Go.Ev
variable{P:Program}{N:Nat}{σ ah:St}{R R':Rs}{φ aH:Ph}{E:Nat→Env}{ν:List IV}{ro:Nat}{ι:Io}{w:World}{cfg:aL}{self:mZ}
variable{C:Cr}{Q:IV→Prop}{K:List (List IV→Prop)}{V:SS}{d f0:Nat}{o:Oper}{k:PV SE→SS→af}{L:List (LO SE)}{Γ:Gm SE}
theorem Iu{g:FuncId}{bs:List (Nat×Nat)}{args:List (PV SE)}{t:TypeId}{c:FuncId}{tU:List (Nat×Nat)}(h:EL cfg g bs args=some (t,c,tU)):bs=[]∧args=[.one (.fn c tU)]∧guardOf cfg g=some t:=by
 unfold EL at h;split at h
 ·rw[ar_]at h;obtain⟨t',h1,h2⟩:=h;cases h2;exact⟨rfl,rfl,h1⟩
 ·cases h
theorem D2{j:Nat}(h:DI d V=some j):cn d 2 V.g=some (.one (.pt j 0 1))∧V.l[j]?=some (.var [.v (.i 0)]):=by
 unfold DI at h;split at h
 ·rename_i j' hg;split at h
  ·rename_i z hj;split at h
   ·rename_i hz;cases h;have:z=0:=by simpa using hz
    subst this;exact⟨hg,hj⟩
   ·cases h
  ·cases h
 ·cases h
theorem OK(hJ:J (aj P ν) R φ V.g V.l E σ){j:Nat}(h:DI d V=some j){qz:Nat}(he:(E d).at 2=.ptr qz 0 0 1):φ j=some qz∧R qz=none∧σ.at qz=some (.cells [.int 0] 0 0):=by
 obtain⟨hg,hj⟩:=D2 h;obtain⟨id,cs,h1,h2,h3⟩:=hJ.slot d 2 _ hg;obtain⟨bp,cx,h4,h5,h6,h7⟩:=hJ.obj j _ hj;rw[he]at h3;have hid:id=qz:=by injection h3 with e;exact e.symm
 subst hid;rw[h1]at h4;cases h4;refine⟨h1,h5,?_⟩;rw[h6]
 match cx,h7 with
 |[x],h7=>
  obtain⟨y,h8,h9,_⟩:=h7.1;simp only[aj,SE.den,ar7]at h8;subst h8;rw[bS h9]
theorem J.XN(hJ:J (aj P ν) R φ Γ L E σ){j id:Nat}{cs cm:List (Cl SE)}{cx:List IV}(h1:φ j=some id)(hj:L[j]?=some (.var cs))(h2:R id=none)(hc:All2 (cw (aj P ν) R φ L σ) cx cm):
 J (aj P ν) R φ Γ (L.set j (.var cm)) E (σ.put id (.cells cx 0 0))∧jU (aj P ν) (aj P ν) R φ L σ R φ (L.set j (.var cm)) (σ.put id (.cells cx 0 0)) (fun _=>False):=by
 obtain⟨c9,bk⟩:=hJ.sL (R':=R) (bad:=fun _=>False) (jD:=.var cm) (eF:=.cells cx 0 0) h1 hj (fun _ _=>rfl)
  (fun m hm=>by rw[h2]at hm;cases hm) (fun m _ _ _ hm=>by rw[h2]at hm;cases hm) (fun m _ _ _ hm=>by rw[h2]at hm;cases hm)
  (fun _ _=>⟨_,rfl⟩) (fun _ _ h=>by cases h) (fun _ _ _ _ _ h=>by cases h) (fun _ _ pv _=>pv.aS) (fun _ o _ _=>o.aS)
  (fun c9=>⟨id,_,h1,h2,by rw[St.cJ,if_pos rfl],hc.mono fun _ _ bR=>bR.step c9 (Cl.aS _)⟩)
 exact⟨bk,c9⟩
theorem J.adO(hJ:J (aj P ν) R φ Γ L E σ)(ob eF:Ob):J (aj P ν) R (bP φ L.length σ.n) Γ ((L++[LO.dead]).set L.length LO.dead) E ((σ.add ob).put σ.n eF)∧
 jU (aj P ν) (aj P ν) R φ L σ R (bP φ L.length σ.n) (L++[LO.dead]) (σ.add ob) (fun _=>False)∧
 jU (aj P ν) (aj P ν) R (bP φ L.length σ.n) (L++[LO.dead]) (σ.add ob) R (bP φ L.length σ.n) ((L++[LO.dead]).set L.length LO.dead) ((σ.add ob).put σ.n eF) (fun _=>False):=by
 have hs:=EF hJ ob .dead;have bk:=hJ.xM ob .dead trivial;have hn:=hJ.qJ
 obtain⟨db,dP⟩:=bk.sL (k:=L.length) (id:=σ.n) (lo:=.dead) (R':=R) (bad:=fun _=>False) (jD:=.dead) (eF:=eF) (by simp[bP]) (by simp) (fun _ _=>rfl)
  (fun m hm=>by rw[hn]at hm;cases hm) (fun m _ _ _ hm=>by rw[hn]at hm;cases hm) (fun m _ _ _ hm=>by rw[hn]at hm;cases hm)
  (fun _ h=>by cases h) (fun _ _ h=>by cases h) (fun _ _ _ _ _ h=>by cases h) (fun _ _ pv _=>pv.aS) (fun _ o _ _=>o.aS) (fun _=>trivial)
 exact⟨dP,hs,db⟩
theorem Ln(hC:iE P C)(bn:oO P C Q self)(hJ:J (aj P ν) R φ V.g V.l E σ)(hn:ν.length=V.n)(hK:K.length=V.lv)(cb:(E d).n=V.nt){g c:FuncId}{t:TypeId}{dst:Option Nat}{tU:List (Nat×Nat)}{cl:IV}(hg:g<P.funcs.size)
 (eu:VR (aj P ν) R φ V.l σ cl (.one (.fn c tU)))(hs:(HS P cfg self d f0 dst g t c tU V k).sat P C Q K ν){RW:Nat→IV→St→Prop}
 (hk:∀(pv:PV SE) (V':SS) μ K' R' aH E' ah v,vC P d E K ν V.nt V' μ K' R' aH E' ah→E' d=E d→VR (aj P (ν++μ)) R' aH V'.l ah v pv→(k pv V').sat P C Q K' (ν++μ)→∃b,∀N,b≤N→ah.n≤N∧RW N v ah):
 ∃b,∀N,b≤N→dD P N g [cl] σ (RW N):=by
 unfold HS at hs;obtain⟨xs,z,hx,hc,hs⟩:=hs;obtain⟨t',rfl,an7⟩:=(hC _ _ _ _ hc).2.2.2.1 g hg rfl
 have htt:t'=t:=by
  unfold h_ at hx;simp[dN,SE.den]at hx;omega
 subst htt;have hJu:J (aj P (ν++[z])) R φ V.g V.l E σ:=hJ.up fun e z h=>SE.cI P e h;have an8:VR (aj P (ν++[z])) R φ V.l σ cl (.one (.fn c tU)):=eu;have ij:All2 (cw (aj P (ν++[z])) R φ V.l σ) [.int 0] [.v (.i 0)]:=⟨⟨.int 0,rfl,.raw _,rfl⟩,trivial⟩;have bu:=EF hJu (.cells [.int 0] 0 0) (.var [.v (.i 0)])
 have bk:J (aj P (ν++[z])) R (bP φ V.l.length σ.n) V.g (V.l++[.var [.v (.i 0)]]) E (σ.add (.cells [.int 0] 0 0)):=
  hJu.xM _ _ ⟨σ.n,[.int 0],by simp[bP],hJu.qJ,by simp,ij.mono fun _ _ bR=>bR.step bu (Cl.aS _)⟩
 have hpt:VR (aj P (ν++[z])) R (bP φ V.l.length σ.n) (V.l++[.var [.v (.i 0)]]) (σ.add (.cells [.int 0] 0 0)) (.ptr σ.n 0 0 1) (.one (.pt V.l.length 0 1)):=⟨σ.n,[.v (.i 0)],by simp[bP],by simp,rfl⟩;have aaM:VR (aj P (ν++[z])) R (bP φ V.l.length σ.n) (V.l++[.var [.v (.i 0)]]) (σ.add (.cells [.int 0] 0 0)) cl (.one (.fn c tU)):=an8.step bu (PV.aS _)
 let e1:Env:=(⟨3,.lf⟩:Env).put (some 2) (.ptr σ.n 0 0 1)
 have l5:e1.at 2=.ptr σ.n 0 0 1:=dH (by decide);have an9:e1.n=3:=eL ..
 have dP:J (aj P (ν++[z])) R (bP φ V.l.length σ.n) ((d+1,2,.one (.pt V.l.length 0 1))::jn (d+1) V.g) (V.l++[.var [.v (.i 0)]]) (qs E (d+1) e1) (σ.add (.cells [.int 0] 0 0)):=by
  refine{bk with slot:=fun d' t pv OD=>?_};rcases mP OD with⟨rfl,rfl,rfl⟩|⟨bc,OD⟩
  ·rw[bZ,l5];exact hpt
  ·obtain⟨h1,h2⟩:=tE OD;rw[gp _ _ _ h1];exact bk.slot d' t pv h2
 have bA:∃fn,P.funcs[c]?=some fn∧fn.body.isSome=true∧(fn.name != "runtime.NumGoroutine")=true:=by
  unfold rV at hs;split at hs<;>first|(exact hs.elim)|skip
  rename_i fn bA;split at hs<;>first|(exact hs.elim)|skip
  rename_i body hb;split at hs<;>first|(exact hs.elim)|skip
  split at hs<;>first|(exact hs.elim)|skip
  rename_i nH;simp only[ar6]at nH;exact⟨fn,bA,by simp[hb],nH.2⟩
 obtain⟨fn,bA,hb,kL⟩:=bA;obtain⟨ys,gY,qg⟩:=jO (args:=[]) aaM bA hb kL;rw[List.nil_append]at gY
 obtain⟨_,_,_,_,b,hcx⟩:=Ca (d:=d+1) (V:={V with n:=V.n+1,l:=V.l++[.var [.v (.i 0)]],g:=(d+1,2,.one (.pt V.l.length 0 1))::jn (d+1) V.g,nt:=3}) (ν:=ν++[z]) (E:=qs E (d+1) e1)
  (RW:=fun N _ c7=>c7.at σ.n=some (.cells [.int 0] 0 0)∧c7.n≤N∧RW N (.int 0) (c7.put σ.n (.cells [.int 0] 0 0)))
  (PW:=fun N v c7=>∃u,v=.cY t' (.agg [.raw u])∧ab (.raw u)=true∧c7.at σ.n=some (.cells [.int 0] 0 0)∧c7.n+1≤N∧σ.n<c7.n∧RW N (.raw u) (xg c7 σ.n (.raw u)))
  bn dP (by simp[hn]) hK (by rw[bZ,an9]) qg hs (by
   intro pv V' μ K' R' aH E' ah v hf mR hv aZ;split at aZ<;>first|(exact aZ.elim)|skip
   rename_i j hj;have OL:(E' (d+1)).at 2=.ptr σ.n 0 0 1:=by rw[mR,bZ,l5]
   obtain⟨h1,h2,h3⟩:=OK hf.hJ hj OL;obtain⟨_,qa⟩:=D2 hj;obtain⟨tV,_⟩:=hf.hJ.XN h1 qa h2 (cx:=[.int 0]) (cm:=[.v (.i 0)]) ⟨⟨.int 0,rfl,.raw _,rfl⟩,trivial⟩;have yj:E' d=E d:=by rw[hf.hE d (by omega),gp _ _ _ (by omega)]
   obtain⟨b,hb⟩:=hk (.one (.v (.i 0))) {V' with g:=jn (d+1) V'.g,nt:=V.nt,l:=V'.l.set j (.var [.v (.i 0)])} ([z]++μ) K' R' aH E' (ah.put σ.n (.cells [.int 0] 0 0)) (.int 0)
    ⟨hf.hK,hf.fN,rfl,by rw[←asv];exact zr (V:={V' with l:=V'.l.set j (.var [.v (.i 0)])}) tV (d+1),by rw[←asv];exact hf.hn,fun i hi=>by rw[hf.hE i (by omega),gp _ _ _ (by omega)],by rw[yj]⟩ yj
    (by rw[←asv];exact⟨.int 0,rfl,.raw _,rfl⟩) (by rw[←asv];exact aZ)
   exact⟨max b ah.n,fun N hN=>⟨by omega,h3,by omega,(hb N (by omega)).2⟩⟩) (by
   intro tt pv V' μ K' R' aH E' ah v hf mR hv aZ;split at aZ<;>first|(exact aZ.elim)|skip
   rename_i e j hj;split at aZ<;>first|(exact aZ.elim)|skip
   rename_i htt;have:=asd htt;subst this;obtain⟨⟨y0,Sg⟩,aZ⟩:=aZ;have OL:(E' (d+1)).at 2=.ptr σ.n 0 0 1:=by rw[mR,bZ,l5]
   obtain⟨h1,h2,h3⟩:=OK hf.hJ hj OL;obtain⟨_,qa⟩:=D2 hj;obtain⟨vs,rfl,gK⟩:=hv
   obtain⟨x0,rfl,y,Aq,HH,KU⟩:∃x0,vs=[x0]∧∃y,aj P (ν++[z]++μ) e=some y∧hZ x0 y∧ab y=true:=by
    match vs,gK with
    |[x0],gK=>exact⟨x0,rfl,gK.1⟩
   have hyr:au y=true:=by
    have aam:e.den P (ν++[z]++μ)=some y:=Aq;simp only[SE.den,aam,asc]at Sg;split at Sg
    ·assumption
    ·cases Sg
   obtain⟨u,rfl⟩:∃u,y=.raw u:=by
    cases y<;>simp[au]at hyr;exact⟨_,rfl⟩
   have hxu:=bS HH;subst hxu;obtain⟨Lo,bw,gi⟩:=hf.hJ.adO (.cells [.int 0] 0 0) (.cells [.raw u] 0 0);have an_:=cO qa;have aaI:bP aH V'.l.length ah.n j=some σ.n:=by simp[bP,show j≠V'.l.length by omega,h1]
   have aoa:((V'.l++[LO.dead]).set V'.l.length LO.dead)[j]?=some (.var [.v (.i 0)]):=by
    rw[avc (by omega),asf an_];exact qa
   obtain⟨hJb,_⟩:=Lo.XN aaI aoa h2 (cx:=[.raw u]) (cm:=[.v e]) ⟨⟨.raw u,Aq,.raw _,KU⟩,trivial⟩;have aa:=(hf.hJ.lt j σ.n h1).2;have yj:E' d=E d:=by rw[hf.hE d (by omega),gp _ _ _ (by omega)]
   obtain⟨b,hb⟩:=hk (.one (.v e)) {V' with g:=jn (d+1) V'.g,nt:=V.nt,l:=((V'.l++[LO.dead]).set V'.l.length LO.dead).set j (.var [.v e])} ([z]++μ) K' R' (bP aH V'.l.length ah.n) E' (xg ah σ.n (.raw u)) (.raw u)
    ⟨hf.hK,hf.fN,rfl,by rw[←asv];exact zr (V:={V' with l:=((V'.l++[LO.dead]).set V'.l.length LO.dead).set j (.var [.v e])}) hJb (d+1),by rw[←asv];exact hf.hn,fun i hi=>by rw[hf.hE i (by omega),gp _ _ _ (by omega)],by rw[yj]⟩ yj
    (by rw[←asv];exact⟨.raw u,Aq,.raw _,KU⟩) (by rw[←asv];exact aZ)
   refine⟨max b (ah.n+1),fun N hN=>⟨by omega,u,rfl,KU,h3,by omega,aa,(hb N (by omega)).2⟩⟩)
 refine⟨max b (σ.n+1),fun N hN=>?_⟩;exact an7 N cl c ys σ _ _ _ gY (by omega) (hcx N (by omega)) (fun v c7 h=>h) fun v c7 h=>h
end Go.Ev
namespace Go.Ev
variable{P:Program}{N:Nat}{σ ah:St}{R R':Rs}{φ aH:Ph}{E:Nat→Env}{ν:List IV}{ro:Nat}{ι:Io}{w:World}{cfg:aL}{self:mZ}
variable{C:Cr}{Q:IV→Prop}{K:List (List IV→Prop)}{V:SS}{d f0:Nat}{o:Oper}{k:PV SE→SS→af}{L:List (LO SE)}{Γ:Gm SE}{rd:Option Nat}{df:List Df}
variable{kx:Kx}{sk:List Nat}{ops:Array Oper}{l:List Oper}{kk:SS→af}{CW:Nat→Env→St→Prop}{CX:Nat→jx}
def lR(e:Env)(sk:List Nat):Prop:=∀t,vN sk t=true→e.at t=.undef
theorem lR.nil(e:Env):lR e []:=fun _ h=>by cases h
theorem lR.put{e:Env}{sk:List Nat}(h:lR e sk)(dst:Option Nat)(x:IV):lR (e.put dst x) (sS sk dst):=by
 cases dst with
 |none=>exact h
 |some d=>
  intro t ht;obtain⟨h1,h2⟩:=zP ht;rw[fk h2];exact h t h1
theorem lR.add{e:Env}{sk:List Nat}(h:lR e sk){dst:Option Nat}(hd:∀t,dst=some t→t<e.n):lR (e.put dst .undef) (EP sk dst):=by
 cases dst with
 |none=>exact h
 |some d=>
  intro t ht;rcases yQ ht with rfl|ht
  ·exact dH (hd _ rfl)
  ·exact h.put (some d) .undef t ht
theorem lR.ab9{e:Env}{sk:List Nat}(h:lR e sk){ops:Array Oper}{o:Oper}(hs:mC sk ops o=true):aF o ops e=false:=by
 unfold mC at hs;unfold aF;split at hs<;>first|(cases hs;done)|skip
 rename_i j w hg;rw[hg];simp only;split at hs<;>first|(cases hs;done)|skip
 rename_i t ht;rw[ht];simp only;rw[h t hs];split
 ·rfl
 ·rfl
def AN(P:Program)(C:Cr)(Q:IV→Prop)(cfg:aL)(self:mZ)(kx:Kx)(d f0:Nat)(ops:Array Oper)(rd:Option Nat)(df:List Df)(kk:SS→af)(CX:Nat→jx)(sk:List Nat)(l:List Oper):Prop:=
 ∀(V:SS) ν K R φ E σ,lR (E d) sk→(gP P cfg self kx d f0 false ops sk l V kk).sat P C Q K ν→J (aj P ν) R φ V.g V.l E σ→ν.length=V.n→K.length=V.lv→(E d).n=V.nt→KS P C Q d E K ν V.nt kk (fun N e σ=>CX N .normal e σ)→KP P C Q d E K ν V.nt kx (fun N v e σ=>CX N (.bC v) e σ)→
  ∃b,∀N,b≤N→c_ P N rd ops l (E d) df σ (CX N)
theorem ft(ih:AN P C Q cfg self kx d f0 ops rd df kk CX sk l){dst:Option Nat}(mS:∀x,lR ((E d).put dst x) sk)(hd:∀t,dst=some t→t<(E d).n){nt:Nat}(cb:(E d).n=nt)(eQ:KS P C Q d E K ν nt kk (fun N e σ=>CX N .normal e σ))(nQ:KP P C Q d E K ν nt kx (fun N v e σ=>CX N (.bC v) e σ))
 {V1:SS}{μ:List IV}{K1:List (List IV→Prop)}{R1:Rs}{dt:Ph}{E1:Nat→Env}{ai:St}{x:IV}{pv:PV SE}
 (hJ:J (aj P (ν++μ)) R1 dt V1.g V1.l E1 ai)(hn:(ν++μ).length=V1.n)(hK:K<+:K1)(fN:K1.length=V1.lv)(jP:V1.nt=nt)(hE:∀j,j<d→E1 j=E j)(mR:E1 d=E d)
 (hx:VR (aj P (ν++μ)) R1 dt V1.l ai x pv)(hs:(gP P cfg self kx d f0 false ops sk l (V1.bH d dst pv) kk).sat P C Q K1 (ν++μ)):
 ∃b,∀N,b≤N→c_ P N rd ops l ((E d).put dst x) df ai (CX N):=by
 have bk:=B8 (d:=d) (dst:=dst) hJ hx (by rw[mR];exact hd);have JY:(V1.bH d dst pv).nt=nt:=by cases dst<;>exact jP
 have aaN:(V1.bH d dst pv).lv=V1.lv:=by cases dst<;>rfl
 obtain⟨b,hb⟩:=ih (V1.bH d dst pv) (ν++μ) K1 R1 dt _ ai (by rw[bZ,mR];exact mS x) hs bk (by rw[DY];exact hn) (by rw[aaN];exact fN) (by rw[bZ,eL,mR,cb,JY]) (by
  rw[JY];exact eQ.fwd hK (fun j hj=>by rw[gp _ _ _ (by omega)];exact hE j hj) (by rw[bZ,eL,mR])) (by
  rw[JY];exact nQ.fwd hK (fun j hj=>by rw[gp _ _ _ (by omega)];exact hE j hj) (by rw[bZ,eL,mR]))
 refine⟨b,fun N hN=>?_⟩;have:=hb N hN;rw[bZ,mR]at this;exact this
theorem XO{qd:Bool}{g:FuncId}{cP:List (PV SE)}(h:xS P cfg d qd o V=some (g,cP)):
 ∃c f bs,o.op=.call c∧c.callee=.value f∧bG P d V 0 f=.one (.fn g bs)∧cP=gO P d V c.args.toList c.argTypes.toList++bs.map (fun(p:Nat×Nat)=>.one (.pt p.1 0 p.2)):=by
 unfold xS at h;split at h<;>first|(cases h;done)|skip
 split at h<;>first|(cases h;done)|skip
 rename_i c ho;split at h<;>first|(cases h;done)|skip
 rename_i f hc;split at h<;>first|(cases h;done)|skip
 rename_i g' bs hf;split at h<;>first|(cases h;done)|skip
 simp only[ar7,asx]at h;obtain⟨rfl,rfl⟩:=h;exact⟨c,f,bs,ho,hc,hf,rfl⟩
theorem GP{es:List SE}{vs:List IV}(h:h_ (P:=P) ν (dN es)=some vs):All2 (fun(e:SE) y=>e.den P ν=some y) es vs:=by
 induction es generalizing vs with
 |nil=>
  unfold h_ at h;simp only[dN,SE.den,ar7]at h;subst h;trivial
 |cons e es ih=>
  unfold h_ at h;simp only[dN,SE.den]at h;cases h1:e.den P ν with
  |none=>rw[h1]at h;simp at h
  |some x=>
   rw[h1]at h;simp only[asc]at h;cases h2:(dN es).den P ν with
   |none=>rw[h2]at h;simp at h
   |some y=>
    rw[h2]at h;simp only[asc]at h;cases y<;>simp only at h<;>first|(cases h;done)|skip
    rename_i cs;cases h;exact⟨h1,ih (by unfold h_;rw[h2])⟩
theorem aaO{g:FuncId}{dst:Option Nat}{cP:List (PV SE)}(h:∀fn,P.funcs[g]?=some fn→fn.body.isSome=true→(fn.name != "runtime.NumGoroutine")=true→False):∃n,EM P cfg self kx d f0 dst g cP V k=.fail n:=by
 unfold EM;split
 ·split
  ·rename_i fn bA;split
   ·rename_i hc;simp only[ar6]at hc;exact(h fn bA hc.1 hc.2).elim
   ·exact⟨_,rfl⟩
  ·exact⟨_,rfl⟩
 ·unfold rV;split
  ·rename_i fn bA;split
   ·rename_i body hb;split
    ·exact⟨_,rfl⟩
    ·split
     ·rename_i hc;simp only[ar6]at hc;exact(h fn bA (by simp[hb]) hc.2).elim
     ·exact⟨_,rfl⟩
   ·exact⟨_,rfl⟩
  ·exact⟨_,rfl⟩
theorem aaP(hC:iE P C)(bn:oO P C Q self)(hJ:J (aj P ν) R φ V.g V.l E σ)(hn:ν.length=V.n)(hK:K.length=V.lv)(cb:(E d).n=V.nt){g:FuncId}{dst:Option Nat}{args:List IV}{cP:List (PV SE)}(bg:All2 (VR (aj P ν) R φ V.l σ) args cP)
 (hs:(EM P cfg self kx d f0 dst g cP V k).sat P C Q K ν){RW PW:Nat→IV→St→Prop}
 (hk:∀(pv:PV SE) (V':SS) μ K' R' aH E' ah v,vC P d E K ν V.nt V' μ K' R' aH E' ah→E' d=E d→VR (aj P (ν++μ)) R' aH V'.l ah v pv→(k pv V').sat P C Q K' (ν++μ)→∃b,∀N,b≤N→ah.n≤N∧RW N v ah)
 (XK:∀t (pv:PV SE) (V':SS) μ K' R' aH E' ah v,vC P d E K ν V.nt V' μ K' R' aH E' ah→E' d=E d→VR (aj P (ν++μ)) R' aH V'.l ah v pv→(kx t pv V').sat P C Q K' (ν++μ)→∃b,∀N,b≤N→ah.n≤N∧PW N (.cY t v) ah):
 ∃fn,P.funcs[g]?=some fn∧fn.body.isSome=true∧(fn.name != "runtime.NumGoroutine")=true∧∃b,∀N,b≤N→wA P N g args σ (RW N) (PW N):=by
 unfold EM at hs;split at hs
 ·rename_i t c tU lM;obtain⟨_,rfl,_⟩:=Iu lM;split at hs<;>first|(exact hs.elim)|skip
  rename_i fn bA;split at hs<;>first|(exact hs.elim)|skip
  rename_i bJ;simp only[ar6]at bJ
  match args,bg with
  |[cl],bg=>
   obtain⟨b,hb⟩:=Ln hC bn hJ hn hK cb (asW.1 bA).1 bg.1 hs hk;exact⟨fn,bA,bJ.1,bJ.2,b,fun N hN=>(hb N hN).toX⟩
 ·exact Ca bn hJ hn hK cb bg hs hk XK
theorem aaQ(hC:iE P C)(bn:oO P C Q self)(hJ:J (aj P ν) R φ V.g V.l E σ)(hn:ν.length=V.n)(hK:K.length=V.lv)(cb:(E d).n=V.nt){g:FuncId}{dst:Option Nat}{args:List IV}{cP:List (PV SE)}(bg:All2 (VR (aj P ν) R φ V.l σ) args cP)
 (hd:∀t,dst=some t→t<(E d).n)
 {k:SS→af}(hs:(EN P cfg self kx d f0 dst g cP V k).sat P C Q K ν){RW PW:Nat→IV→St→Prop}
 (hk:∀(H:SS) vs R' aH E' ah v,J (aj P (ν++vs)) R' aH H.g H.l E' ah→(ν++vs).length=H.n→H.lv=V.lv→H.nt=V.nt→(∀j,j<d→E' j=E j)→E' d=(E d).put dst v→(k H).sat P C Q K (ν++vs)→∃b,∀N,b≤N→ah.n≤N∧RW N v ah)
 (XK:∀t (pv:PV SE) (V':SS) μ K' R' aH E' ah v,vC P d E K ν V.nt V' μ K' R' aH E' ah→E' d=E d→VR (aj P (ν++μ)) R' aH V'.l ah v pv→(kx t pv V').sat P C Q K' (ν++μ)→∃b,∀N,b≤N→ah.n≤N∧PW N (.cY t v) ah):
 ∃fn,P.funcs[g]?=some fn∧fn.body.isSome=true∧(fn.name != "runtime.NumGoroutine")=true∧∃b,∀N,b≤N→wA P N g args σ (RW N) (PW N):=by
 unfold EN at hs;simp only at hs;split at hs
 ·exact hs.elim
 ·simp only[af.sat]at hs;refine aaP (V:={V with lv:=V.lv+1}) hC bn hJ hn (by simp[hK]) cb bg hs ?_ (fun t pv V' μ K' R' aH E' ah v hf=>XK t pv V' μ K' R' aH E' ah v ⟨(List.prefix_append K _).trans hf.hK,hf.fN,hf.cb,hf.hJ,hf.hn,hf.hE,hf.Ir⟩);intro pv V' μ K' R' aH E' ah v hf mR hv aZ;have bk:=B8 (d:=d) (dst:=dst) hf.hJ hv (by rw[mR];exact hd);obtain⟨R2,dP,xH,_⟩:=OJ _ bk;split at aZ
  ·rename_i es dR hi;obtain⟨vs,p,h1,h2,h3⟩:=aZ;obtain⟨hlen,tV⟩:=JX (qi:=ν) dP hn ⟨μ,rfl⟩ hi (GP h1);obtain⟨t,ht⟩:=hf.hK;rw[←ht,asv,List.getElem?_append_right (by omega),hK,Nat.sub_self]at h2;simp only[List.singleton_append,List.getElem?_cons_zero,ar7]at h2;subst h2;exact hk _ vs R2 _ _ ah v tV (by rw[List.length_append,hlen,hn]) rfl rfl (fun j hj=>by rw[gp _ _ _ (by omega)];exact hf.hE j hj) (by rw[bZ,mR]) h3.2
  ·exact aZ.elim
end Go.Ev
namespace Go.Ev
variable{P:Program}{N:Nat}{ι:Io}{w:World}{σ ah:St}{e:Env}{rd:Option Nat}{fn:FuncId}{df:List Df}
variable{ops:Array Oper}{o:Oper}{l:List Oper}{CW:jx}
theorem adP{t el:TypeId}(hu:P.underlying t=some (.slice el))(a:Option Addr)(n c:Nat)(x y:Operand):
 oT P .eql t x y (.raw (.slice a n c)) (.raw (.slice none 0 0))=some (.bool a.isNone)∧oT P .neq t x y (.raw (.slice a n c)) (.raw (.slice none 0 0))=some (.bool (!a.isNone)):=by
 have he:aJ P (avf t (.slice a n c) (.slice none 0 0))=some a.isNone:=by
  show aJ P (atw (9999+1) t (.slice a n c) (.slice none 0 0))=_;unfold atw;rw[bj,run_underlying hu,asc];cases a<;>rfl
 constructor
 ·show(aJ P (do eqGuard .eql t x y (.slice a n c) (.slice none 0 0);Go.binOp .eql t (.slice a n c) (.slice none 0 0))).map lift=_;rw[bj];show(aJ P (do pure (.bool (←avf t (.slice a n c) (.slice none 0 0))))).map lift=_;rw[bj,he];rfl
 ·show(aJ P (do eqGuard .neq t x y (.slice a n c) (.slice none 0 0);Go.binOp .neq t (.slice a n c) (.slice none 0 0))).map lift=_;rw[bj];show(aJ P (do pure (.bool (!(←avf t (.slice a n c) (.slice none 0 0)))))).map lift=_;rw[bj,he];rfl
theorem c_.at{v:IV}{CW:jx}(hw:aF o ops e=true)(hn:σ.n≤N)
 (h:∀ι w (r:Operand→Value),Inv N ι σ w→(∀x,Rv ι (aq e x) (r x))→∃ρ v,(∀x,Rv ι (ρ x) (r x))∧ak P 0 ρ o σ=some (.val v σ)∧c_ P N rd ops l (e.put o.dst v) df σ CW):c_ P N rd ops (o::l) e df σ CW:=by
 refine .cons hw fun F ι a w Q k hl hF hi he hd hQ=>?_;refine⟨fun f _=>hF.fn f,?_⟩;obtain⟨ρ,v,hρ,hv,h⟩:=h ι w _ hi he.eval;rw[Oper.semAt_eq _ _ _ (eV hv (by simp))];obtain⟨u,w',ay,hr,h2,h3,h4⟩:=lr hi hρ hv hn
 have key:wpOpsIn F 0 P ops Q (List.range' (k+1) l.length) (a.put o.dst u) w':=
  h F ay _ w' Q (k+1) hl (hF.mono h4.ext) h3 ((he.mono h4.ext).put h2 _) (hd.mono h4.ext|>fun x=>by cases o.dst<;>exact x) (fun ex e' ah hc=>(hQ ex e' ah hc).from hi h4 hn)
 rcases hr with hr|⟨hr,rfl⟩
 ·rw[hr,Oper.uponIn_value];exact key
 ·rw[hr,Oper.uponIn_skip];exact key
def Vl(x:IV):Prop:=x=.raw (.slice none 0 0)∨x=.emp∨(∃s es,x=.tree s es)∨∃id off len cap ep s,x=.sl id off len cap ep s
theorem c_.isNil{CW:jx}{e0:Bool}{op:BinOp}{t el yt:TypeId}{x:Operand}(hw:aF o ops e=true)(hn:σ.n≤N)(ho:o.op=.binOp op t x (.const (.slice none 0 0)) yt)(fT:(op=.eql∧e0=true)∨(op=.neq∧e0=false))
 (hu:P.underlying t=some (.slice el))(hx:Vl (aq e x))
 (h1:aq e x≠.raw (.slice none 0 0)→c_ P N rd ops l (e.put o.dst (.raw (.bool (!e0)))) df σ CW)
 (h2:(aq e x=.raw (.slice none 0 0)∨∃s,aq e x=.tree s [])→c_ P N rd ops l (e.put o.dst (.raw (.bool e0))) df σ CW):c_ P N rd ops (o::l) e df σ CW:=by
 refine .at (v:=.undef) hw hn fun ι w r hi hr=>?_
 have main:∀a n c,r x=.slice a n c→(a=none→aq e x=.raw (.slice none 0 0)∨∃s,aq e x=.tree s [])→(a≠none→aq e x≠.raw (.slice none 0 0))→
  ∃ρ v,(∀x,Rv ι (ρ x) (r x))∧ak P 0 ρ o σ=some (.val v σ)∧c_ P N rd ops l (e.put o.dst v) df σ CW:=by
  intro a n c oD ha hb
  have K9:∀ρ:Operand→IV,ρ (.const (.slice none 0 0))=.raw (.slice none 0 0)→ρ x=.raw (.slice a n c)→ak P 0 ρ o σ=some (.val (.raw (.bool (if a.isNone then e0 else !e0))) σ):=by
   intro ρ h3 h4;obtain⟨g1,g2⟩:=adP (P:=P) hu a n c x (.const (.slice none 0 0));rcases fT with⟨rfl,rfl⟩|⟨rfl,rfl⟩
   ·simp only[ak,ho,h3,h4,g1,ret];cases a<;>rfl
   ·simp only[ak,ho,h3,h4,g2,ret];cases a<;>rfl
  have hy:aq e (.const (.slice none 0 0))=.raw (.slice none 0 0):=rfl;refine⟨fun z=> @ite _ (z=x) (axJ _) (.raw (.slice a n c)) (aq e z),_,fun z=>?_,K9 _ ?_ ?_,?_⟩
  ·dsimp only;split
   ·rename_i hz;subst hz;rw[oD];exact .raw _
   ·exact hr z
  ·split
   ·rename_i hz;have hh:=hr x;rw[←hz,hy,hz,oD]at hh;generalize hq:Value.slice a n c=q at hh⊢;cases hh;rfl
   ·rfl
  ·rw[if_pos rfl]
  ·cases a with
   |none=>exact h2 (ha rfl)
   |some a=>exact h1 (hb (by simp))
 have oD:=hr x;rcases hx with hx|hx|⟨s,es,hx⟩|⟨id,off,len,cap,ep,s,hx⟩
 ·rw[hx]at oD;generalize hq:r x=u at oD;cases oD;exact main none 0 0 hq (fun _=>.inl hx) (fun h=>absurd rfl h)
 ·rw[hx]at oD;generalize hq:r x=u at oD;cases oD;exact main _ 0 0 hq (fun h=>by cases h) (fun _=>by rw[hx];simp)
 ·rw[hx]at oD;generalize hq:r x=u at oD;cases oD with
  |tree=>exact main _ _ _ hq (fun h=>by cases h) (fun _=>by rw[hx];simp)
  |dW=>exact main _ _ _ hq (fun _=>.inr ⟨s,hx⟩) (fun _=>by rw[hx];simp)
 ·rw[hx]at oD;generalize hq:r x=u at oD;cases oD;exact main _ _ _ hq (fun h=>by cases h) (fun _=>by rw[hx];simp)
theorem OM{fr:Bool}{R:Rs}{x:IV}{s:Nat}{es:List IV}(h:aV fr R σ x (.tree s es)):Vl x∧(x=.raw (.slice none 0 0)∨(∃s,x=.tree s [])→es=[]):=by
 cases h with
 |nil=>exact⟨.inl rfl,fun _=>rfl⟩
 |emp=>exact⟨.inr (.inl rfl),fun _=>rfl⟩
 |pure=>exact⟨.inr (.inr (.inl ⟨_,_,rfl⟩)),fun h=>by rcases h with h|⟨_,h⟩<;>cases h;rfl⟩
 |sl=>exact⟨.inr (.inr (.inr ⟨_,_,_,_,_,_,rfl⟩)),fun h=>by rcases h with h|⟨_,h⟩<;>cases h⟩
end Go.Ev
namespace Go.Ev
variable{P:Program}{N:Nat}{σ ah:St}{R R':Rs}{φ aH:Ph}{E:Nat→Env}{ν:List IV}{cfg:aL}
variable{C:Cr}{Q:IV→Prop}{K:List (List IV→Prop)}{V:SS}{d f0:Nat}{o:Oper}{k:PV SE→SS→af}{L:List (LO SE)}{Γ:Gm SE}
theorem Fh{e:SE}{z:IV}(h:(SE.rws e).den P ν=some z):∃s es,e.den P ν=some (.tree s es)∧z=.tree s es∧∀e∈es,∀c∈cellsOf e,au c=true:=by
 simp only[SE.den,ass]at h;obtain⟨y,h1,h2⟩:=h;split at h2<;>first|(cases h2;done)|skip
 split at h2<;>first|(cases h2;done)|skip
 rename_i aT;cases h2;rw[asl]at aT;exact⟨_,_,h1,rfl,fun e he c hc=>asl.1 (aT e he) c hc⟩
def Sh(P:Program)(C:Cr)(Q:IV→Prop)(K:List (List IV→Prop))(E:Nat→Env)(ν:List IV)(lv:Nat×Nat)(k:PV SE→SS→af)(KW:Nat→IV→St→Prop):Prop:=
 ∀(V1:SS) (μ:List IV) (R1:Rs) (dt:Ph) (ai:St) (x:IV) (pv:PV SE),J (aj P (ν++μ)) R1 dt V1.g V1.l E ai→V1.ln=lv→(ν++μ).length=V1.n→V1.ln=lv→VR (aj P (ν++μ)) R1 dt V1.l ai x pv→(k pv V1).sat P C Q K (ν++μ)→∃b,∀N,b≤N→KW N x ai
theorem aaR{fr:Bool}{x:IV}{cs:List IV}(h:aV fr R σ x (.agg cs)):∃xs,x=.agg xs∧All2 (aV fr R σ) xs cs:=by
 cases h with
 |agg p6 _ hl hh=>exact⟨p6,rfl,.mk hl hh⟩
 |pure _ hf hp=>
  refine⟨cs,rfl,.mk rfl fun i a b h1 h2=>?_⟩;rw[h1]at h2;cases h2;cases hp with
  |agg _ hh=>exact .pure a hf (hh a (ash h1))
theorem Cc{t:TypeId}{e:SE}{x z:IV}{f:af}(hz:e.den P ν=some z)(hc:hZ x z)(hs:(qV P t e f).sat P C Q K ν):f.sat P C Q K ν∧VR (aj P ν) R φ L σ x (ofType P t e):=by
 unfold qV at hs;unfold ofType;by_cases ha:isAgg P t=true
 ·rw[if_pos ha]at hs;obtain⟨⟨y,hy⟩,hk⟩:=hs;simp only[SE.den,hz,asc]at hy;split at hy
  ·rename_i cs;split at hy
   ·rename_i nH;obtain⟨xs,rfl,il⟩:=aaR hc;refine⟨hk,?_⟩;rw[if_pos ha];refine⟨xs,rfl,.mk (by simp[il.len,nH.1]) fun i a b h1 h2=>?_⟩;have hi:=(ar5.1 h1).1;rw[il.len]at hi;rw[asi,auN (by omega)]at h2;simp only[asC,ar7]at h2;subst h2;have Lf:cs[i]?=some cs[i]:=ar4 hi;have bf:Ev.ab cs[i]=true:=(asl.1 nH.2) _ (List.getElem_mem hi);exact⟨cs[i],by simp[aj,SE.den,hz,Lf,xU,bf],il.get h1 Lf,bf⟩
   ·cases hy
  ·cases hy
 ·rw[if_neg ha]at hs;obtain⟨⟨y,hy⟩,hk⟩:=hs;obtain⟨h1,h2⟩:=ph hy;rw[hz]at h1;cases h1;rw[if_neg ha];exact⟨hk,z,hy,hc,h2⟩
theorem JZ:∀{zs:List SE} {v:IV},(dN zs).den P ν=some v→∃ys,v=.agg ys∧All2 (fun(z:SE) y=>z.den P ν=some y) zs ys
 |[],v,h=>by
  simp only[dN,SE.den,ar7]at h;exact⟨[],h.symm,trivial⟩
 |z::zs,v,h=>by
  simp only[dN,SE.den]at h;obtain⟨x,hx,h⟩:=ass.1 h;obtain⟨w,hw,h⟩:=ass.1 h;obtain⟨ys,rfl,qg⟩:=JZ hw;simp only[ar7]at h;exact⟨x::ys,h.symm,hx,qg⟩
theorem Iv:∀(args:List (PV SE)),args=(rW args).1.map (fun p=>PV.one (Cl.pt p.1 0 p.2))++(rW args).2
 |[]=>rfl
 |pv::r=>by
  unfold rW;split
  ·rename_i k ext r' h;cases h;simp only[asY,List.cons_append];rw[←Iv r]
  ·simp
theorem AO:∀{l:List Nat},distinct l=true→l.Nodup
 |[],_=>List.nodup_nil
 |k::l,h=>by
  simp only[distinct,ar6,asN,List.any_eq_false]at h;refine avN.2 ⟨fun hm=>?_,AO h.2⟩;exact h.1 k hm (by simp)
theorem aaS(es:List SE)(h:∀e∈es,∃y,e.den P ν=some y):∃cs:List IV,All2 (fun(z:SE) y=>z.den P ν=some y) es cs:=by
 induction es with
 |nil=>exact⟨[],trivial⟩
 |cons e es ih=>
  obtain⟨y,hy⟩:=h e (by simp);obtain⟨cs,bD⟩:=ih fun e he=>h e (by simp[he]);exact⟨y::cs,hy,bD⟩
theorem FV(hJ:J (aj P ν) R φ V.g V.l E σ):∀{l:List (Nat×Nat)} {DJ:List (List SE)},xR V l=some DJ→
 ∃ins:List (List IV),DJ.length=l.length∧ins.length=l.length∧All2 (fun(z:SE) y=>z.den P ν=some y) (DJ.map dN) (ins.map IV.agg)∧
  ∀(i:Nat) (p:Nat×Nat) (cs:List IV),l[i]?=some p→ins[i]?=some cs→∃es:List SE,V.l[p.1]?=some (.var (es.map .v))∧cs.length=p.2∧All2 (fun(z:SE) y=>z.den P ν=some y) es cs
 |[],DJ,h=>by
  simp only[xR,ar7]at h;subst h;exact⟨[],rfl,rfl,trivial,fun i p cs h=>by simp at h⟩
 |(k,n)::l,DJ,h=>by
  simp only[xR]at h;split at h<;>first|(cases h;done)|skip
  rename_i ds hk;split at h<;>first|(cases h;done)|skip
  rename_i hn;split at h<;>first|(cases h;done)|skip
  rename_i es r gh hr;simp only[ar7]at h;subst h;have Ij:=GK gh;subst Ij;have CB:=asd hn;obtain⟨ins,h1,h2,h3,h4⟩:=FV hJ hr;obtain⟨id,cx,o1,o2,o3,o4⟩:=hJ.obj k _ hk
  obtain⟨cs,bD⟩:=aaS (P:=P) (ν:=ν) es fun e he=>by
   obtain⟨q,hq⟩:=List.getElem?_of_mem he;obtain⟨x,_,hx⟩:=o4.zO (i:=q) (b:=.v e) (by rw[asi,hq];rfl);obtain⟨y,hy,_⟩:=hx;exact⟨y,hy⟩
  refine⟨cs::ins,by simp[h1],by simp[h2],⟨ey bD,h3⟩,fun i p cm hp hc=>?_⟩;cases i with
  |zero=>
   simp at hp hc;subst hp hc;exact⟨es,hk,by rw[←bD.len];simpa using CB,bD⟩
  |succ i=>exact h4 i p cm (by simpa using hp) (by simpa using hc)
theorem FW{y:SE}:∀{l:List (Nat×Nat)} {i:Nat} {L:List (LO SE)},(lh y i l L).length=L.length
 |[],_,_=>rfl
 |(k,n)::l,i,L=>by simp[lh,FW (l:=l)]
theorem zY{y:SE}:∀{l:List (Nat×Nat)} {i j:Nat} {L:List (LO SE)},j∉l.map (·.1)→(lh y i l L)[j]?=L[j]?
 |[],_,_,_,_=>rfl
 |(k,n)::l,i,j,L,h=>by
  simp only[asY,List.mem_cons,not_or]at h;simp only[lh];rw[zY h.2,avc (fun hc=>h.1 hc.symm)]
theorem FX{y:SE}:∀{l:List (Nat×Nat)} {i q:Nat} {p:Nat×Nat} {L:List (LO SE)},(l.map (·.1)).Nodup→l[q]?=some p→p.1<L.length→
 (lh y i l L)[p.1]?=some (.var ((List.range p.2).map fun j=>.v (.bM (.proj y (i+q+1)) j)))
 |[],_,_,_,_,_,h,_=>by simp at h
 |(k,n)::l,i,0,p,L,AJ,h,aa=>by
  simp at h;subst h;simp only[asY,avN]at AJ;simp only[lh];rw[zY AJ.1,List.getElem?_set_self aa]
 |(k,n)::l,i,q+1,p,L,AJ,h,aa=>by
  simp only[asY,avN]at AJ;simp only[lh];rw[FX (q:=q) AJ.2 (by simpa using h) (by simpa using aa)];rw[show i+1+q+1=i+(q+1)+1 by omega]
theorem Iw{α β:Type}{r:α→β→Prop}:∀{bs cs:List β} {as:List α},All2 r as (bs++cs)→∃as1 as2,as=as1++as2∧All2 r as1 bs∧All2 r as2 cs
 |[],cs,as,h=>⟨[],as,rfl,trivial,h⟩
 |b::bs,cs,[],h=>h.elim
 |b::bs,cs,a::as,h=>by
  obtain⟨as1,as2,rfl,h1,h2⟩:=Iw h.2;exact⟨a::as1,as2,rfl,⟨h.1,h1⟩,h2⟩
theorem adQ{a b:List (List IV)}(h:a.map IV.agg=b.map IV.agg):a=b:=(List.map_inj_right (fun x y hh=>by injection hh)).1 h
theorem adR(hC:iE P C)(hJ:J (aj P ν) R φ V.g V.l E σ)(hn:ν.length=V.n){g:FuncId}{l:List (Nat×Nat)}{rest:List (PV SE)}{ps xs:List IV}
 (hp:All2 (VR (aj P ν) R φ V.l σ) ps (l.map fun p=>PV.one (Cl.pt p.1 0 p.2)))(hx:All2 (VR (aj P ν) R φ V.l σ) xs rest)(hs:(aad P g l rest V k).sat P C Q K ν){KW:Nat→IV→St→Prop}(hk:Sh P C Q K E ν V.ln k KW):
 ∃b,∀N,b≤N→dD P N g (ps++xs) σ (KW N):=by
 unfold aad at hs;split at hs<;>first|(exact hs.elim)|skip
 rename_i zs V' DJ fn hr hoc bA;split at hs
 ·exact hs.elim
 rename_i aob;have iW:rest.all od=true:=by simpa using aob
 split at hs
 ·exact hs.elim
 rename_i aoc;have AJ:(l.map (·.1)).Nodup:=AO (by simpa using aoc);split at hs<;>first|(exact hs.elim)|skip
 rename_i t ht;obtain⟨_,ajI⟩:=wU (P:=P) (ν:=ν) (R:=R) (φ:=φ) (σ:=σ) hr iW;obtain⟨ys,c1,c2⟩:=ajI hx;obtain⟨ins,i1,i2,i3,i4⟩:=FV hJ hoc;obtain⟨us,z,d1,d2,d3⟩:=hs
 have xE:us=.agg (ins.map IV.agg)::ys:=by
  have aT:All2 (fun(z:SE) y=>z.den P ν=some y) (dN (DJ.map dN)::zs) (.agg (ins.map IV.agg)::ys):=⟨ey i3,c1⟩;have:=ey aT;unfold h_ at d1;rw[show SE.ac (dN (DJ.map dN)) (dN zs)=dN (dN (DJ.map dN)::zs)from rfl,this]at d1;cases d1;rfl
 subst xE;obtain⟨arZ,nI,outs,z0,e1,rfl,e3,e4,aod⟩:=(hC _ _ _ _ d2).2.2.1 g (asW.1 bA).1 rfl;simp only[as5,IV.agg.injEq]at e1;obtain⟨e1,rfl⟩:=e1;have:=adQ e1;subst this;have yH:outs.length=ins.length:=by have:=congrArg List.length e3;simpa using this
 have RL:∀e w,aj P ν e=some w→aj P (ν++[IV.av (z0::outs.map IV.agg)]) e=some w:=fun e w h=>SE.cI P e h;have gS:(SE.var V.n).den P (ν++[IV.av (z0::outs.map IV.agg)])=some (IV.av (z0::outs.map IV.agg)):=by simp[SE.den,←hn]
 have aoe:(SE.proj (.var V.n) 0).den P (ν++[IV.av (z0::outs.map IV.agg)])=some z0:=by simp only[SE.den]at gS⊢;rw[gS];rfl
 refine Vf RL hJ (ks:=l.map (·.1)) AJ (L':=lh (.var V.n) 0 l V.l) (ins:=ins) (outs:=outs) (by simp[i2]) (fun i k cs hk hi=>?_) ⟨by rw[hp.len,atC,i2],fun i cs p hi NF=>?_⟩ c2 aod yH FW (fun j hj=>zY hj) (fun i k cs hk hi=>?_) KW fun R' ah v K3 hv=>?_
 ·rw[asi]at hk;obtain⟨p,hpk,rfl⟩:=ar_.1 hk;obtain⟨es,a1,_,a3⟩:=i4 i p cs hpk hi;refine⟨_,a1,.mk (by rw[atC,a3.len]) fun q c u hc hu=>?_⟩;rw[asi]at hc;obtain⟨e,he,rfl⟩:=ar_.1 hc;exact⟨e,rfl,a3.get he hu⟩
 ·have FF:i<l.length:=by rw[←i2];exact(ar5.1 hi).1
  have hli:=ar4 FF;obtain⟨es,a1,a2,a3⟩:=i4 i _ cs hli hi;obtain⟨id,ds,b1,b2,b3⟩:=hp.get NF (by rw[asi,hli];rfl);exact⟨id,by simp only[asi,hli,asC,asc];exact b1,by rw[b3,a2]⟩
 ·rw[asi]at hk;obtain⟨p,hpk,rfl⟩:=ar_.1 hk;have KZ:i<ins.length:=by rw[←yH];exact(ar5.1 hi).1
  obtain⟨es,a1,a2,_⟩:=i4 i p _ hpk (ar4 KZ);have aa:p.1<V.l.length:=(ar5.1 a1).1;refine⟨_,FX AJ hpk aa,?_⟩
  have eu:cs.length=p.2:=by
   have h5:=congrArg (fun q=>q[i]?) e3;simp only[asi,hi,ar4 KZ,asC,ar7]at h5;omega
  refine .mk (by simp[eu]) fun q c u hc hu=>?_;have hq:=(ar5.1 hu).1;rw[asi,auN (by omega)]at hc;simp only[asC,ar7]at hc;subst hc;refine⟨_,rfl,?_⟩
  have hoi:(z0::outs.map IV.agg)[0+i+1]?=some (.agg cs):=by
   rw[Nat.zero_add,List.getElem?_cons_succ,asi,hi];rfl
  have vT:=e4 cs (ash hi) u (ash hu);show(SE.bM _ _).den P _=_;simp only[SE.den]at gS⊢;rw[gS];simp only[asc,hoi,hu];simp[xU,vT]
 ·obtain⟨g1,g2⟩:=Cc (R:=R') (φ:=φ) (L:=lh (.var V.n) 0 l V.l) (σ:=ah) aoe hv d3;exact hk {V with n:=V.n+1,l:=lh (.var V.n) 0 l V.l} [IV.av (z0::outs.map IV.agg)] R' φ ah v _ K3 rfl (by simp[hn]) rfl g2 g1
theorem Ix(hC:iE P C)(hJ:J (aj P ν) R φ V.g V.l E σ)(hn:ν.length=V.n){g:FuncId}{j:Nat}{zs:List SE}{x:IV}{xs ys:List IV}(hx:cw (aj P ν) R φ V.l σ x (.sr j))
 (hz:All2 (fun(z:SE) y=>z.den P ν=some y) zs ys)(il:All2 hZ xs ys)(hs:(EO P g zs j V k).sat P C Q K ν){KW:Nat→IV→St→Prop}(hk:Sh P C Q K E ν V.ln k KW):
 ∃b,∀N,b≤N→dD P N g (x::xs) σ (KW N):=by
 unfold EO at hs;split at hs<;>first|(exact hs.elim)|skip
 rename_i s fr es hj;split at hs<;>first|(exact hs.elim)|skip
 rename_i aof;have ajJ:g<P.funcs.size:=by simpa using aof
 obtain⟨⟨_,hr⟩,us,z,h1,h2,h3⟩:=hs;obtain⟨s1,eP,h4,_,dI⟩:=Fh hr
 have xE:us=.tree s1 eP::ys:=by
  have:All2 (fun(z:SE) y=>z.den P ν=some y) (es::zs) (.tree s1 eP::ys):=⟨h4,hz⟩;unfold h_ at h1;rw[ey this]at h1;cases h1;rfl
 subst xE;obtain⟨s2,e2,xs2,aB,g1,rfl,Fx⟩:=(hC _ _ _ _ h2).2.1 g ajJ rfl;simp only[as5,IV.tree.injEq]at g1;obtain⟨⟨rfl,rfl⟩,rfl⟩:=g1;obtain⟨_,ik,k1,_,_⟩:=hJ.obj j _ hj;have Lg:es.den P ν=some (.tree s ik):=k1;rw[h4]at Lg;cases Lg;have bk:=hJ.up (gN:=aj P (ν++[.tree s aB])) (fun e y h=>SE.cI P e h)
 have cK:cw (aj P (ν++[.tree s aB])) R φ V.l σ x (.sr j):=by
  have hbv:VR (aj P ν) R φ V.l σ x (.one (.sr j)):=hx;exact VR.up hJ hbv (fun e z h=>SE.cI P e h)
 have dP:=bk.Uo j;have Xn:(V.l.map (LO.drop j))[j]?=some (.row s false false fr es):=by simp[asi,hj,LO.drop]
 have fB:cw (aj P (ν++[.tree s aB])) R φ (V.l.map (LO.drop j)) σ x (.sr j):=cK.step (Gu bk j) (Cl.aS _);have gS:(SE.var V.n).den P (ν++[.tree s aB])=some (.tree s aB):=by simp[SE.den,←hn]
 refine XE dP Xn (SE.cI P es h4) gS dI fB il (fun d t pv hg=>Ic hg) (fun i o hi bc=>by
  rw[asi]at hi;obtain⟨o',_,rfl⟩:=ar_.1 hi;exact o'.mz j) Fx KW fun R' aH ah v a b=>?_
 exact hk ((({V with n:=V.n+1}:SS).rU j).setObj j (.row s false false false (.var V.n))) [.tree s aB] R' aH ah v (.one (.sr j)) a rfl (by simp[hn,SS.rU,SS.setObj]) rfl b h3
theorem adS{KW:Nat→IV→St→Prop}(hC:iE P C)(hJ:J (aj P ν) R φ V.g V.l E σ)(hn:ν.length=V.n){g:FuncId}{cP:List (PV SE)}{xs:List IV}
 (bg:All2 (VR (aj P ν) R φ V.l σ) xs cP)(hs:(aae P g cP V k).sat P C Q K ν)
 (hk:∀(V1:SS) (μ:List IV) (R1:Rs) (dt:Ph) (ai:St) (x:IV) (pv:PV SE),J (aj P (ν++μ)) R1 dt V1.g V1.l E ai→V1.ln=V.ln→(ν++μ).length=V1.n→V1.ln=V.ln→VR (aj P (ν++μ)) R1 dt V1.l ai x pv→(k pv V1).sat P C Q K (ν++μ)→∃b,∀N,b≤N→KW N x ai):
 ∃b,∀N,b≤N→dD P N g xs σ (KW N):=by
 unfold aae at hs;split at hs
 ·have he:=Iv cP;rw[he]at bg;obtain⟨ps,as,rfl,hp,hx⟩:=Iw bg;exact adR hC hJ hn hp hx hs hk
 split at hs<;>first|(exact hs.elim)|skip
 rename_i c rest _;split at hs<;>first|(exact hs.elim)|skip
 rename_i zs V' hr;split at hs
 ·exact hs.elim
 rename_i hp;have qA:rest.all od=true:=by simpa using hp
 cases xs with
 |nil=>exact bg.elim
 |cons x xs=>
  obtain⟨_,iW⟩:=wU (P:=P) (ν:=ν) (R:=R) (φ:=φ) (σ:=σ) hr qA;obtain⟨ys,c1,c2⟩:=iW bg.2;split at hs<;>first|(exact hs.elim)|skip
  ·exact Ix hC hJ hn bg.1 c1 c2 hs hk
  ·rename_i b s _;have hx:=bg.1;unfold newObj at hs;obtain⟨bu,gm⟩:=hx;have lZ:(SE.tr s SE.an).den P ν=some (.tree s []):=by simp[SE.den,bu]
   obtain⟨_,dP⟩:=hJ.AG (fr:=false) bu lZ;have jj:(V.l++[LO.row s false false false (SE.tr s SE.an)])[V.l.length]?=some (.row s false false false (SE.tr s SE.an)):=by simp
   exact Ix (V:={V with l:=V.l++[.row s false false false (.tr s .an)]}) hC dP hn (x:=x) ⟨s,false,false,false,_,[],jj,lZ,.inl ⟨xk hJ (ar9 _),rfl,by subst gm;cases b<;>simp⟩⟩ c1 c2 hs hk
end Go.Ev
namespace Go.Ev
variable{P:Program}{N:Nat}{σ ah:St}{R R':Rs}{φ aH:Ph}{E:Nat→Env}{ν:List IV}{ro:Nat}{ι:Io}{w:World}{cfg:aL}{self:mZ}
variable{C:Cr}{Q:IV→Prop}{K:List (List IV→Prop)}{V:SS}{d f0:Nat}{o:Oper}{k:PV SE→SS→af}{L:List (LO SE)}{Γ:Gm SE}{rd:Option Nat}{df:List Df}
variable{kx:Kx}{sk:List Nat}{ops:Array Oper}{l:List Oper}{kk:SS→af}{CX:Nat→jx}
theorem gT{V V1:SS}(h:V1.ln=V.ln):V1.lv=V.lv∧V1.nt=V.nt:=by
 simp only[SS.ln,asx]at h;exact h
theorem XP(hC:iE P C)(bn:oO P C Q self)(ih:AN P C Q cfg self kx d f0 ops rd df kk CX sk l)(hJ:J (aj P ν) R φ V.g V.l E σ)(hn:ν.length=V.n)(hK:K.length=V.lv)(cb:(E d).n=V.nt)
 (hd:∀t,o.dst=some t→t<(E d).n)(mS:∀x,lR ((E d).put o.dst x) sk)(eQ:KS P C Q d E K ν V.nt kk (fun N e σ=>CX N .normal e σ))(nQ:KP P C Q d E K ν V.nt kx (fun N v e σ=>CX N (.bC v) e σ))(hw:aF o ops (E d)=true)
 (hs:(HT P cfg self kx d f0 false o V fun pv V=>gP P cfg self kx d f0 false ops sk l (V.bH d o.dst pv) kk).sat P C Q K ν):
 ∃b,∀N,b≤N→c_ P N rd ops (o::l) (E d) df σ (CX N):=by
 have Iy:(fE P d o V fun pv V=>gP P cfg self kx d f0 false ops sk l (V.bH d o.dst pv) kk).sat P C Q K ν→∃b,∀N,b≤N→c_ P N rd ops (o::l) (E d) df σ (CX N):=by
  intro hs;obtain⟨x,ai,R1,dt,pv,V1,μ,h1,h2,h3,h4,h5,h6⟩:=XD hJ hn hs;obtain⟨b,hb⟩:=ft ih mS hd cb eQ nQ h2 h4 (asR K) (by rw[(gT h5).1];exact hK) (gT h5).2 (fun _ _=>rfl) rfl h3 h6;exact⟨max b ai.n,fun N hN=>.val hw h1 (by omega) (hb N (by omega))⟩
 unfold HT at hs;split at hs
 ·rename_i c ho;unfold UC at hs;split at hs
  ·exact Iy hs
  ·rename_i f hc;split at hs<;>first|(exact hs.elim)|skip
   rename_i g bs hf;simp only at hs;split at hs
   ·rename_i t cf tU lM;obtain⟨rfl,qe,_⟩:=Iu lM;split at hs<;>first|(exact hs.elim)|skip
    rename_i fn bA;split at hs<;>first|(exact hs.elim)|skip
    rename_i bJ;simp only[ar6]at bJ;have nP:=aW hJ d 0 f;rw[hf]at nP;have bg:=fI hJ d c.args.toList c.argTypes.toList;obtain⟨ys,gY,qg⟩:=jO (args:=c.args.toList.map (aq (E d))) nP bA bJ.1.2 bJ.2
    have yh:ys=[]:=by
     cases ys with
     |nil=>rfl
     |cons=>exact qg.elim
    subst yh;rw[asp]at gY
    have dZ:ak P 0 (aq (E d)) o σ=some (.enter g (c.args.toList.map (aq (E d)))):=by
     simp only[ak,ho,hc];exact gY
    rw[qe]at bg
    obtain⟨cl,eu,aog⟩:∃cl,c.args.toList.map (aq (E d))=[cl]∧VR (aj P ν) R φ V.l σ cl (.one (.fn cf tU)):=by
     generalize c.args.toList.map (aq (E d))=l at bg
     match l,bg with
     |[cl],bg=>exact⟨cl,rfl,bg.1⟩
    obtain⟨b,hb⟩:=Ln (RW:=fun N v ai=>ai.n≤N∧c_ P N rd ops l ((E d).put o.dst v) df ai (CX N)) hC bn hJ hn hK cb (asW.1 bA).1 aog hs (by
     intro pv V' μ K' R' aH E' ah v hF mR hv aZ;obtain⟨b,hb⟩:=ft ih mS hd cb eQ nQ hF.hJ hF.hn hF.hK hF.fN hF.cb hF.hE mR hv aZ;exact⟨max b ah.n,fun N hN=>⟨by omega,by omega,hb N (by omega)⟩⟩)
    rw[eu]at dZ;exact⟨b,fun N hN=>.call hw dZ (hb N hN) fun v ai hv=>hv⟩
   split at hs
   ·rename_i hp;simp only[ar6,atg]at hp;have fZ:=hp.1;subst fZ
    have tK:∃(args:List IV) (v:IV) (ai:St) (R1:Rs) (dt:Ph) (pv:PV SE) (V1:SS) (μ:List IV),ak P 0 (aq (E d)) o σ=some (.enter g args)∧(∀ro,eK P ro g args σ v ai)∧(ai=σ∨∃ob,ai=σ.add ob)∧J (aj P (ν++μ)) R1 dt V1.g V1.l E ai∧VR (aj P (ν++μ)) R1 dt V1.l ai v pv∧(ν++μ).length=V1.n∧V1.ln=V.ln∧
     (gP P cfg self kx d f0 false ops sk l (V1.bH d o.dst pv) kk).sat P C Q K (ν++μ):=by
     split at hs
     ·exact Lk hC hJ hn ‹_› ho hc hf hs
     ·exact Lj hC hJ hn ho hc hf hs
    obtain⟨args,v,ai,R1,dt,pv,V1,μ,dZ,qf,_,g1,g2,g3,g4,g5⟩:=tK;obtain⟨b,hb⟩:=ft ih mS hd cb eQ nQ g1 g3 (asR K) (by rw[(gT g4).1];exact hK) (gT g4).2 (fun _ _=>rfl) rfl g2 g5;exact⟨max b ai.n,fun N hN=>.call hw dZ (dD.HK (qf 0) (by omega)) fun v1 c7 hv=>by obtain⟨rfl,rfl⟩:=hv;exact⟨by omega,hb N (by omega)⟩⟩
   split at hs
   ·rename_i hp;simp only[ar6,atg]at hp;have fZ:=hp.1;subst fZ;obtain⟨args,v,ai,R1,dt,pv,V1,μ,dZ,qf,_,g1,g2,g3,g4,g5⟩:=OC hC hJ hn ho hc hf hs;obtain⟨b,hb⟩:=ft ih mS hd cb eQ nQ g1 g3 (asR K) (by rw[(gT g4).1];exact hK) (gT g4).2 (fun _ _=>rfl) rfl g2 g5;exact⟨max b ai.n,fun N hN=>.call hw dZ (dD.HK (qf 0) (by omega)) fun v1 c7 hv=>by obtain⟨rfl,rfl⟩:=hv;exact⟨by omega,hb N (by omega)⟩⟩
   split at hs
   ·rename_i hp;simp only[ar6,atg]at hp;have fZ:=hp.1;subst fZ;split at hs<;>first|(exact hs.elim)|skip
    rename_i fn bA;split at hs<;>first|(exact hs.elim)|skip
    rename_i bJ;simp only[ar6]at bJ;have nP:=aW hJ d 0 f;rw[hf]at nP;have bg:=fI hJ d c.args.toList c.argTypes.toList;obtain⟨ys,gY,qg⟩:=jO (args:=c.args.toList.map (aq (E d))) nP bA bJ.1.2 bJ.2
    have yh:ys=[]:=by
     cases ys with
     |nil=>rfl
     |cons=>exact qg.elim
    subst yh;rw[asp]at gY
    have dZ:ak P 0 (aq (E d)) o σ=some (.enter g (c.args.toList.map (aq (E d)))):=by
     simp only[ak,ho,hc];exact gY
    obtain⟨b,hb⟩:=adS (KW:=fun N v ai=>ai.n≤N∧c_ P N rd ops l ((E d).put o.dst v) df ai (CX N)) hC hJ hn bg hs (by
     intro V1 μ R1 dt ai x pv h2 h4 hlen h5 hx h6;obtain⟨b,hb⟩:=ft ih mS hd cb eQ nQ h2 hlen (asR K) (by rw[(gT h5).1];exact hK) (gT h5).2 (fun _ _=>rfl) rfl hx h6;exact⟨max b ai.n,fun N hN=>⟨by omega,hb N (by omega)⟩⟩)
    exact⟨b,fun N hN=>.call hw dZ (hb N hN) fun v ai hv=>hv⟩
   split at hs
   ·rename_i hp;simp only[ar6,atg]at hp;have fZ:=hp.1;subst fZ;split at hs<;>first|(exact hs.elim)|skip
    rename_i zs V' fn hr bA;split at hs<;>first|(exact hs.elim)|skip
    rename_i bJ;simp only[ar6]at bJ;obtain⟨g',args,z,R1,pv,V1,μ,h1,h2,h3,h4,h5,h6,h7⟩:=OB hC hJ hn ho hc hf hr bA bJ.1.2 bJ.2 bJ.1.1 hs;obtain⟨b,hb⟩:=ft ih mS hd cb eQ nQ h3 h5 (asR K) (by rw[(gT h6).1];exact hK) (gT h6).2 (fun _ _=>rfl) rfl h4 h7;refine⟨max b σ.n,fun N hN=>.call hw h1 (dD.HK (h2 0) (by omega)) fun v ai hv=>?_⟩;obtain⟨rfl,rfl⟩:=hv;exact⟨by omega,hb N (by omega)⟩
   ·split at hs
    ·exact hs.elim
    ·have nP:=aW hJ d 0 f;rw[hf]at nP;have bg:=fI hJ d c.args.toList c.argTypes.toList
     have bA:∃fn,P.funcs[g]?=some fn∧fn.body.isSome=true∧(fn.name != "runtime.NumGoroutine")=true:=by
      unfold rV at hs;split at hs<;>first|(exact hs.elim)|skip
      rename_i fn bA;split at hs<;>first|(exact hs.elim)|skip
      rename_i body hb;split at hs<;>first|(exact hs.elim)|skip
      split at hs<;>first|(exact hs.elim)|skip
      rename_i nH;simp only[ar6]at nH;exact⟨fn,bA,by simp[hb],nH.2⟩
     obtain⟨fn,bA,hb,kL⟩:=bA;obtain⟨ys,gY,qg⟩:=jO (args:=c.args.toList.map (aq (E d))) nP bA hb kL
     have dZ:ak P 0 (aq (E d)) o σ=some (.enter g (c.args.toList.map (aq (E d))++ys)):=by
      simp only[ak,ho,hc];exact gY
     obtain⟨_,_,_,_,b,hcw⟩:=Ca (RW:=fun N v ai=>ai.n≤N∧c_ P N rd ops l ((E d).put o.dst v) df ai (CX N)) (PW:=fun N v ai=>CX N (.bC v) (E d) ai) bn hJ hn hK cb (bg.app qg) hs (by
      intro pv V' μ K' R' aH E' ah v hF mR hv aZ;obtain⟨b,hb⟩:=ft ih mS hd cb eQ nQ hF.hJ hF.hn hF.hK hF.fN hF.cb hF.hE mR hv aZ;exact⟨max b ah.n,fun N hN=>⟨by omega,by omega,hb N (by omega)⟩⟩) (by
      intro t pv V' μ K' R' aH E' ah v hF mR hv aZ;obtain⟨b,hb⟩:=nQ t pv V' μ K' R' aH E' ah v hF hv aZ;exact⟨b,fun N hN=>⟨(hb N hN).1,by rw[←mR];exact(hb N hN).2⟩⟩)
     exact⟨b,fun N hN=>.Up hw dZ (hcw N hN) (fun v ai hv=>hv) fun v ai hv=>hv⟩
  ·exact hs.elim
 ·exact Iy hs
theorem aaT{e0:Bool}{c:Cl SE}(h:UD P d o V=some (e0,c)):∃op t x yt el,o.op=.binOp op t x (.const (.slice none 0 0)) yt∧P.underlying t=some (.slice el)∧bG P d V t x=.one c∧((op=.eql∧e0=true)∨(op=.neq∧e0=false)):=by
 unfold UD at h;split at h<;>first|(cases h;done)|skip
 rename_i op t x y yt ho;split at h<;>first|(cases h;done)|skip
 rename_i el c' hu hx;split at h<;>first|(cases h;done)|skip
 ·cases h;exact⟨_,t,x,yt,el,ho,hu,hx,.inl ⟨rfl,rfl⟩⟩
 ·cases h;exact⟨_,t,x,yt,el,ho,hu,hx,.inr ⟨rfl,rfl⟩⟩
theorem ON{a:SE}{u x:IV}(h:Mx a=some u)(hx:VR (aj P ν) R φ V.l σ x (.one (.v a))):x=u:=by
 unfold Mx at h;split at h<;>first|(cases h;done)|skip
 ·cases h;obtain⟨y,h1,h2,_⟩:=hx;simp only[aj,SE.den,ar7]at h1;subst h1;exact bS h2
 ·cases h;obtain⟨y,h1,h2,_⟩:=hx;simp only[aj,SE.den,ar7]at h1;subst h1;exact bS h2
theorem aaU(hJ:J (aj P ν) R φ V.g V.l E σ){pv:PV SE}(h:N2 P d V o=some pv):∃x,ak P 0 (aq (E d)) o σ=some (.val x σ)∧VR (aj P ν) R φ V.l σ x pv:=by
 unfold N2 at h;split at h
 ·rename_i op t x y yt ho;split at h<;>first|(cases h;done)|skip
  rename_i a b ha hb;split at h<;>first|(cases h;done)|skip
  rename_i u v hu hv;have hx:=aW hJ d t x;have hy:=aW hJ d t y;rw[ha]at hx;rw[hb]at hy;rw[ar_]at h;obtain⟨e,h1,rfl⟩:=h;rw[ass]at h1;obtain⟨w,h2,h3⟩:=h1;refine⟨w,?_,?_⟩
  ·simp only[ak,ho,ON hu hx,ON hv hy,h2,ret]
  ·unfold abT at h3;split at h3<;>first|(cases h3;done)|skip
   ·cases h3;exact⟨_,rfl,.raw _,rfl⟩
   ·cases h3;exact⟨_,rfl,.raw _,rfl⟩
 ·rename_i t x ix ho;split at h<;>first|(cases h;done)|skip
  rename_i n el cs z hu iJ cU;split at h<;>first|(cases h;done)|skip
  rename_i s ba aK CN;split at h<;>first|(cases h;done)|skip
  rename_i hc;have hx:=aW hJ d t x;have hi:=aW hJ d 0 ix;rw[iJ]at hx;rw[cU]at hi;have sq:=ON (a:=.i z) rfl hi;obtain⟨cx,hxe,bD⟩:=hx
  obtain⟨v,hv,hr⟩:=rZ (pv:=pv) aK CN bD hc.2.2 (by
   split at h
   ·rename_i ha;cases h;rw[if_pos ha]
   ·rename_i ha;rw[if_neg ha];split at h
    ·rename_i c nH;cases h;exact⟨c,nH,rfl⟩
    ·cases h)
  refine⟨v,?_,hr⟩;simp only[ak,ho,hu,hxe,sq,aK,IV.int];rw[if_pos ⟨hc.1,hc.2.1⟩,hv];rfl
 ·cases h
theorem adT(hJ:J (aj P ν) R φ V.g V.l E σ){es:SE}{s:Nat}{c:Cl SE}(h:UE P d V o=some (es,s,c)){z:IV}(hz:(SE.sub s es (.len es) (.i 0)).den P ν=some z):
 ∃x,ak P 0 (aq (E d)) o σ=some (.val x σ)∧VR (aj P ν) R φ V.l σ x (.one c):=by
 unfold UE at h;split at h<;>first|(cases h;done)|skip
 rename_i c0 ho;split at h<;>first|(cases h;done)|skip
 rename_i hc;have bg:=fI hJ d c0.args.toList c0.argTypes.toList;split at h<;>first|(cases h;done)|skip
 rename_i base ca hh;rw[hh]at bg;obtain⟨x0,x1,hx,HE,kN⟩:=GJ bg;split at h<;>first|(cases h;done)|skip
 rename_i t0 t1 R0 R4;split at h<;>first|(cases h;done)|skip
 rename_i et et1 het aat;split at h<;>first|(cases h;done)|skip
 rename_i s' z' bytes aK vy K7;split at h<;>first|(cases h;done)|skip
 rename_i bJ;simp only[asP,asN,not_or,Bool.not_eq_true,Bool.not_eq_false]at bJ;obtain⟨⟨bw,gi⟩,Ng⟩:=bJ;have aoh:=asd gi;have ar0:bytes≤1000000:=by simpa using Ng
 have bu:s'≠0:=fun h=>by subst h;simp at bw
 split at h<;>first|(cases h;done)|skip
 rename_i fr aB raw b w aau;cases h;simp only[SE.den,ass]at hz;obtain⟨a1,gh,b1,⟨a2,afM,hlen⟩,h0⟩:=hz;rw[gh]at afM;cases afM
 have:a1=.tree s []:=by
  obtain⟨a,ha,h0⟩:=h0;cases ha;unfold HV at hlen;split at hlen<;>first|(cases hlen;done)|skip
  rename_i q fs;cases hlen;simp only[jF,IV.int,fa]at h0;split at h0
  ·rename_i hc;obtain⟨rfl,_,h1,_,_⟩:=hc;have:fs=[]:=asH (by simpa using h1);rw[this]
  ·cases h0
 subst this;have bc:iz s []=true:=rfl;obtain⟨g1,new,g2,g3,_,g5⟩:=DP hJ aau kN gh (by omega) bc (fun _=>⟨.tree s [],by simp[SE.den,gh]⟩);have kf:new=[]:=by simpa using g3
 subst kf;obtain⟨hw,gm⟩:=HE;refine⟨x0,?_,hw,gm⟩;have ajK:eA 0 s 0 0 [] x0 σ=some (.val x0 σ):=by subst gm;cases b<;>simp[eA,ret]
 have jB:j8 x0=some 0:=by subst gm;cases b<;>rfl
 simp only[ak,ho,hc,du,hx,jZ,R0,R4,og het,og aat,aK,vy,K7,rO,g1,g2,jB];rw[if_neg (by rintro(h|h);exact bu h;exact h aoh),if_pos ⟨by simp,by simp,by simp;omega,by simp⟩];exact ajK
theorem XQ{o:Oper}{j kt:Nat}{lB:TypeId}{es x:SE}(h:HU P d V o=some (j,kt,lB,es,x)):
 ∃it,o.op=.next it false∧bG P d V 0 it=.one (.mp j)∧V.l[j]?=some (.mp kt x)∧1000000≤kt∧V.l[kt % 1000000]?=some (.mp lB es)∧¬gk lB=true:=by
 unfold HU at h;split at h<;>first|(cases h;done)|skip
 rename_i it ho;split at h<;>first|(cases h;done)|skip
 rename_i j' hm;split at h<;>first|(cases h;done)|skip
 rename_i lz x' hj;split at h<;>first|(cases h;done)|skip
 rename_i hle;split at h<;>first|(cases h;done)|skip
 rename_i ar1 aB Ov;split at h<;>first|(cases h;done)|skip
 rename_i hk;simp only[ar7,asx]at h;obtain⟨rfl,rfl,rfl,rfl,rfl⟩:=h;exact⟨it,ho,hm,hj,by simpa using hle,Ov,hk⟩
theorem XS(hJ:J (aj P ν) R φ V.g V.l E σ)(hn:ν.length=V.n){j id kt m i:Nat}{x0:SE}{ds OO:List IV}{seen:List Nat}{y:IV}{ob:Ob}(hj:V.l[j]?=some (.mp kt x0))(js:1000000≤kt)(kj:φ j=some id)(hR:R id=none)
 (zp:∃lz z',V.l[kt % 1000000]?=some (.mp lz z'))(hm:φ (kt % 1000000)=some m)(hs:∀s∈seen,s<ds.length)(hl:Left ds (seen++[i]) OO)(hy:ds[i]?=some y)(az:σ.at id=some ob):
 J (aj P (ν++[y,.av [.av ds,.av OO,y]])) R φ V.g (V.l.set j (.mp kt (.var (V.n+1)))) E (σ.put id (.jg (some m) ds.length (seen++[i]) ds.length)):=by
 have bk:=hJ.up (gN:=aj P (ν++[y,.av [.av ds,.av OO,y]])) (fun e y h=>SE.cI P e h)
 exact(bk.sL (R':=R) (bad:=fun _=>False) (jD:=.mp kt (.var (V.n+1))) (eF:=.jg (some m) ds.length (seen++[i]) ds.length) kj hj (fun _ _=>rfl)
  (fun m hm=>by rw[hR]at hm;cases hm) (fun m _ _ _ hm=>by rw[hR]at hm;cases hm) (fun m _ _ _ hm=>by rw[hR]at hm;cases hm)
  (fun _ h=>by cases h) (fun _ _ _=>by rename_i h;cases h;exact⟨_,rfl⟩) (fun _ _ _ _ _ h=>by cases h) (fun _ _ pv _=>pv.aS) (fun _ o _ _=>o.aS)
  (fun c9=>by
   rw[gw,if_pos (DA js)];refine .inr ⟨js,id,m,ds,seen++[i],OO,[y],by simp[aj,SE.den,←hn],kj,hR,?_,hm,by rw[St.cJ,if_pos rfl],fun s aZ=>?_,hl,.inr ⟨i,y,rfl,by simp,hy⟩⟩
   ·obtain⟨lz,z',hz⟩:=zp;rw[List.getElem?_set];split
    ·rename_i hh;have aa:=(ar5.1 hj).1;rw[if_pos aa];exact⟨_,_,rfl⟩
    ·exact⟨_,_,hz⟩
   ·simp only[List.mem_append,List.mem_singleton]at aZ;rcases aZ with aZ|rfl
    ·exact hs s aZ
    ·exact(ar5.1 hy).1)).2
theorem aaV(ih:AN P C Q cfg self kx d f0 ops rd df kk CX sk l)(hJ:J (aj P ν) R φ V.g V.l E σ)(hn:ν.length=V.n)(hK:K.length=V.lv)(cb:(E d).n=V.nt)
 (hd:∀t,o.dst=some t→t<(E d).n)(mS:∀x,lR ((E d).put o.dst x) sk)(eQ:KS P C Q d E K ν V.nt kk (fun N e σ=>CX N .normal e σ))(nQ:KP P C Q d E K ν V.nt kx (fun N v e σ=>CX N (.bC v) e σ))(hw:aF o ops (E d)=true)
 {j kt:Nat}{lB:TypeId}{es x:SE}(hit:HU P d V o=some (j,kt,lB,es,x))
 (hs:(UF P j kt lB es x V fun pv V=>gP P cfg self kx d f0 false ops sk l (V.bH d o.dst pv) kk).sat P C Q K ν):
 ∃b,∀N,b≤N→c_ P N rd ops (o::l) (E d) df σ (CX N):=by
 obtain⟨it,ho,hm,hj,js,Ov,d_⟩:=XQ hit;have pn:=aW hJ d 0 it;rw[hm]at pn;obtain⟨id,kt3,x3,g1,g2,g3⟩:=pn;rw[hj]at g2;cases g2;rw[if_pos (DA js)]at g3;have dr:=hJ.obj j _ hj;rw[gw,if_pos (DA js)]at dr;rcases dr with⟨h0,_⟩|⟨_,bp,m,ds,seen,rem,rest,e1,e2,e3,e4,e5,e6,e7,e8,e9⟩
 ·exact(abQ js h0).elim
 rw[g1]at e2;cases e2;have cg:x.den P ν=some (.av (.av ds::.av rem::rest)):=e1;have Ow:=hJ.obj _ _ Ov;rw[gw,if_neg d_]at Ow;obtain⟨id2,Iz,clock,Sb,c1,c2,c3,c4,c5,c6⟩:=Ow;rw[e5]at c2;cases c2;have jV:es.den P ν=some (.av Sb):=c1;unfold UF at hs;split at hs<;>first|(exact hs.elim)|skip
 obtain⟨l6,OO,d1,⟨r,d2⟩,zK,ajL⟩:=hs;rw[cg]at d2;simp only[ar7,IV.av.injEq,as5]at d2;obtain⟨rfl,rfl,_⟩:=d2;rw[jV]at d1;simp only[ar7,IV.av.injEq]at d1;subst d1;have hlen:Iz.length=Sb.length:=All2.len c5
 obtain⟨B1,AP⟩:∃b,∀N,b≤N→(∀i,i<Iz.length→i∈seen)→c_ P N rd ops l ((E d).put o.dst (.av [.bool false])) df σ (CX N):=by
  by_cases aT:∀i,i<Iz.length→i∈seen
  ·obtain⟨b,hb⟩:=ft (V1:=V) (μ:=[]) (x:=.av [.bool false]) (pv:=.tu [(false,[.v (.b false)])]) ih mS hd cb eQ nQ (by rw[asp];exact hJ) (by rw[asp];exact hn) (asR K) hK rfl (fun _ _=>rfl) rfl
    (by rw[asp];exact⟨_,rfl,⟨_,rfl,.raw (.bool false),rfl,.raw _,rfl⟩,trivial⟩) (by rw[asp];exact zK (e8.empty fun i hi=>aT i (by rw[hlen];exact hi)))
   exact⟨b,fun N hN _=>hb N hN⟩
  ·exact⟨0,fun _ _ h=>absurd h aT⟩
 obtain⟨B2,IA⟩:=NI (p:=fun i N=>∀en,Iz[i]?=some en→i∉seen→c_ P N rd ops l ((E d).put o.dst (.av [.bool true,lift en.1,en.2.1])) df (σ.put id (.jg (some m) Iz.length (seen++[i]) Iz.length)) (CX N)) Iz.length fun i hi=>by
  by_cases xD:i∈seen
  ·exact⟨0,fun _ _ _ _ h=>absurd xD h⟩
  obtain⟨q,y,hq,hy,hl⟩:=e8.has (by rw[←hlen];exact hi) xD;have dP:=XS hJ hn hj js g1 e3 e4 e5 e7 hl hy e6
  obtain⟨b,hb⟩:=ft (V1:={V with n:=V.n+2,l:=V.l.set j (.mp kt (.var (V.n+1)))}) (μ:=[y,.av [.av Sb,.av (rem.eraseIdx q),y]]) (x:=.av [.bool true,lift Iz[i].1,Iz[i].2.1]) (pv:=.tu [(false,[.v (.b true)]),(false,[.un]),(false,[.un])]) ih mS hd cb eQ nQ dP (by simp[hn]) (asR K) hK rfl (fun _ _=>rfl) rfl
   ⟨_,rfl,⟨_,rfl,.raw (.bool true),rfl,.raw _,rfl⟩,⟨_,rfl,trivial⟩,⟨_,rfl,trivial⟩,trivial⟩ (ajL q y hq)
  refine⟨b,fun N hN en oF _=>?_⟩;rw[ar4 hi]at oF;cases oF;rw[hlen];exact hb N hN
 refine⟨max σ.n (max B1 B2),fun N hN=>.aiY hw ho g3 (by rw[hlen];exact e6) c4 c6 (by omega) (AP N (by omega)) fun i en oF xD=>IA i (ar5.1 oF).1 N (by omega) en oF xD⟩
theorem aaW(hC:iE P C)(bn:oO P C Q self)(ih:AN P C Q cfg self kx d f0 ops rd df kk CX sk l)(hJ:J (aj P ν) R φ V.g V.l E σ)(hn:ν.length=V.n)(hK:K.length=V.lv)(cb:(E d).n=V.nt)
 (hd:∀t,o.dst=some t→t<(E d).n)(mS:∀x,lR ((E d).put o.dst x) sk)(eQ:KS P C Q d E K ν V.nt kk (fun N e σ=>CX N .normal e σ))(nQ:KP P C Q d E K ν V.nt kx (fun N v e σ=>CX N (.bC v) e σ))(hw:aF o ops (E d)=true)
 (hs:(Bo P cfg self kx d f0 false o V fun pv V=>gP P cfg self kx d f0 false ops sk l (V.bH d o.dst pv) kk).sat P C Q K ν):
 ∃b,∀N,b≤N→c_ P N rd ops (o::l) (E d) df σ (CX N):=by
 unfold Bo at hs;simp only[asD,if_false]at hs;split at hs
 ·rename_i hit;exact aaV ih hJ hn hK cb hd mS eQ nQ hw hit hs
 split at hs
 ·rename_i e0 c gE;obtain⟨op,t,x,yt,el,ho,hu,hx,fT⟩:=aaT gE;have p_:=aW hJ d t x;rw[hx]at p_
  have next:∀b:Bool,(gP P cfg self kx d f0 false ops sk l (V.bH d o.dst (.one (.v (.b b)))) kk).sat P C Q K ν→∃B,∀N,B≤N→c_ P N rd ops l ((E d).put o.dst (.raw (.bool b))) df σ (CX N):=fun b h=>by
   have:=ft (V1:=V) (μ:=[]) (x:=.raw (.bool b)) (pv:=.one (.v (.b b))) ih mS hd cb eQ nQ (by rw[asp];exact hJ) (by rw[asp];exact hn) (asR K) hK rfl (fun _ _=>rfl) rfl (by rw[asp];exact⟨.raw (.bool b),rfl,.raw _,rfl⟩) (by rw[asp];exact h);exact this
  have two:∀z q es,z.den P ν=some (.tree q es)→Vl (aq (E d) x)→(aq (E d) x=.raw (.slice none 0 0)∨(∃s,aq (E d) x=.tree s [])→es=[])→(af.two z (gP P cfg self kx d f0 false ops sk l (V.bH d o.dst (.one (.v (.b e0)))) kk) (gP P cfg self kx d f0 false ops sk l (V.bH d o.dst (.one (.v (.b (!e0))))) kk)).sat P C Q K ν→
   ∃b,∀N,b≤N→c_ P N rd ops (o::l) (E d) df σ (CX N):=by
   intro z q es hz oE gh db;obtain⟨q',aB,h1,h2,h3⟩:=db;rw[hz]at h1;cases h1;obtain⟨B1,AP⟩:=next _ h2
   by_cases he:es=[]
   ·obtain⟨B2,IA⟩:=next _ (h3 he)
    exact⟨max σ.n (max B1 B2),fun N hN=>.isNil hw (by omega) ho fT hu oE (fun _=>AP N (by omega)) (fun _=>IA N (by omega))⟩
   ·exact⟨max σ.n B1,fun N hN=>.isNil hw (by omega) ho fT hu oE (fun _=>AP N (by omega)) (fun h=>absurd (gh h) he)⟩
  unfold afq at hs;split at hs<;>first|(exact hs.elim)|skip
  ·obtain⟨y,h1,h2,_⟩:=p_;obtain⟨q,es,h3,aZ⟩:=hs;have cH:=h3.symm.trans h1;cases cH;obtain⟨g1,g2⟩:=OM h2;exact two _ q es h3 g1 g2 ⟨q,es,h3,aZ⟩
  ·obtain⟨y,h1,h2,_⟩:=p_;obtain⟨q,es,h3,aZ⟩:=hs;have cH:=h3.symm.trans h1;cases cH;obtain⟨g1,g2⟩:=OM h2;exact two _ q es h3 g1 g2 ⟨q,es,h3,aZ⟩
  ·rename_i b s;obtain⟨_,h1⟩:=p_;obtain⟨B,hB⟩:=next _ hs
   cases b with
   |true=>
    simp only[if_true]at h1 hB;exact⟨max σ.n B,fun N hN=>.isNil hw (by omega) ho fT hu (.inl h1) (fun h=>absurd h1 h) (fun _=>hB N (by omega))⟩
   |false=>
    simp only[asD,if_false]at h1 hB;exact⟨max σ.n B,fun N hN=>.isNil hw (by omega) ho fT hu (.inr (.inl h1)) (fun _=>hB N (by omega)) (fun h=>by rw[h1]at h;rcases h with h|⟨_,h⟩<;>cases h)⟩
  ·rename_i j;split at hs<;>first|(exact hs.elim)|skip
   rename_i s0 st0 ar2 fr0 ik hj;obtain⟨s1,rX,rG,rY,z1,eP,b1,b2,b3⟩:=p_;rw[hj]at b1;cases b1;have po:ik.den P ν=some (.tree s0 eP):=b2;refine two _ s0 eP po ?_ ?_ hs
   ·rcases b3 with⟨_,_,b3|b3⟩|⟨_,_,_,_,_,_,_,b3,_⟩
    ·exact .inl b3
    ·exact .inr (.inl b3)
    ·exact .inr (.inr (.inr ⟨_,_,_,_,_,_,b3⟩))
   ·intro h;rcases b3 with⟨_,b4,_⟩|⟨_,_,_,_,_,_,_,b3,_⟩
    ·exact asH b4
    ·rw[b3]at h;rcases h with h|⟨_,h⟩<;>cases h
 split at hs
 ·rename_i es s c hq;split at hq
  ·obtain⟨⟨z,hz⟩,hk⟩:=hs;obtain⟨x,h1,h2⟩:=adT hJ hq hz;obtain⟨b,hb⟩:=ft (V1:=V) (μ:=[]) (x:=x) (pv:=.one c) ih mS hd cb eQ nQ (by rw[asp];exact hJ) (by rw[asp];exact hn) (asR K) hK rfl (fun _ _=>rfl) rfl (by rw[asp];exact h2) (by rw[asp];exact hk);exact⟨max b σ.n,fun N hN=>.val hw h1 (by omega) (hb N (by omega))⟩
  ·cases hq
 ·split at hs
  ·rename_i pv hq;split at hq
   ·obtain⟨x,h1,h2⟩:=aaU hJ hq;obtain⟨b,hb⟩:=ft (V1:=V) (μ:=[]) (x:=x) (pv:=pv) ih mS hd cb eQ nQ (by rw[asp];exact hJ) (by rw[asp];exact hn) (asR K) hK rfl (fun _ _=>rfl) rfl (by rw[asp];exact h2) (by rw[asp];exact hs);exact⟨max b σ.n,fun N hN=>.val hw h1 (by omega) (hb N (by omega))⟩
   ·cases hq
  ·exact XP hC bn ih hJ hn hK cb hd mS eQ nQ hw hs
theorem aaX{o:Oper}{rest:List Oper}{t:TypeId}{pv:PV SE}(h:UG P d V o rest=some (t,pv)):
 ∃x p b,o.op=.makeInterface t x∧o.dst=some b∧o.guard=none∧rest=[p]∧p.op=.panic (.tmp b)∧p.guard=none∧(∀u,(P.underlying t=some (.interface u)→False)∧(P.underlying t=none→False))∧pv=bG P d V t x:=by
 unfold UG at h;split at h<;>first|(cases h;done)|skip
 rename_i t1 x1 p1 ho;split at h<;>first|(cases h;done)|skip
 rename_i a b hp fS D3 D4;split at h<;>first|(cases h;done)|skip
 rename_i hc;simp only[ar6]at hc;obtain⟨bR,gi⟩:=hc;have:=asd bR;subst this;cases h;refine⟨x1,p1,a,ho,fS,D3,rfl,hp,D4,fun u=>⟨fun hu=>?_,fun hu=>?_⟩,rfl⟩
 ·unfold GC at gi;rw[hu]at gi;cases gi
 ·unfold GC at gi;rw[hu]at gi;cases gi
theorem Si(hC:iE P C)(bn:oO P C Q self):∀(l:List Oper) (sk:List Nat),AN P C Q cfg self kx d f0 ops rd df kk CX sk l
 |[],sk=>by
  intro V ν K R φ E σ _ hs hJ hn hK cb eQ _;obtain⟨b,hb⟩:=eQ.now hJ hn hK hs;exact⟨b,fun N hN=>.nil (hb N hN).2⟩
 |o::l,sk=>by
  intro V ν K R φ E σ D5 hs hJ hn hK cb eQ nQ;have ih:∀sk,AN P C Q cfg self kx d f0 ops rd df kk CX sk l:=fun sk=>Si hC bn l sk;simp only[gP]at hs
  have XT:∀t,o.dst=some t→t<V.nt:=by
   intro t ht;rw[ht]at hs;by_cases aa:t<V.nt
   ·exact aa
   ·have:as_ t V.nt=false:=by
     cases h:as_ t V.nt
     ·rfl
     ·exact absurd (by simpa using h) aa
    simp only[this,aw2,if_true]at hs;exact hs.elim
  rw[if_neg]at hs
  rotate_left
  ·cases hh:o.dst with
   |none=>simp
   |some t=>simp[XT t hh]
  ·have hd:∀t,o.dst=some t→t<(E d).n:=by rw[cb];exact XT
   simp only[asD,if_false]at hs;split at hs
   ·rename_i t pv aaY;obtain⟨x,p,b0,ho,fS,D3,rfl,hp,D4,hty,rfl⟩:=aaX aaY;have hx:=aW hJ d t x;have bk:=B9 (d:=d) (dst:=o.dst) (x:=.cY t (aq (E d) x)) hJ;have Jc:(V.jm d o.dst).ln=V.ln:=B_ ..
    obtain⟨fN,jP⟩:=gT Jc
    obtain⟨b,hb⟩:=nQ t _ (V.jm d o.dst) [] K R φ _ σ (aq (E d) x) ⟨asR K,by rw[fN];exact hK,jP,by rw[asp];exact bk,by rw[asp,DZ];exact hn,fun j hj=>gp _ _ _ (by omega),by rw[bZ,eL]⟩
     (by rw[asp];cases o.dst<;>exact hx) (by rw[asp];exact hs)
    rw[bZ]at hb;refine⟨max b σ.n,fun N hN=>?_⟩;have AQ:aF o ops (E d)=true:=by unfold aF;rw[D3]
    have dZ:ak P 0 (aq (E d)) o σ=some (.val (.cY t (aq (E d) x)) σ):=by
     simp only[ak,ho];split
     ·rename_i u hu;exact((hty u).1 hu).elim
     ·rfl
     ·rename_i hu;exact((hty #[]).2 hu).elim
    refine .val AQ dZ (by omega) ?_;have aa:b0<(E d).n:=hd b0 fS;refine .panic (by unfold aF;rw[D4]) (v:=.cY t (aq (E d) x)) ?_ (hb N (by omega)).2;simp only[ak,hp,aq];rw[fS,dH aa]
   rename_i aaY;clear aaY
   have fG:∀(V1:SS),J (aj P ν) R φ V1.g V1.l E σ→V1.n=V.n→V1.ln=V.ln→aF o ops (E d)=true→
    (match xS P cfg d false o V1 with
     |some (g,args)=>EN P cfg self kx d f0 o.dst g args V1 fun V=>gP P cfg self kx d f0 false ops (sS sk o.dst) l V kk
     |none=>Bo P cfg self kx d f0 false o V1 fun pv V=>gP P cfg self kx d f0 false ops (sS sk o.dst) l (V.bH d o.dst pv) kk).sat P C Q K ν→∃b,∀N,b≤N→c_ P N rd ops (o::l) (E d) df σ (CX N):=by
    intro V1 bk cX tQ hw c9;obtain⟨fN,jP⟩:=gT tQ;split at c9
    ·rename_i g cP hj;obtain⟨c,f,bs,ho,hc,hf,rfl⟩:=XO hj;have nP:=aW bk d 0 f;rw[hf]at nP;have bg:=fI bk d c.args.toList c.argTypes.toList
     have bA:∃fn,P.funcs[g]?=some fn∧fn.body.isSome=true∧(fn.name != "runtime.NumGoroutine")=true:=by
      by_cases hh:∃fn,P.funcs[g]?=some fn∧fn.body.isSome=true∧(fn.name != "runtime.NumGoroutine")=true
      ·exact hh
      ·exfalso;unfold EN at c9;simp only at c9;split at c9
       ·exact c9
       ·rename_i hfb
        obtain⟨n,hn⟩:=aaO (P:=P) (cfg:=cfg) (self:=self) (kx:=fun _ _ _=>.fail 0) (d:=d) (f0:=f0) (dst:=o.dst) (V:={V1 with lv:=V1.lv+1}) (k:=fun pv W=>.bad 999999 (W.bH d o.dst pv).n (W.bH d o.dst pv).lv 0 0 (W.bH d o.dst pv).g (W.bH d o.dst pv).l (W.bH d o.dst pv).g (W.bH d o.dst pv).l) (g:=g)
         (cP:=gO P d V1 c.args.toList c.argTypes.toList++bs.map fun(p:Nat×Nat)=>.one (.pt p.1 0 p.2)) (fun fn h1 h2 h3=>hh ⟨fn,h1,h2,h3⟩)
        rw[hn]at hfb;cases hfb
     obtain⟨fn,bA,hb,kL⟩:=bA;obtain⟨ys,gY,qg⟩:=jO (args:=c.args.toList.map (aq (E d))) nP bA hb kL
     have dZ:ak P 0 (aq (E d)) o σ=some (.enter g (c.args.toList.map (aq (E d))++ys)):=by
      simp only[ak,ho,hc];exact gY
     obtain⟨_,_,_,_,b,hcw⟩:=aaQ (RW:=fun N v ai=>ai.n≤N∧c_ P N rd ops l ((E d).put o.dst v) df ai (CX N)) (PW:=fun N v ai=>CX N (.bC v) (E d) ai) hC bn bk (by rw[cX];exact hn) (by rw[fN];exact hK) (by rw[jP];exact cb) (bg.app qg) hd c9 (by
      intro H vs R' aH E' ah v K3 CB aoi aaZ hE' yj aZ
      obtain⟨b,hb⟩:=ih (sS sk o.dst) H (ν++vs) K R' aH E' ah (by rw[yj];exact D5.put o.dst _) aZ K3 CB (by rw[aoi,fN];exact hK) (by rw[yj,eL,aaZ,jP];exact cb) (by
       rw[aaZ,jP];exact eQ.fwd (asR K) hE' (by rw[yj,eL])) (by
       rw[aaZ,jP];exact nQ.fwd (asR K) hE' (by rw[yj,eL]))
      refine⟨max b ah.n,fun N hN=>⟨by omega,by omega,?_⟩⟩;have:=hb N (by omega);rw[yj]at this;exact this) (by
      intro t pv V' μ K' R' aH E' ah v hF mR hv aZ;obtain⟨b,hb⟩:=nQ t pv V' μ K' R' aH E' ah v (jP▸hF) hv aZ;exact⟨b,fun N hN=>⟨(hb N hN).1,by rw[←mR];exact(hb N hN).2⟩⟩)
     exact⟨b,fun N hN=>.Up hw dZ (hcw N hN) (fun v ai hv=>hv) fun v ai hv=>hv⟩
    ·exact aaW hC bn (ih (sS sk o.dst)) bk (by rw[cX];exact hn) (by rw[fN];exact hK) (by rw[jP];exact cb) hd (fun x=>D5.put o.dst x) (by rw[jP];exact eQ) (by rw[jP];exact nQ) hw c9
   have Cd:∀(V1:SS),J (aj P ν) R φ V1.g V1.l E σ→V1.n=V.n→V1.ln=V.ln→aF o ops (E d)=false→
    (gP P cfg self kx d f0 false ops (EP sk o.dst) l (V1.jm d o.dst) kk).sat P C Q K ν→∃b,∀N,b≤N→c_ P N rd ops (o::l) (E d) df σ (CX N):=by
    intro V1 bk cX tQ hw c9;have Jc:(V1.jm d o.dst).ln=V.ln:=by rw[B_,tQ]
    obtain⟨fN,jP⟩:=gT Jc
    obtain⟨b,hb⟩:=ih (EP sk o.dst) (V1.jm d o.dst) ν K R φ _ σ (by rw[bZ];exact D5.add hd) c9 (B9 (x:=.undef) bk) (by rw[DZ,cX];exact hn) (by rw[fN];exact hK) (by rw[bZ,eL,jP];exact cb) (by
     rw[jP];have:=eQ.fwd (zq:=[]) (E1:=qs E d ((E d).put o.dst .undef)) (asR K) (fun j hj=>gp _ _ _ (by omega)) (by rw[bZ,eL]);rw[asp]at this;exact this) (by
     rw[jP];have:=nQ.fwd (zq:=[]) (E1:=qs E d ((E d).put o.dst .undef)) (asR K) (fun j hj=>gp _ _ _ (by omega)) (by rw[bZ,eL]);rw[asp]at this;exact this)
    refine⟨b,fun N hN=>.skip hw ?_⟩;have:=hb N hN;rw[bZ]at this;exact this
   obtain⟨w1,w2,w3⟩:=OE (o:=o) hJ cb (ops:=ops)
   have w2':(if mC sk ops o=true then Want.skip else sP ops d V o)=.skip→aF o ops (E d)=false:=fun h=>by
    by_cases hq:mC sk ops o=true
    ·exact D5.ab9 hq
    ·rw[if_neg hq]at h;exact w2 h
   have w0:∀w,w≠.skip→(if mC sk ops o=true then Want.skip else sP ops d V o)=w→sP ops d V o=w:=fun w hw h=>by
    by_cases hq:mC sk ops o=true
    ·rw[if_pos hq]at h;exact absurd h.symm hw
    ·rw[if_neg hq]at h;exact h
   split at hs
   ·rename_i hh;exact fG V hJ rfl rfl (w1 (w0 _ (by simp) hh)) hs
   ·rename_i hh;exact Cd V hJ rfl rfl (w2' hh) hs
   ·rename_i t e want hh;replace hh:=w0 _ (by simp) hh;obtain⟨hg,hb⟩:=w3 _ _ _ hh;rcases hs with⟨h1,hs⟩|⟨h1,hs⟩
    ·obtain⟨az,bk⟩:=J.refine hJ hg h1;have hw:=hb _ az;cases want
     ·exact Cd _ bk rfl rfl (by rw[hw];rfl) hs
     ·exact fG _ bk rfl rfl (by rw[hw];rfl) hs
    ·obtain⟨az,bk⟩:=J.refine hJ hg h1;have hw:=hb _ az;cases want
     ·exact fG _ bk rfl rfl (by rw[hw];rfl) hs
     ·exact Cd _ bk rfl rfl (by rw[hw];rfl) hs
   ·exact hs.elim
end Go.Ev
namespace Go.Ev
variable{P:Program}{N:Nat}{σ ah:St}{R R':Rs}{φ aH:Ph}{E:Nat→Env}{ν:List IV}{ro:Nat}{ι:Io}{w:World}{cfg:aL}{self:mZ}
variable{C:Cr}{Q:IV→Prop}{K:List (List IV→Prop)}{V:SS}{d f0:Nat}{o:Oper}{k:PV SE→SS→af}{L:List (LO SE)}{Γ:Gm SE}{rd:Option Nat}{df:List Df}
variable{fr:Bool}{kx:Kx}{sk:List Nat}{ops:Array Oper}{pl:dx}{l:List (Oper×Nat)}{kk:SS→af}{CX:Nat→jx}
def MH(fr:Bool)(P:Program)(C:Cr)(Q:IV→Prop)(cfg:aL)(self:mZ)(kx:Kx)(d f0:Nat)(ops:Array Oper)(pl:dx)(kk:SS→af)(CX:Nat→jx)(sk:List Nat)(l:List (Oper×Nat)):Prop:=
 ∀(V:SS) ν K R φ E σ,lR (E d) sk→(gP P cfg self kx d f0 true ops sk (l.map auQ) V kk).sat P C Q K ν→J (aj P ν) R φ V.g V.l E σ→ν.length=V.n→K.length=V.lv→(E d).n=V.nt→KS P C Q d E K ν V.nt kk (fun N e σ=>CX N .normal e σ)→
  ∃e' ah,fj P 0 ops pl fr l (E d) σ e' ah∧∃b,∀N,b≤N→ah.n≤N∧CX N .normal e' ah
theorem wV(ih:MH fr P C Q cfg self kx d f0 ops pl kk CX sk l){dst:Option Nat}(mS:∀x,lR ((E d).put dst x) sk)(hd:∀t,dst=some t→t<(E d).n){nt:Nat}(cb:(E d).n=nt)(eQ:KS P C Q d E K ν nt kk (fun N e σ=>CX N .normal e σ))
 {V1:SS}{μ:List IV}{R1:Rs}{dt:Ph}{ai:St}{x:IV}{pv:PV SE}
 (hJ:J (aj P (ν++μ)) R1 dt V1.g V1.l E ai)(hn:(ν++μ).length=V1.n)(fN:K.length=V1.lv)(jP:V1.nt=nt)
 (hx:VR (aj P (ν++μ)) R1 dt V1.l ai x pv)(hs:(gP P cfg self kx d f0 true ops sk (l.map auQ) (V1.bH d dst pv) kk).sat P C Q K (ν++μ)):
 ∃e' ah,fj P 0 ops pl fr l ((E d).put dst x) ai e' ah∧∃b,∀N,b≤N→ah.n≤N∧CX N .normal e' ah:=by
 have bk:=B8 (d:=d) (dst:=dst) hJ hx hd;have JY:(V1.bH d dst pv).nt=nt:=by cases dst<;>exact jP
 have aaN:(V1.bH d dst pv).lv=V1.lv:=by cases dst<;>rfl
 have:=ih (V1.bH d dst pv) (ν++μ) K R1 dt _ ai (by rw[bZ];exact mS x) hs bk (by rw[DY];exact hn) (by rw[aaN];exact fN) (by rw[bZ,eL,cb,JY]) (by
  rw[JY];exact eQ.fwd (asR K) (fun j hj=>by rw[gp _ _ _ (by omega)]) (by rw[bZ,eL]))
 rw[bZ]at this;exact this
theorem Vm(cfg:aL)(g:FuncId):xi (AA cfg) g=false:=by
 cases h:xi (AA cfg) g with
 |false=>rfl
 |true=>
  unfold xi AA at h;simp only[ar6]at h;obtain⟨aa,h⟩:=h;obtain⟨n,hn,hg⟩:=avJ.1 h;have:=asd hg;have h2:=(asK.1 hn).2;simp at h2 aa;omega
theorem aa0{j:Nat}(hC:iE P C)(hq:∀g,xi cfg g=true→fr=true)(ih:MH fr P C Q cfg self kx d f0 ops pl kk CX sk l)(hJ:J (aj P ν) R φ V.g V.l E σ)(hn:ν.length=V.n)(hK:K.length=V.lv)(cb:(E d).n=V.nt)
 (hd:∀t,o.dst=some t→t<(E d).n)(mS:∀x,lR ((E d).put o.dst x) sk)(eQ:KS P C Q d E K ν V.nt kk (fun N e σ=>CX N .normal e σ))(hw:aF o ops (E d)=true)
 (hs:(Bo P cfg self kx d f0 true o V fun pv V=>gP P cfg self kx d f0 true ops sk (l.map auQ) (V.bH d o.dst pv) kk).sat P C Q K ν):
 ∃e' ah,fj P 0 ops pl fr ((o,j)::l) (E d) σ e' ah∧∃b,∀N,b≤N→ah.n≤N∧CX N .normal e' ah:=by
 have Iy:(fE P d o V fun pv V=>gP P cfg self kx d f0 true ops sk (l.map auQ) (V.bH d o.dst pv) kk).sat P C Q K ν→∃e' ah,fj P 0 ops pl fr ((o,j)::l) (E d) σ e' ah∧∃b,∀N,b≤N→ah.n≤N∧CX N .normal e' ah:=by
  intro hs;obtain⟨x,ai,R1,dt,pv,V1,μ,h1,h2,h3,h4,h5,h6⟩:=XD hJ hn hs;obtain⟨e',ah,g1,g2⟩:=wV ih mS hd cb eQ h2 h4 (by rw[(gT h5).1];exact hK) (gT h5).2 h3 h6;exact⟨e',ah,.val hw h1 g1,g2⟩
 unfold Bo at hs;simp only[if_true,au2,aw3,asD,if_false]at hs;unfold HT at hs;split at hs
 ·rename_i c ho;unfold UC at hs;split at hs
  ·exact Iy hs
  ·rename_i f hc;split at hs<;>first|(exact hs.elim)|skip
   rename_i g bs hf;simp only at hs;split at hs
   ·split at hs
    ·simp only[au2,aw3,asD,if_false]at hs;exact hs.elim
    ·exact hs.elim
   split at hs
   ·rename_i hp;simp only[ar6,atg]at hp;obtain⟨fZ,tK⟩:=hp;subst fZ
    have aoj:∃(args:List IV) (v:IV) (ai:St) (R1:Rs) (dt:Ph) (pv:PV SE) (V1:SS) (μ:List IV),ak P 0 (aq (E d)) o σ=some (.enter g args)∧(∀ro,eK P ro g args σ v ai)∧(ai=σ∨∃ob,ai=σ.add ob)∧J (aj P (ν++μ)) R1 dt V1.g V1.l E ai∧VR (aj P (ν++μ)) R1 dt V1.l ai v pv∧(ν++μ).length=V1.n∧V1.ln=V.ln∧
     (gP P cfg self kx d f0 true ops sk (l.map auQ) (V1.bH d o.dst pv) kk).sat P C Q K (ν++μ):=by
     split at hs
     ·exact Lk hC hJ hn ‹_› ho hc hf hs
     ·exact Lj hC hJ hn ho hc hf hs
    obtain⟨args,v,ai,R1,dt,pv,V1,μ,dZ,qf,sw,g1,g2,g3,g4,g5⟩:=aoj;obtain⟨e',ah,r1,r2⟩:=wV ih mS hd cb eQ g1 g3 (by rw[(gT g4).1];exact hK) (gT g4).2 g2 g5;rcases sw with rfl|⟨ob,rfl⟩
    ·exact⟨e',ah,.EE hw dZ qf r1,r2⟩
    ·exact⟨e',ah,.Mo (hq g tK) hw dZ qf r1,r2⟩
   split at hs
   ·rename_i hp;simp only[ar6,atg]at hp;have fZ:=hp.1;subst fZ;obtain⟨args,v,ai,R1,dt,pv,V1,μ,dZ,qf,rfl,g1,g2,g3,g4,g5⟩:=OC hC hJ hn ho hc hf hs;obtain⟨e',ah,r1,r2⟩:=wV ih mS hd cb eQ g1 g3 (by rw[(gT g4).1];exact hK) (gT g4).2 g2 g5;exact⟨e',ah,.EE hw dZ qf r1,r2⟩
   split at hs
   ·split at hs<;>exact hs.elim
   split at hs
   ·rename_i hp;simp only[ar6,atg]at hp;have fZ:=hp.1;subst fZ;split at hs<;>first|(exact hs.elim)|skip
    rename_i zs V' fn hr bA;split at hs<;>first|(exact hs.elim)|skip
    rename_i bJ;simp only[ar6]at bJ;obtain⟨g',args,z,R1,pv,V1,μ,h1,h2,h3,h4,h5,h6,h7⟩:=OB hC hJ hn ho hc hf hr bA bJ.1.2 bJ.2 bJ.1.1 hs;obtain⟨e',ah,g1,g2⟩:=wV ih mS hd cb eQ h3 h5 (by rw[(gT h6).1];exact hK) (gT h6).2 h4 h7;exact⟨e',ah,.EE hw h1 h2 g1,g2⟩
   ·exact hs.elim
  ·exact hs.elim
 ·exact Iy hs
theorem D6(hC:iE P C)(hq:∀g,xi cfg g=true→fr=true):∀(l:List (Oper×Nat)) (sk:List Nat),MH fr P C Q cfg self kx d f0 ops pl kk CX sk l
 |[],sk=>by
  intro V ν K R φ E σ _ hs hJ hn hK cb eQ;exact⟨E d,σ,.nil _ _,eQ.now hJ hn hK hs⟩
 |(o,j)::l,sk=>by
  intro V ν K R φ E σ D5 hs hJ hn hK cb eQ;have ih:∀sk,MH fr P C Q cfg self kx d f0 ops pl kk CX sk l:=fun sk=>D6 hC hq l sk;simp only[asY,gP,if_true]at hs
  have XT:∀t,o.dst=some t→t<V.nt:=by
   intro t ht;rw[ht]at hs;by_cases aa:t<V.nt
   ·exact aa
   ·have:as_ t V.nt=false:=by
     cases h:as_ t V.nt
     ·rfl
     ·exact absurd (by simpa using h) aa
    simp only[this,aw2,if_true]at hs;exact hs.elim
  rw[if_neg]at hs
  rotate_left
  ·cases hh:o.dst with
   |none=>simp
   |some t=>simp[XT t hh]
  ·have hd:∀t,o.dst=some t→t<(E d).n:=by rw[cb];exact XT
   have fG:∀(V1:SS),J (aj P ν) R φ V1.g V1.l E σ→V1.n=V.n→V1.ln=V.ln→aF o ops (E d)=true→
    (match xS P cfg d true o V1 with
     |some (g,args)=>EN P cfg self kx d f0 o.dst g args V1 fun V=>gP P cfg self kx d f0 true ops (sS sk o.dst) (l.map auQ) V kk
     |none=>Bo P cfg self kx d f0 true o V1 fun pv V=>gP P cfg self kx d f0 true ops (sS sk o.dst) (l.map auQ) (V.bH d o.dst pv) kk).sat P C Q K ν→
    ∃e' ah,fj P 0 ops pl fr ((o,j)::l) (E d) σ e' ah∧∃b,∀N,b≤N→ah.n≤N∧CX N .normal e' ah:=by
    intro V1 bk cX tQ hw c9;obtain⟨fN,jP⟩:=gT tQ;have:xS P cfg d true o V1=none:=by simp[xS]
    rw[this]at c9;exact aa0 hC hq (ih (sS sk o.dst)) bk (by rw[cX];exact hn) (by rw[fN];exact hK) (by rw[jP];exact cb) hd (fun x=>D5.put o.dst x) (by rw[jP];exact eQ) hw c9
   have Cd:∀(V1:SS),J (aj P ν) R φ V1.g V1.l E σ→V1.n=V.n→V1.ln=V.ln→aF o ops (E d)=false→
    (gP P cfg self kx d f0 true ops (EP sk o.dst) (l.map auQ) (V1.jm d o.dst) kk).sat P C Q K ν→∃e' ah,fj P 0 ops pl fr ((o,j)::l) (E d) σ e' ah∧∃b,∀N,b≤N→ah.n≤N∧CX N .normal e' ah:=by
    intro V1 bk cX tQ hw c9;have Jc:(V1.jm d o.dst).ln=V.ln:=by rw[B_,tQ]
    obtain⟨fN,jP⟩:=gT Jc
    obtain⟨e',ah,g1,g2⟩:=ih (EP sk o.dst) (V1.jm d o.dst) ν K R φ _ σ (by rw[bZ];exact D5.add hd) c9 (B9 (x:=.undef) bk) (by rw[DZ,cX];exact hn) (by rw[fN];exact hK) (by rw[bZ,eL,jP];exact cb) (by
     rw[jP];have:=eQ.fwd (zq:=[]) (E1:=qs E d ((E d).put o.dst .undef)) (asR K) (fun j hj=>gp _ _ _ (by omega)) (by rw[bZ,eL]);rw[asp]at this;exact this)
    rw[bZ]at g1;exact⟨e',ah,.skip hw g1,g2⟩
   obtain⟨w1,w2,w3⟩:=OE (o:=o) hJ cb (ops:=ops)
   have w2':(if mC sk ops o=true then Want.skip else sP ops d V o)=.skip→aF o ops (E d)=false:=fun h=>by
    by_cases hq:mC sk ops o=true
    ·exact D5.ab9 hq
    ·rw[if_neg hq]at h;exact w2 h
   have w0:∀w,w≠.skip→(if mC sk ops o=true then Want.skip else sP ops d V o)=w→sP ops d V o=w:=fun w hw h=>by
    by_cases hq:mC sk ops o=true
    ·rw[if_pos hq]at h;exact absurd h.symm hw
    ·rw[if_neg hq]at h;exact h
   split at hs
   ·rename_i hh;exact fG V hJ rfl rfl (w1 (w0 _ (by simp) hh)) hs
   ·rename_i hh;exact Cd V hJ rfl rfl (w2' hh) hs
   ·rename_i t e want hh;replace hh:=w0 _ (by simp) hh;obtain⟨hg,hb⟩:=w3 _ _ _ hh;rcases hs with⟨h1,hs⟩|⟨h1,hs⟩
    ·obtain⟨az,bk⟩:=J.refine hJ hg h1;have hw:=hb _ az;cases want
     ·exact Cd _ bk rfl rfl (by rw[hw];rfl) hs
     ·exact fG _ bk rfl rfl (by rw[hw];rfl) hs
    ·obtain⟨az,bk⟩:=J.refine hJ hg h1;have hw:=hb _ az;cases want
     ·exact fG _ bk rfl rfl (by rw[hw];rfl) hs
     ·exact Cd _ bk rfl rfl (by rw[hw];rfl) hs
   ·exact hs.elim
theorem adU(hJ:J (aj P ν) R φ V.g V.l E σ)(cb:(E d).n=V.nt):lN σ.n (E d) (DK d V):=by
 refine⟨cb,fun t ht=>?_,fun t ht=>by cases ht⟩;unfold vN DK at ht;rw[avJ]at ht;obtain⟨t',ht',hb⟩:=ht;have:=asd hb;subst this;have h2:=(asK.1 ht').2;split at h2
 ·rename_i k off ext hg;obtain⟨id,cs,h3,_,h5⟩:=hJ.slot d t _ hg;exact .inl ⟨id,off,0,ext,h5,(hJ.lt k id h3).2⟩
 ·rename_i cs hg;obtain⟨ds,h3,_⟩:=hJ.slot d t _ hg;exact .inr (.inl ⟨ds,h3⟩)
 ·cases h2
theorem aa1(hJ:J (aj P ν) R φ V.g V.l E σ){ops:Array Oper}:sM P ops φ (E d) σ (DK d V):=by
 refine⟨fun t h ht=>?_,fun i a d h hm=>by cases hm⟩;obtain⟨⟨d',t',pv⟩,_,h2⟩:=List.mem_filterMap.1 (show(t,h)∈V.g.filterMap _ from ht);simp only at h2;split at h2<;>first|(cases h2;done)|skip
 split at h2<;>first|(cases h2;done)|skip
 rename_i k off ext hg;cases h2;obtain⟨id,cs,h3,_,h5⟩:=hJ.slot d _ _ hg;exact⟨id,off,0,ext,h3,h5⟩
theorem aa2(eT:P.follows .mixedOrders=true)(hC:iE P C){fn:FuncId}{id:Nat}(iW:((dp ops).ok&&(ED ops (dp ops)||mA P (dp ops) ops.toList.zipIdx (DK d V)))=true)(hs:(gP P (if mA P (dp ops) ops.toList.zipIdx (DK d V)then cfg else AA cfg) self kx d f0 true ops [] ops.toList V kk).sat P C Q K ν)
 (hJ:J (aj P ν) R φ V.g V.l E σ)(hn:ν.length=V.n)(hK:K.length=V.lv)(cb:(E d).n=V.nt)(eQ:KS P C Q d E K ν V.nt kk (fun N e σ=>CX N .normal e σ)):
 ∃b,∀N,b≤N→cT P N rd (.region id ops true) (E d) df σ (CX N):=by
 simp only[ar6,asP]at iW;have aK:ops.toList.zipIdx.map (·.1)=ops.toList:=by simp
 by_cases hq:mA P (dp ops) ops.toList.zipIdx (DK d V)=true
 ·rw[if_pos hq]at hs;obtain⟨e',ah,h1,b,hb⟩:=D6 (fr:=true) (pl:=dp ops) (CX:=CX) hC (fun _ _=>rfl) ops.toList.zipIdx [] V ν K R φ E σ (lR.nil _) (by rw[aK];exact hs) hJ hn hK cb eQ;exact⟨b,fun N hN=>cT.HK (fn:=fn) (bW.ai3 eT iW.1 hq (adU hJ cb) hJ.inj (aa1 hJ) hJ.wf h1) rfl (hb N hN).1 (hb N hN).2⟩
 ·rw[if_neg hq]at hs;obtain⟨e',ah,h1,b,hb⟩:=D6 (fr:=false) (pl:=dp ops) (CX:=CX) hC (fun g hg=>by rw[Vm]at hg;cases hg) ops.toList.zipIdx [] V ν K R φ E σ (lR.nil _) (by rw[aK];exact hs) hJ hn hK cb eQ;rcases iW.2 with DB|DB
  ·exact⟨b,fun N hN=>cT.HK (fn:=fn) (bW.draw eT iW.1 DB hJ.wf h1) rfl (hb N hN).1 (hb N hN).2⟩
  ·exact absurd DB hq
end Go.Ev
