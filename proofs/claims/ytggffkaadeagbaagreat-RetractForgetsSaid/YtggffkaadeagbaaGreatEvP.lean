/- Lemmas over the model, without conditions of their own: code on expressions is sound (2); contracts out of functional programs. -/
import Derived.Test.YtggffkaadeagbaaGreatEvO
import Derived.Test.YtggffkaadeagbaaGreatEvN
import Derived.ProofKit
import Derived.OpenShut
open Nat renaming rec->avp,eq_of_beq_eq_true->asd,le_refl->ar9,ble->as4,beq->ase,zero_add->atx,add_zero->awr,zero_le->asT,mul_comm->axz
open List renaming prefix_append->awq,append_assoc->asv,getElem?_append_right->asw,getElem?_cons_zero->atF,drop_of_length_le->asA,drop_eq_getElem_cons->asq,drop_zero->aut,getElem?_eq_some_iff->ar5,getElem?_eq_getElem->ar4,mem_of_getElem?->ash,getElem?_cons_succ->auu,length->asJ,map_cons->asY,getElem?_map->asi,getElem?_append_left->asf,length_map->atC,ofFn->awH
open Option.some renaming injEq->ar7
open Bool renaming false_eq_true->asD,and_eq_true->ar6,not_eq_true'->asN
open Prod.mk renaming injEq->asx
open Option renaming map_some->asC,bind_some->asc,map_eq_some_iff->ar_,bind_eq_some_iff->ass
open List.cons renaming injEq->as5,inj->au_
open Iff renaming rfl->au0
open Go.IntKind renaming i64->aso
open Go.Op renaming bytesLess->auC,equalIn->atw
open Go.Addr renaming add->axQ
open Go.DataW renaming trod->as9
open Classical renaming axiomOfChoice->avj
set_option linter.all false
namespace Go.Ev
variable{P:Program}{N:Nat}{σ ah:St}{R R':Rs}{φ aH:Ph}{E:Nat→Env}{ν:List IV}{ro:Nat}{ι:Io}{w:World}{cfg:aL}{self:mZ}
variable{C:Cr}{Q:IV→Prop}{K:List (List IV→Prop)}{V:SS}{d f0:Nat}{o:Oper}{k:PV SE→SS→af}{L:List (LO SE)}{Γ:Gm SE}{rd:Option Nat}{df:List Df}
theorem XR.goto{ex:yV}{x:Ex}(h:XR P ν R φ L σ ex x)(l:Nat):x≠.goto l:=by
 cases ex with
 |bC t pv=>obtain⟨v,rfl,_⟩:=h;simp
 |_=>rw[show x=_ from h];simp
theorem XR.norm{ex:yV}{x:Ex}(h:XR P ν R φ L σ ex x)(bc:ex≠.normal):x≠.normal:=by
 cases ex with
 |normal=>exact absurd rfl bc
 |bC t pv=>obtain⟨v,rfl,_⟩:=h;simp
 |_=>rw[show x=_ from h];simp
theorem Sj{t:Nat}{c:Cl SE}(hc:c≠.un)(h:bG P d V 0 (.tmp t)=.one c):cn d t V.g=some (.one c):=by
 simp only[bG]at h;cases hg:cn d t V.g with
 |none=>rw[hg]at h;cases h;exact absurd rfl hc
 |some pv=>rw[hg]at h;simpa using h
theorem KW.ks{kk:yV→SS→af}{nt:Nat}{CW:Nat→jx}(h:KW P C Q d E K ν nt kk CW):KS P C Q d E K ν nt (kk .normal) (fun N e σ=>CW N .normal e σ):=
 fun V' μ K' R' aH E' ah hf hs=>h .normal V' μ K' R' aH E' ah _ hf rfl hs
theorem Lp{a:Code}{k:yV→SS→af}{CW:Nat→jx}{H:SS}{n mm f:Nat}{ws:List (Nat×Nat×Nat)}{bad:SS→af}{lv:Nat}(hKl:K.length=lv)(bn:oO P C Q self)(afN:∀W K ν,¬(bad W).sat P C Q K ν)
 (hK:K.length+1=H.lv)(hHn:H.n=n+mm)(hn:ν.length=n)(iN:KW P C Q d E K ν H.nt k CW):∀(m:Nat) {vs:List IV} {R:Rs} {φ:Ph} {E1:Nat→Env} {σ:St},J (aj P (ν++vs)) R φ H.g H.l E1 σ→vs.length=mm→(∀j,j<d→E1 j=E j)→(E1 d).n=(E d).n→(E d).n=H.nt→
  (avp (motive:=fun _=>List IV→Prop) (fun _=>False) (fun _ ih vs=>(self d f a H fun ex W=>match ex with
   |.normal=>match inst n mm H (settle ws W)with
    |some (args,_)=>.next lv (dN args)
    |none=>bad W
   |ex=>k ex W).sat P C Q (K++[ih]) (ν++vs)) m) vs→∃b,∀N,b≤N→oc P N rd m a (E1 d) df σ (CW N)
 |0,_,_,_,_,_,_,_,_,_,_,h=>h.elim
 |m+1,vs,R,φ,E1,σ,hJ,gK,hE,OL,hE2,h=>by
  obtain⟨b,hb⟩:=bn d f a H _ (ν++vs) _ R φ E1 σ (fun N=>vt N (fun e1 ai=>oc P N rd m a e1 df ai (CW N)) (CW N)) rd df h hJ (by rw[List.length_append,hn,gK,hHn]) (by simp[hK]) (by rw[OL,hE2]) (by
   intro ex V' μ K' R' aH E' ah x hf hx hs
   have other:∀vD,vD≠.normal→XR P (ν++vs++μ) R' aH V'.l ah vD x→(k vD V').sat P C Q K' (ν++vs++μ)→∃b,∀N,b≤N→ah.n≤N∧vt N (fun e1 ai=>oc P N rd m a e1 df ai (CW N)) (CW N) x (E' d) ah:=by
    intro vD bc hx hs;have aok:∀x,KW P C Q d E1 (K++[x]) (ν++vs) H.nt k CW:=fun x=>iN.fwd (awq K [x]) hE OL;obtain⟨b,hb⟩:=aok _ vD V' μ K' R' aH E' ah x hf hx hs;exact⟨b,fun N hN=>⟨(hb N hN).1,(hb N hN).1,fun h=>absurd h (hx.norm bc),fun _=>(hb N hN).2⟩⟩
   cases ex with
   |normal=>
    obtain rfl:=hx;simp only at hs;split at hs
    ·rename_i es dR hi;obtain⟨R2,dP,xH,_⟩:=zw ws hf.hJ;obtain⟨us,p,h1,h2,h3⟩:=hs;obtain⟨hlen,tV⟩:=JX (qi:=ν) dP hn ⟨vs++μ,by rw[asv]⟩ hi (GP h1);obtain⟨t,ht⟩:=hf.hK;rw[←ht,asv,asw (by omega),hKl,Nat.sub_self]at h2;simp only[List.singleton_append,atF,ar7]at h2;subst h2;obtain⟨b,hb⟩:=Lp hKl bn afN hK hHn hn iN m tV hlen (fun j hj=>by rw[hf.hE j hj,hE j hj]) (by rw[hf.Ir,OL]) hE2 h3;exact⟨max b ah.n,fun N hN=>⟨by omega,by omega,fun _=>hb N (by omega),fun h=>absurd rfl h⟩⟩
    ·exact(afN _ _ _ hs).elim
   |exit i=>exact other (.exit i) (by simp) hx hs
   |ret=>exact other .ret (by simp) hx hs
   |bC t pv=>exact other (.bC t pv) (by simp) hx hs)
  exact⟨b,fun N hN=>.succ (hb N hN)⟩
theorem Lq{a:Code}{k:yV→SS→af}{CW:Nat→jx}{f:Nat}(bn:oO P C Q self):∀(n:Nat) (V:SS) ν K R φ E σ,(JC self d f a k n V).sat P C Q K ν→J (aj P ν) R φ V.g V.l E σ→ν.length=V.n→K.length=V.lv→(E d).n=V.nt→KW P C Q d E K ν V.nt k CW→
 ∃b,∀N,b≤N→oc P N rd n a (E d) df σ (CW N)
 |0,_,_,_,_,_,_,_,hs,_,_,_,_,_=>hs.elim
 |n+1,V,ν,K,R,φ,E,σ,hs,hJ,hn,hK,cb,iN=>by
  obtain⟨b,hb⟩:=bn d f a V _ ν K R φ E σ (fun N=>vt N (fun e1 ai=>oc P N rd n a e1 df ai (CW N)) (CW N)) rd df hs hJ hn hK cb (by
   intro ex V' μ K' R' aH E' ah x0 hf hx aZ
   have other:∀vD,vD≠.normal→XR P (ν++μ) R' aH V'.l ah vD x0→(k vD V').sat P C Q K' (ν++μ)→∃b,∀N,b≤N→ah.n≤N∧vt N (fun e1 ai=>oc P N rd n a e1 df ai (CW N)) (CW N) x0 (E' d) ah:=by
    intro vD bc hx hs;obtain⟨b,hb⟩:=iN vD V' μ K' R' aH E' ah x0 hf hx hs;exact⟨b,fun N hN=>⟨(hb N hN).1,(hb N hN).1,fun h=>absurd h (hx.norm bc),fun _=>(hb N hN).2⟩⟩
   cases ex with
   |normal=>
    obtain rfl:=hx
    obtain⟨b,hb⟩:=Lq bn n V' (ν++μ) K' R' aH E' ah aZ hf.hJ hf.hn hf.fN (by rw[hf.Ir,cb,hf.cb]) (by
     rw[hf.cb];exact iN.fwd hf.hK hf.hE hf.Ir)
    exact⟨max b ah.n,fun N hN=>⟨by omega,by omega,fun _=>hb N (by omega),fun h=>absurd rfl h⟩⟩
   |exit i=>exact other (.exit i) (by simp) hx aZ
   |ret=>exact other .ret (by simp) hx aZ
   |bC t pv=>exact other (.bC t pv) (by simp) hx aZ)
  exact⟨b,fun N hN=>.succ (hb N hN)⟩
theorem KW.uniq{k:yV→SS→af}{CW:Nat→jx}{nt:Nat}{Q':IV→Prop}(hq:∀z,Q' z→Q z)(h:KW P C Q d E K ν nt k CW):KW P C Q' d E (K.map fun _ _=>False) ν nt k CW:=by
 intro ex V' μ K' R' aH E' ah x hf hx hs;obtain⟨t,ht⟩:=hf.hK;refine h ex V' μ (K++t) R' aH E' ah x ⟨awq K t,?_,hf.cb,hf.hJ,hf.hn,hf.hE,hf.Ir⟩ hx (af.dV P _ hq ?_ hs)
 ·have:=hf.fN;rw[←ht]at this;simpa using this
 ·rw[←ht];exact(qM.no K).app (qM.refl t)
theorem Rb(eT:P.follows .mixedOrders=true)(hC:iE P C)(XU:∀Q,oO P C Q self):oO P C Q (m_ P cfg self):=by
 have bn:=XU Q;intro d f c V k ν K R φ E σ CW rd df hs hJ hn hK cb iN;cases c with
 |skip=>
  obtain⟨b,hb⟩:=iN.now hJ hn hK (ex:=.normal) rfl hs;exact⟨b,fun N hN=>.skip (hb N hN).2⟩
 |label l=>
  obtain⟨b,hb⟩:=iN.now hJ hn hK (ex:=.normal) rfl hs;exact⟨b,fun N hN=>.label (hb N hN).2⟩
 |exit id=>
  obtain⟨b,hb⟩:=iN.now hJ hn hK (ex:=.exit id) rfl hs;exact⟨b,fun N hN=>.exit (hb N hN).2⟩
 |ret=>
  obtain⟨b,hb⟩:=iN.now hJ hn hK (ex:=.ret) rfl hs;exact⟨b,fun N hN=>.ret (hb N hN).2⟩
 |region id ops draw=>
  cases draw with
  |true=>
   simp only[m_,if_true]at hs;split at hs
   ·rename_i iW;exact aa2 (fn:=0) eT hC iW hs hJ hn hK cb iN.ks
   ·exact hs.elim
  |false=>
   simp only[m_,asD,if_false]at hs;obtain⟨b,hb⟩:=Si (CX:=CW) (rd:=rd) (df:=df) hC bn ops.toList [] V ν K R φ E σ (lR.nil _) hs hJ hn hK cb iN.ks iN.kp;exact⟨b,fun N hN=>.region (hb N hN)⟩
 |seq x y=>
  simp only[m_]at hs
  obtain⟨b,hb⟩:=bn d f x V _ ν K R φ E σ (fun N=>vt N (fun e1 ai=>cT P N rd y e1 df ai (CW N)) (CW N)) rd df hs hJ hn hK cb (by
   intro ex V' μ K' R' aH E' ah x0 hf hx aZ
   have other:∀vD,vD≠.normal→XR P (ν++μ) R' aH V'.l ah vD x0→(k vD V').sat P C Q K' (ν++μ)→∃b,∀N,b≤N→ah.n≤N∧vt N (fun e1 ai=>cT P N rd y e1 df ai (CW N)) (CW N) x0 (E' d) ah:=by
    intro vD bc hx hs;obtain⟨b,hb⟩:=iN vD V' μ K' R' aH E' ah x0 hf hx hs;exact⟨b,fun N hN=>⟨(hb N hN).1,(hb N hN).1,fun h=>absurd h (hx.norm bc),fun _=>(hb N hN).2⟩⟩
   cases ex with
   |normal=>
    obtain rfl:=hx
    obtain⟨b,hb⟩:=bn d f y V' k (ν++μ) K' R' aH E' ah CW rd df aZ hf.hJ hf.hn hf.fN (by rw[hf.Ir,cb,hf.cb]) (by
     rw[hf.cb];exact iN.fwd hf.hK hf.hE hf.Ir)
    exact⟨max b ah.n,fun N hN=>⟨by omega,by omega,fun _=>hb N (by omega),fun h=>absurd rfl h⟩⟩
   |exit i=>exact other (.exit i) (by simp) hx aZ
   |ret=>exact other .ret (by simp) hx aZ
   |bC t pv=>exact other (.bC t pv) (by simp) hx aZ)
  exact⟨b,fun N hN=>.seq (hb N hN)⟩
 |cond c x y=>
  simp only[m_]at hs;have hc:=aW hJ d 0 c;split at hs
  ·rename_i hh;rw[hh]at hc;obtain⟨u,h1,h2,_⟩:=hc;simp only[aj,SE.den,ar7]at h1;subst h1;obtain⟨b,hb⟩:=bn d f x V k ν K R φ E σ CW rd df hs hJ hn hK cb iN;exact⟨b,fun N hN=>.cond (bS h2) (by rw[if_pos rfl];exact hb N hN)⟩
  ·rename_i hh;rw[hh]at hc;obtain⟨u,h1,h2,_⟩:=hc;simp only[aj,SE.den,ar7]at h1;subst h1;obtain⟨b,hb⟩:=bn d f y V k ν K R φ E σ CW rd df hs hJ hn hK cb iN;exact⟨b,fun N hN=>.cond (bS h2) (by rw[if_neg (by simp)];exact hb N hN)⟩
  ·rename_i e _ _ hh;split at hs
   ·rename_i t;split at hs
    ·exact hs.elim
    ·have hg:=Sj (by simp) hh;rcases hs with⟨h1,hs⟩|⟨h1,hs⟩
     ·obtain⟨az,bk⟩:=J.refine hJ (.inl hg) h1;obtain⟨b,hb⟩:=bn d f x _ k ν K R φ E σ CW rd df hs bk hn hK cb iN;exact⟨b,fun N hN=>.cond (t:=true) az (by rw[if_pos rfl];exact hb N hN)⟩
     ·obtain⟨az,bk⟩:=J.refine hJ (.inl hg) h1;obtain⟨b,hb⟩:=bn d f y _ k ν K R φ E σ CW rd df hs bk hn hK cb iN;exact⟨b,fun N hN=>.cond (t:=false) az (by rw[if_neg (by simp)];exact hb N hN)⟩
   ·exact hs.elim
  ·rename_i e hh;split at hs
   ·rename_i t;split at hs
    ·exact hs.elim
    ·have hg:=Sj (by simp) hh;rcases hs with⟨h1,hs⟩|⟨h1,hs⟩
     ·obtain⟨az,bk⟩:=J.refine hJ (.inr ⟨_,hg⟩) h1;obtain⟨b,hb⟩:=bn d f x _ k ν K R φ E σ CW rd df hs bk hn hK cb iN;exact⟨b,fun N hN=>.cond (t:=true) az (by rw[if_pos rfl];exact hb N hN)⟩
     ·obtain⟨az,bk⟩:=J.refine hJ (.inr ⟨_,hg⟩) h1;obtain⟨b,hb⟩:=bn d f y _ k ν K R φ E σ CW rd df hs bk hn hK cb iN;exact⟨b,fun N hN=>.cond (t:=false) az (by rw[if_neg (by simp)];exact hb N hN)⟩
   ·exact hs.elim
  ·exact hs.elim
 |block id x=>
  simp only[m_]at hs
  obtain⟨b,hb⟩:=bn d f x V _ ν K R φ E σ (fun N ex e1 ai=>CW N (match ex with|.exit i=>if i=id then .normal else .exit i|ex=>ex) e1 ai) rd df hs hJ hn hK cb (by
   intro ex V' μ K' R' aH E' ah x0 hf hx aZ;cases ex with
   |normal=>obtain rfl:=hx;exact iN .normal V' μ K' R' aH E' ah _ hf rfl aZ
   |ret=>obtain rfl:=hx;exact iN .ret V' μ K' R' aH E' ah _ hf rfl aZ
   |bC t pv=>obtain⟨v,rfl,hv⟩:=hx;exact iN (.bC t pv) V' μ K' R' aH E' ah _ hf ⟨v,rfl,hv⟩ aZ
   |exit i=>
    obtain rfl:=hx;simp only at aZ;split at aZ
    ·rename_i hh;have:=asd hh;subst this;simpa using iN .normal V' μ K' R' aH E' ah _ hf rfl aZ
    ·rename_i hh;have bc:i≠id:=by rintro rfl;simp at hh
     simpa[bc]using iN (.exit i) V' μ K' R' aH E' ah _ hf rfl aZ)
  exact⟨b,fun N hN=>.block (hb N hN)⟩
 |scope x=>
  simp only[m_]at hs
  obtain⟨b,hb⟩:=bn d f x V k ν K R φ E σ (fun N ex e1 ai=>(∀l,ex≠.goto l)∧CW N ex e1 ai) rd df hs hJ hn hK cb (by
   intro ex V' μ K' R' aH E' ah x0 hf hx aZ;obtain⟨b,hb⟩:=iN ex V' μ K' R' aH E' ah x0 hf hx aZ;exact⟨b,fun N hN=>⟨(hb N hN).1,hx.goto,(hb N hN).2⟩⟩)
  exact⟨b,fun N hN=>.scope (hb N hN)⟩
 |loop x=>
  simp only[m_]at hs;split at hs
  ·rename_i nn _;obtain⟨b,hb⟩:=Lq (rd:=rd) (df:=df) bn nn V ν K R φ E σ hs hJ hn hK cb iN;exact⟨b,fun N hN=>.loop (hb N hN)⟩
  split at hs
  ·rename_i es dR hi
   obtain⟨Q',K0,hQ,hK,iN,bn,hs⟩:∃(Q':IV→Prop) (K0:List (List IV→Prop)),True∧K0.length=V.lv∧KW P C Q' d E K0 ν V.nt k CW∧oO P C Q' self∧(af.loop (dN es) _).sat P C Q' K0 ν:=by
    split at hs
    ·obtain⟨z,hz,hs⟩:=hs;exact⟨_,_,trivial,by simpa using hK,iN.uniq (fun z' h=>by rw[show z'=z from h];exact hz),XU _,hs⟩
    ·exact⟨Q,K,trivial,hK,iN,bn,hs⟩
   obtain⟨vs,h1,m,h2⟩:=hs;obtain⟨R2,dP,xH,_⟩:=OJ _ hJ;obtain⟨hlen,tV⟩:=JX (qi:=ν) dP (by rw[xH];exact hn) ⟨[],by simp⟩ hi (GP h1);obtain⟨b,hb⟩:=Lp (rd:=rd) (df:=df) (CW:=CW) (E:=E) (bad:=fun W=>.bad _ _ _ _ _ _ _ W.g W.l) hK bn (fun _ _ _ h=>h) (by exact congrArg Nat.succ hK) (by rfl) (hn.trans xH.symm) (by exact iN) m tV hlen (fun _ _=>rfl) rfl (by exact cb) h2;exact⟨b,fun N hN=>.loop (hb N hN)⟩
  ·exact hs.elim
 |_=>exact hs.elim
theorem OP(eT:P.follows .mixedOrders=true)(hC:iE P C):∀n Q,oO P C Q (exec P cfg n)
 |0,_=>fun _ _ _ _ _ _ _ _ _ _ _ _ _ _ hs _ _ _ _ _=>hs.elim
 |n+1,_=>Rb eT hC (OP eT hC n)
theorem uE(eT:P.follows .mixedOrders=true)(hC:iE P C)(n:Nat):oO P C Q (exec P cfg n):=OP eT hC n Q
end Go.Ev
namespace Go.Ev
variable{P:Program}{N:Nat}{σ ah:St}{R R':Rs}{φ aH:Ph}{E:Nat→Env}{ν:List IV}{ro:Nat}{ι:Io}{w:World}{cfg:aL}{self:mZ}
variable{C:Cr}{Q:IV→Prop}{K:List (List IV→Prop)}{V:SS}{d f0:Nat}{L:List (LO SE)}{Γ:Gm SE}{rd:Option Nat}{df:List Df}
theorem iQ.vr1{V V1:SS}{R1:Rs}(h:iQ P ν R φ V σ R1 V1){x:IV}{p:Bool×List (Cl SE)}(hx:sK (aj P ν) R φ V.l σ x p):sK (aj P ν) R1 φ V1.l σ x p:=by
 unfold sK at hx⊢;split
 ·rename_i hp;rw[if_pos hp]at hx;obtain⟨xs,h1,h2⟩:=hx;exact⟨xs,h1,h2.mono fun _ _ bR=>h.KO bR⟩
 ·rename_i hp;rw[if_neg hp]at hx;obtain⟨c,h1,h2⟩:=hx;exact⟨c,h1,h.KO h2⟩
theorem Sk:∀{vs:List (Bool×List (Cl SE))} {V V':SS} {R:Rs} {fr:Bool} {zs:List SE},J (aj P ν) R φ V.g V.l E σ→sO.NQ V vs=some (fr,zs,V')→
 ∃R',iQ P ν R φ V σ R' V'∧J (aj P ν) R' φ V'.g V'.l E σ∧∀xs,All2 (sK (aj P ν) R φ V.l σ) xs vs→∃ys,All2 (fun(z:SE) y=>z.den P ν=some y) zs ys∧All2 (aV fr R' σ) xs ys
 |[],V,V',R,fr,zs,h,hr=>by
  simp only[sO.NQ,ar7,asx]at hr;obtain⟨rfl,rfl,rfl⟩:=hr;refine⟨R,.refl h,h,fun xs hx=>?_⟩;cases xs with
  |nil=>exact⟨[],trivial,trivial⟩
  |cons=>exact hx.elim
 |(a,cs)::vs,V,V',R,fr,zs,h,hr=>by
  simp only[sO.NQ]at hr;split at hr
  ·rename_i f1 z1 V1 h1;split at hr
   ·rename_i f2 ys2 V2 h2;obtain⟨R1,a1,a2,_,a3⟩:=uy h h1;obtain⟨R2,b1,b2,b3⟩:=Sk a2 h2
    have key:∀z,(a=true→z=dN z1)→(a=false→z1=[z])→(f1||f2,z::ys2,V2)=(fr,zs,V')→∃R',iQ P ν R φ V σ R' V'∧J (aj P ν) R' φ V'.g V'.l E σ∧∀xs,All2 (sK (aj P ν) R φ V.l σ) xs ((a,cs)::vs)→∃ys,All2 (fun(z:SE) y=>z.den P ν=some y) zs ys∧All2 (aV fr R' σ) xs ys:=by
     intro z mG H_ he;simp only[asx]at he;obtain⟨rfl,rfl,rfl⟩:=he;refine⟨R2,a1.trans b1,b2,fun xs hx=>?_⟩;cases xs with
     |nil=>exact hx.elim
     |cons x xs=>
      obtain⟨ys,d1,d2⟩:=b3 xs (hx.2.mono fun _ _ bR=>a1.vr1 bR);have yC:=hx.1;unfold sK at yC;cases a with
      |true=>
       simp only[if_true]at yC;obtain⟨us,rfl,h5⟩:=yC;obtain⟨ws,e1,e2,_⟩:=a3 us h5;refine⟨.agg ws::ys,⟨by rw[mG rfl];exact ey e1,d1⟩,⟨?_,d2.mono fun _ _ bR=>bR.wide (fun h=>by simp[h])⟩⟩;exact .agg us ws e2.len fun i c e g1 g2=>((e2.get g1 g2).mono b1.2.2.2.grow).wide (fun h=>by simp[h])
      |false=>
       simp only[asD,if_false]at yC;obtain⟨c,hc,h5⟩:=yC;obtain⟨ws,e1,e2,_⟩:=a3 [x] (by rw[hc];exact⟨h5,trivial⟩);rw[H_ rfl]at e1;cases ws with
       |nil=>exact e1.elim
       |cons y ws=>
        exact⟨y::ys,⟨e1.1,d1⟩,⟨(e2.1.mono b1.2.2.2.grow).wide (fun h=>by simp[h]),d2.mono fun _ _ bR=>bR.wide (fun h=>by simp[h])⟩⟩
    cases a with
    |true=>
     simp only[ar7]at hr;exact key _ (fun _=>rfl) (fun h=>by cases h) hr
    |false=>
     split at hr<;>first|(cases hr;done)|skip
     ·exact absurd ‹false=true› (by simp)
     ·simp only[ar7]at hr;exact key _ (fun h=>by cases h) (fun _=>rfl) hr
   ·cases hr
  ·cases hr
theorem OQ{V':SS}{pv:PV SE}{fr:Bool}{z:SE}(h:J (aj P ν) R φ V.g V.l E σ)(hr:sO V pv=some (fr,z,V')){x:IV}(hx:VR (aj P ν) R φ V.l σ x pv):
 ∃R' y,z.den P ν=some y∧aV fr R' σ x y:=by
 cases pv with
 |one c=>
  obtain⟨R',_,_,h3⟩:=JU h hr (fun _ h=>by cases h);obtain⟨y,h4,h5⟩:=h3 x hx;exact⟨R',y,h4,h5⟩
 |ag cs=>
  obtain⟨R',_,_,h3⟩:=JU h hr (fun _ h=>by cases h);obtain⟨y,h4,h5⟩:=h3 x hx;exact⟨R',y,h4,h5⟩
 |tu vs=>
  simp only[sO]at hr;split at hr
  ·rename_i f zs V1 kN;simp only[ar7,asx]at hr;obtain⟨rfl,rfl,rfl⟩:=hr;obtain⟨R',_,_,h3⟩:=Sk h kN;obtain⟨xs,rfl,v_⟩:=hx;obtain⟨ys,a,b⟩:=h3 xs v_;exact⟨R',.av ys,by simp[SE.den,ey a],.av xs ys b.len fun i c e h1 h2=>b.get h1 h2⟩
  ·cases hr
theorem vE{args:List IV}{f:af}(hp:∀v∈args,Pure v):∀{ts:List TypeId} {j:Nat},(pc P j ts f).sat P C Q K args→j+ts.length=args.length→f.sat P C Q K args∧All2 (VR (aj P args) R φ L σ) (args.drop j) (dg P j ts)
 |[],j,hs,hl=>by
  simp at hl;rw[asA (by omega)];exact⟨hs,trivial⟩
 |t::ts,j,hs,hl=>by
  simp at hl;have hj:j<args.length:=by omega
  have hd:(SE.var j).den P args=some args[j]:=by simp[SE.den,hj]
  obtain⟨h1,h2,_⟩:=DX (R:=R) (φ:=φ) (L:=L) (σ:=σ) hd (hp _ (List.getElem_mem hj)) hs;obtain⟨h4,h5⟩:=vE hp h1 (by omega);refine⟨h4,?_⟩;rw[asq hj];exact⟨h2,h5⟩
theorem IB{x z:IV}{fr:Bool}(h:au z=true)(hc:aV fr R σ x z):aV false R σ x z:=by
 cases z<;>simp only[au]at h<;>first|(cases h;done)|skip
 rw[bS hc];exact .raw _
theorem dC.nz(eT:P.follows .mixedOrders=true)(hC:iE P C){n:Nat}{new:Bool}{f:FuncId}{cR:af}{args:List IV}{z:IV}(he:aA P cfg n new f=cR)(hl:(P.funcs[f]?).map (·.params.size)=some args.length)(hp:∀x∈args,Pure x)
 (hs:cR.sat P C (·=z) [] args):dC P false new f args z:=by
 subst he;unfold aA at hs;split at hs<;>first|(exact hs.elim)|skip
 rename_i fn bA;split at hs<;>first|(exact hs.elim)|skip
 rename_i c hb;split at hs<;>first|(exact hs.elim)|skip
 rename_i hle;have I9:fn.params.size≤fn.ntmps:=by simpa using hle
 rw[bA]at hl;simp only[asC,ar7]at hl;obtain⟨hs,aT⟩:=vE (R:=fun _=>none) (φ:=fun _=>none) (L:=[]) (σ:=⟨0,.lf⟩) hp hs (by simpa using hl);have hlen:args.length≤fn.ntmps:=by omega
 have hJ:J (aj P args) (fun _=>none) (fun _=>none) (setArgs 0 0 (dg P 0 fn.params.toList)) [] (fun _=>bY args fn.ntmps) ⟨0,.lf⟩:=by
  refine⟨fun d t pv hg=>?_,fun k ob h=>(by simp at h),fun k k' id h=>(by cases h),fun k id h=>(by cases h),fun id m h=>(by cases h),fun id m cs ar mn h=>(by cases h),T.WF.lf,fun id _=>rfl⟩;obtain⟨rfl,_,h3⟩:=fq (α:=IV) hg;rw[aut]at aT;have ht:t<args.length:=by rw[aT.len];have:=(ar5.1 h3).1;simpa using this
  show VR _ _ _ _ _ ((bY args fn.ntmps).at t) pv;rw[(cC hlen).2 ht,ar4 ht];exact aT.get (ar4 ht) (by simpa using h3)
 obtain⟨b,nA⟩:=uE eT hC n 0 f c ⟨setArgs 0 0 (dg P 0 fn.params.toList),[],fn.params.size,0,fn.ntmps⟩ _ args [] _ _ _ _
  (fun N ex e1 ai=>(ex=.normal∨ex=.ret)∧ai.n≤N∧∃v,bt P fn e1 ai=some v∧Can (!new) ai v z) none [] hs hJ hl.symm rfl (cC (t:=0) hlen).1 (by
   intro ex V' μ K' R' aH E' ah x0 hf gm aZ
   have main:∀jb,kT P 0 V' fn.results.toList=some jb→(match sO V' (DH jb)with|some (fr,z,_)=>af.ret (if new&&fr then .rw z else z)|none=>.fail 142).sat P C (·=z) K' (args++μ)→∃b,∀N,b≤N→ah.n≤N∧ah.n≤N∧∃v,bt P fn (E' 0) ah=some v∧Can (!new) ah v z:=by
    intro jb hr db;obtain⟨vs,h1,h2⟩:=lj hf.hJ hr;have hv:=JV h2;split at db<;>first|(exact db.elim)|skip
    rename_i fr e _ jk;obtain⟨R2,y,h3,h4⟩:=OQ hf.hJ jk hv;obtain⟨z',h5,rfl⟩:=db;refine⟨ah.n,fun N hN=>⟨hN,hN,D0 vs,jW h1,?_⟩⟩;cases new with
    |false=>
     simp only[Bool.false_and,asD,if_false]at h5;rw[h3]at h5;cases h5;exact h4.cu.can
    |true=>
     cases fr with
     |false=>
      simp only[Bool.and_false,asD,if_false]at h5;rw[h3]at h5;cases h5;exact h4.can
     |true=>
      simp only[Bool.and_self,if_true,SE.den,h3,asc]at h5;split at h5
      ·rename_i dI;cases h5;exact(IB dI h4).can
      ·cases h5
   cases ex with
   |exit i=>exact aZ.elim
   |bC t pv=>exact aZ.elim
   |normal=>
    obtain rfl:=gm;simp only at aZ;split at aZ
    ·rename_i jb hr;obtain⟨b,hb⟩:=main jb hr aZ;exact⟨b,fun N hN=>⟨(hb N hN).1,.inl rfl,(hb N hN).2⟩⟩
    ·exact aZ.elim
   |ret=>
    obtain rfl:=gm;simp only at aZ;split at aZ
    ·rename_i jb hr;obtain⟨b,hb⟩:=main jb hr aZ;exact⟨b,fun N hN=>⟨(hb N hN).1,.inr rfl,(hb N hN).2⟩⟩
    ·exact aZ.elim)
 exact dC.CI (dD.body (RW:=fun v ai=>Can (!new) ai v z) bA hb hlen (nA b (ar9 _))) fun v ah h=>h
end Go.Ev
namespace Go.Ev
section run
variable(P:Program)(cfg:aL)
def AR(n s:Nat)(f:FuncId):af:=
 match P.funcs[f]? with
 |some fn=>match fn.body,fn.params.toList with
  |some c,_::ts=>
   if as4 fn.params.size fn.ntmps then
    pc P 1 ts<|exec P cfg n 0 f c ⟨setArgs 0 0 (.one (.sr 0)::dg P 1 ts),[.row s false false true (.var 0)],fn.params.size,0,fn.ntmps⟩ fun ex V=>match ex with
     |.exit _=>.fail 141
     |.bC _ _=>.fail 146
     |_=>match kT P 0 V fn.results.toList with
      |some [.one (.sr k)]=>match V.l[k]? with
       |some (.row s' false false fr z)=>if ase s s' then .ret (if fr then .rws z else z)else .fail 146
       |_=>.fail 147
      |_=>.fail 148
   else .fail 143
  |_,_=>.fail 144
 |none=>.fail 145
end run
variable{P:Program}{N:Nat}{σ ah:St}{R R':Rs}{φ aH:Ph}{E:Nat→Env}{ν:List IV}{cfg:aL}{self:mZ}
variable{C:Cr}{Q:IV→Prop}{K:List (List IV→Prop)}{V:SS}{d f0:Nat}{L:List (LO SE)}{Γ:Gm SE}
theorem IC{xs args:List IV}{x z:IV}{f:af}(hp:All2 hZ args xs):∀{ts:List TypeId} {j:Nat},(pc P (j+1) ts f).sat P C Q K (z::xs)→j+ts.length=xs.length→f.sat P C Q K (z::xs)∧All2 (VR (aj P (z::xs)) R φ L σ) (args.drop j) (dg P (j+1) ts)
 |[],j,hs,hl=>by
  simp at hl;rw[asA (by have:=hp.len;omega)];exact⟨hs,trivial⟩
 |t::ts,j,hs,hl=>by
  simp at hl;have hj:j<xs.length:=by omega
  have kb:j<args.length:=by have:=hp.len;omega
  have hd:(SE.var (j+1)).den P (z::xs)=some xs[j]:=by simp[SE.den,hj]
  obtain⟨h1,h2⟩:=Cc (R:=R) (φ:=φ) (L:=L) (σ:=σ) hd (hp.get (ar4 kb) (ar4 hj)) hs;obtain⟨h4,h5⟩:=IC (x:=x) hp h1 (by omega);refine⟨h4,?_⟩;rw[asq kb];exact⟨h2,h5⟩
theorem BX.nz(eT:P.follows .mixedOrders=true)(hC:iE P C){n s:Nat}{f:FuncId}{cR:af}{es aB xs:List IV}(he:AR P cfg n s f=cR)(hl:(P.funcs[f]?).map (·.params.size)=some (xs.length+1))
 (hs:cR.sat P C (·=.tree s aB) [] (.tree s es::xs)):BX P s f es xs aB:=by
 subst he;unfold AR at hs;split at hs<;>first|(exact hs.elim)|skip
 rename_i fn bA;split at hs<;>first|(exact hs.elim)|skip
 rename_i c t0 ts hb tF;split at hs<;>first|(exact hs.elim)|skip
 rename_i hle;have I9:fn.params.size≤fn.ntmps:=by simpa using hle
 rw[bA]at hl;simp only[asC,ar7]at hl
 have aK:ts.length=xs.length:=by
  have:fn.params.toList.length=fn.params.size:=by simp
  rw[tF]at this;simp at this;omega
 intro R φ E σ x args l7 hX0 bg KW Oy;have FT:args.length=xs.length:=bg.len;obtain⟨bu,ik,k1,k2,k3⟩:=l7.obj 0 _ rfl;have Lg:some (IV.tree s es)=some (.tree s ik):=k1;cases Lg;obtain⟨c9,aT⟩:=IC (x:=x) (j:=0) (R:=R) (φ:=φ) (L:=[.row s false false true (.var 0)]) (σ:=σ) bg hs (by omega);rw[aut]at aT;have gS:(SE.var 0).den P (.tree s es::xs)=some (.tree s es):=by simp[SE.den]
 have hX:cw (aj P (.tree s es::xs)) R φ [.row s false false true (.var 0)] σ x (.sr 0):=by
  obtain⟨s1,rX,rG,rY,z1,eP,b1,b2,b3⟩:=hX0;have wq:some (LO.row s false false false ())=some (.row s1 rX rG rY z1):=b1;cases wq;have po:some (IV.tree s es)=some (.tree s eP):=b2;cases po;exact⟨s,false,false,true,.var 0,es,rfl,gS,b3⟩
 have zx:All2 (VR (aj P (.tree s es::xs)) R φ [.row s false false true (.var 0)] σ) (x::args) (.one (.sr 0)::dg P 1 ts):=⟨hX,aT⟩;have hlen:(x::args).length≤fn.ntmps:=by simp;omega
 have hJ:J (aj P (.tree s es::xs)) R φ (setArgs 0 0 (.one (.sr 0)::dg P 1 ts)) [.row s false false true (.var 0)] (fun _=>bY (x::args) fn.ntmps) σ:=by
  refine⟨fun d t pv hg=>?_,fun j ob hj=>?_,l7.inj,fun j id hj=>?_,l7.qb,l7.fits,l7.wf,l7.top⟩
  ·obtain⟨rfl,_,h3⟩:=fq (α:=IV) hg;have ht:t<(x::args).length:=by rw[zx.len];have:=(ar5.1 h3).1;simpa using this
   show VR _ _ _ _ _ ((bY (x::args) fn.ntmps).at t) pv;rw[(cC hlen).2 ht,ar4 ht];exact zx.get (ar4 ht) (by simpa using h3)
  ·cases j with
   |succ j=>simp at hj
   |zero=>
    simp at hj;subst hj;refine⟨bu,es,gS,k2,?_⟩;rcases k3 with⟨a,b⟩|⟨id,cs,ar,mn,a1,a2,a3,a4,a5,a6,a7⟩
    ·exact .inl ⟨a,b⟩
    ·exact .inr ⟨id,cs,ar,mn,a1,a2,a3,a4,a5,a6,fun q u v hu hv=>(a7 q u v hu hv).wide (fun h=>by cases h)⟩
  ·have:=l7.lt j id hj;simpa using this
 obtain⟨b,nA⟩:=uE eT hC n 0 f c ⟨setArgs 0 0 (.one (.sr 0)::dg P 1 ts),[.row s false false true (.var 0)],fn.params.size,0,fn.ntmps⟩ _ (.tree s es::xs) [] _ _ _ _
  (fun N ex e1 ai=>(ex=.normal∨ex=.ret)∧ai.n≤N∧∃v,bt P fn e1 ai=some v∧KW N v ai) none [] c9 hJ (by simp;omega) rfl (cC (t:=0) hlen).1 (by
   intro ex V' μ K' R' aH E' ah x0 hf gm aZ
   have main:(match kT P 0 V' fn.results.toList with
    |some [.one (.sr k)]=>match V'.l[k]? with
     |some (.row s' false false fr z)=>if ase s s' then af.ret (if fr then .rws z else z)else .fail 146
     |_=>.fail 147
    |_=>.fail 148).sat P C (·=IV.tree s aB) K' (IV.tree s es::xs++μ)→∃b,∀N,b≤N→ah.n≤N∧ah.n≤N∧∃v,bt P fn (E' 0) ah=some v∧KW N v ah:=by
    intro db;split at db<;>first|(exact db.elim)|skip
    rename_i k hr;obtain⟨vs,h1,h2⟩:=lj hf.hJ hr;split at db<;>first|(exact db.elim)|skip
    rename_i s' fr z hk;split at db<;>first|(exact db.elim)|skip
    rename_i gW;have uD:=asd gW;subst uD;obtain⟨z',h5,rfl⟩:=db;obtain⟨v,rfl,hv⟩:=kq h2;have eo:bt P fn (E' 0) ah=some v:=jW h1;obtain⟨m0,FY,m1,m2,m3⟩:=hf.hJ.obj k _ hk;have ID:z.den P (IV.tree s es::xs++μ)=some (.tree s FY):=m1
    have tK:FY=aB∧(fr=true→∀e∈FY,∀c∈cellsOf e,au c=true):=by
     cases fr with
     |false=>
      simp only[asD,if_false]at h5;rw[ID]at h5;cases h5;exact⟨rfl,fun h=>by cases h⟩
     |true=>
      simp only[if_true]at h5;obtain⟨s1,eP,c1,c2,c3⟩:=Fh h5;rw[ID]at c1;cases c1;cases c2;exact⟨rfl,fun _=>c3⟩
    obtain⟨rfl,dI⟩:=tK
    have aol:∀{u w:IV} {q:Nat},(flat FY)[q]?=some w→aV fr R' ah u w→aV false R' ah u w:=by
     intro u w q hw hc;cases fr with
     |false=>exact hc
     |true=>
      obtain⟨e,he,qB⟩:=List.mem_flatMap.1 (ash hw);exact IB (dI rfl e he w qB) hc
    obtain⟨b,hb⟩:=Oy R' (fun j=>if j=0 then aH k else none) ah v (by
     refine⟨fun d t pv hg=>(by cases hg),fun j ob hj=>?_,fun j j' id h1 h2=>?_,fun j id hj=>?_,hf.hJ.qb,hf.hJ.fits,hf.hJ.wf,hf.hJ.top⟩
     ·cases j with
      |succ j=>simp at hj
      |zero=>
       simp at hj;subst hj;refine⟨m0,FY,rfl,m2,?_⟩;rcases m3 with⟨a,b⟩|⟨id,cs,ar,mn,a1,a2,a3,a4,a5,a6,a7⟩
       ·exact .inl ⟨by simp[a],b⟩
       ·exact .inr ⟨id,cs,ar,mn,by simp[a1],a2,a3,a4,a5,a6,fun q u w hu hw=>aol hw (a7 q u w hu hw)⟩
     ·split at h1<;>first|(cases h1;done)|skip
      split at h2<;>first|(cases h2;done)|skip
      omega
     ·split at hj<;>first|(cases hj;done)|skip
      rename_i hj0;subst hj0;exact⟨by simp,(hf.hJ.lt k id hj).2⟩) (by
     obtain⟨s1,rX,rG,rY,z1,eP,b1,b2,b3⟩:=hv;rw[hk]at b1;cases b1;have po:z.den P (IV.tree s es::xs++μ)=some (.tree s eP):=b2;rw[ID]at po;cases po;refine⟨s,false,false,false,(),FY,rfl,rfl,?_⟩;rcases b3 with⟨c1,c2,c3⟩|⟨id,cs,ar,mn,cap,c1,c2,c3,c4,c5,c6⟩
     ·exact .inl ⟨by simp[c1],c2,c3⟩
     ·exact .inr ⟨id,cs,ar,mn,cap,by simp[c1],c2,c3,c4,c5,c6⟩)
    exact⟨max b ah.n,fun N hN=>⟨by omega,by omega,v,eo,hb N (by omega)⟩⟩
   cases ex with
   |exit i=>exact aZ.elim
   |bC t pv=>exact aZ.elim
   |normal=>
    obtain rfl:=gm;obtain⟨b,hb⟩:=main aZ;exact⟨b,fun N hN=>⟨(hb N hN).1,.inl rfl,(hb N hN).2⟩⟩
   |ret=>
    obtain rfl:=gm;obtain⟨b,hb⟩:=main aZ;exact⟨b,fun N hN=>⟨(hb N hN).1,.inr rfl,(hb N hN).2⟩⟩)
 exact⟨b,fun N hN=>dD.body (RW:=KW N) bA hb hlen (nA N hN)⟩
end Go.Ev
namespace Go.Ev
def J0:List Nat→Nat
 |[]=>0
 |n::ns=>n+J0 ns
def lF:Nat→List Nat→List (LO SE)
 |_,[]=>[]
 |j,n::ns=>.var ((List.range n).map fun q=>.v (.var (j+q)))::lF (j+n) ns
def jH:Nat→List Nat→List (PV SE)
 |_,[]=>[]
 |k,n::ns=>.one (.pt k 0 n)::jH (k+1) ns
def AS(V:SS):Nat→List Nat→Option (List SE)
 |_,[]=>some []
 |k,n::ns=>match V.l[k]?,cn 0 k V.g with
  |some (.var ds),some (.one (.pt k' 0 n'))=>if ase k' k&&ase n' n&&ase ds.length n then(match EK ds,AS V (k+1) ns with
    |some es,some r=>some (dN es::r)
    |_,_=>none)else none
  |_,_=>none
section run
variable(P:Program)(cfg:aL)
def xn(n:Nat)(ns:List Nat)(f:FuncId):af:=
 match P.funcs[f]? with
 |some fn=>match fn.body with
  |some c=>
   if as4 fn.params.size fn.ntmps&&as4 ns.length fn.params.size then
    pc P (J0 ns) (fn.params.toList.drop ns.length)<|exec P cfg n 1 f c
     ⟨setArgs 1 0 (jH 0 ns++dg P (J0 ns) (fn.params.toList.drop ns.length))++setArgs 0 0 (jH 0 ns),lF 0 ns,J0 ns+(fn.params.size- ns.length),0,fn.ntmps⟩ fun ex V=>match ex with
     |.exit _=>.fail 151
     |.bC _ _=>.fail 146
     |_=>match kT P 1 V fn.results.toList with
      |some cP=>match sO V (DH cP),AS V 0 ns with
       |some (_,z,_),some os=>.ret (.tp (.ac (.rw z) (dN os)))
       |_,_=>.fail 152
      |none=>.fail 153
   else .fail 154
  |none=>.fail 155
 |none=>.fail 156
end run
variable{P:Program}{N:Nat}{σ ah:St}{R R':Rs}{φ aH:Ph}{E:Nat→Env}{ν:List IV}{cfg:aL}
variable{C:Cr}{Q:IV→Prop}{K:List (List IV→Prop)}{V:SS}{L:List (LO SE)}
theorem Lr:∀{ns:List Nat} {k:Nat} {os:List SE},AS V k ns=some os→os.length=ns.length∧∀(i n:Nat),ns[i]?=some n→
 ∃es:List SE,V.l[k+i]?=some (.var (es.map .v))∧cn 0 (k+i) V.g=some (.one (.pt (k+i) 0 n))∧es.length=n∧os[i]?=some (dN es)
 |[],k,os,h=>by
  simp only[AS,ar7]at h;subst h;exact⟨rfl,fun i n hi=>by simp at hi⟩
 |m::ns,k,os,h=>by
  simp only[AS]at h;split at h<;>first|(cases h;done)|skip
  rename_i ds k' n' hk hg;split at h<;>first|(cases h;done)|skip
  rename_i hc;simp only[ar6]at hc;have e1:=asd hc.1.1;have e2:=asd hc.1.2;have e3:=asd hc.2;subst e1 e2;split at h<;>first|(cases h;done)|skip
  rename_i es r gh hr;simp only[ar7]at h;subst h;have Ij:=GK gh;subst Ij;obtain⟨h1,h2⟩:=Lr hr;refine⟨by simp[h1],fun i n hi=>?_⟩;cases i with
  |zero=>
   simp at hi;subst hi;exact⟨es,hk,hg,by simpa using e3,rfl⟩
  |succ i=>
   obtain⟨aB,a1,a2,a3,a4⟩:=h2 i n (by simpa using hi);have:k'+1+i=k'+(i+1):=by omega
   rw[this]at a1 a2;exact⟨aB,a1,a2,a3,by simpa using a4⟩
theorem IE:∀{ns:List Nat} {k i:Nat} {pv:PV SE},(jH k ns)[i]?=some pv→∃n,ns[i]?=some n∧pv=.one (.pt (k+i) 0 n)
 |[],k,i,pv,h=>by simp[jH]at h
 |n::ns,k,0,pv,h=>by
  simp[jH]at h;exact⟨n,rfl,by simp[h]⟩
 |n::ns,k,i+1,pv,h=>by
  simp only[jH,auu]at h;obtain⟨m,h1,h2⟩:=IE h;exact⟨m,by simpa using h1,by rw[h2];congr 2;omega⟩
theorem Ce:∀{ns:List Nat} {k:Nat},(jH k ns).length=ns.length
 |[],_=>rfl
 |_::ns,k=>by simp[jH,Ce (ns:=ns)]
theorem OS:∀ins:List (List IV),J0 (ins.map asJ)=ins.flatten.length
 |[]=>rfl
 |c::ins=>by simp[J0,OS ins]
theorem IF:∀{ins:List (List IV)} {pre post:List IV} {i:Nat} {o:LO SE},(lF pre.length (ins.map asJ))[i]?=some o→
 ∃(cs:List IV) (ds:List (Cl SE)),ins[i]?=some cs∧o=.var ds∧xm (aj P (pre++ins.flatten++post)) ds cs
 |[],pre,post,i,o,h=>by simp[lF]at h
 |c::ins,pre,post,0,o,h=>by
  simp only[asY,lF,atF,ar7]at h;refine⟨c,_,rfl,h.symm,.mk (by simp) fun q d u hd hu=>?_⟩;have hq:=(ar5.1 hu).1;rw[asi,List.getElem?_range hq]at hd;simp only[asC,ar7]at hd;subst hd;refine⟨_,rfl,?_⟩;show(SE.var _).den P _=_;simp only[SE.den];rw[asv,asw (by omega),List.flatten_cons,asv,asf (by omega)];rw[show pre.length+q- pre.length=q by omega];exact hu
 |c::ins,pre,post,i+1,o,h=>by
  simp only[asY,lF,auu]at h;have hl:pre.length+c.length=(pre++c).length:=by simp
  rw[hl]at h;obtain⟨cs,ds,h1,h2,h3⟩:=IF (pre:=pre++c) (post:=post) h;refine⟨cs,ds,by simpa using h1,h2,?_⟩;have:pre++c++ins.flatten++post=pre++(c::ins).flatten++post:=by simp
  rw[←this];exact h3
theorem GQ{α:Type}{d t:Nat}{pv:PV α}:∀{a b:List (Nat×Nat×PV α)},cn d t (a++b)=some pv→cn d t a=some pv∨cn d t b=some pv
 |[],b,h=>.inr h
 |(d',t',p)::a,b,h=>by
  simp only[List.cons_append,cn]at h⊢;split at h
  ·rename_i hc;rw[if_pos hc];exact .inl h
  ·rename_i hc;rw[if_neg hc];exact GQ h
theorem Cf{xs args pre:List IV}{f:af}(hp:All2 hZ args xs):∀{ts:List TypeId} {j:Nat},(pc P (pre.length+j) ts f).sat P C Q K (pre++xs)→j+ts.length=xs.length→f.sat P C Q K (pre++xs)∧All2 (VR (aj P (pre++xs)) R φ L σ) (args.drop j) (dg P (pre.length+j) ts)
 |[],j,hs,hl=>by
  simp at hl;rw[asA (by have:=hp.len;omega)];exact⟨hs,trivial⟩
 |t::ts,j,hs,hl=>by
  simp at hl;have hj:j<xs.length:=by omega
  have kb:j<args.length:=by have:=hp.len;omega
  have hd:(SE.var (pre.length+j)).den P (pre++xs)=some xs[j]:=by simp[SE.den,hj]
  obtain⟨h1,h2⟩:=Cc (R:=R) (φ:=φ) (L:=L) (σ:=σ) hd (hp.get (ar4 kb) (ar4 hj)) hs;obtain⟨h4,h5⟩:=Cf (j:=j+1) hp h1 (by omega);refine⟨h4,?_⟩;rw[asq kb];exact⟨h2,h5⟩
end Go.Ev
namespace Go.Ev
variable{P:Program}{N:Nat}{σ ah:St}{R R':Rs}{φ aH:Ph}{E:Nat→Env}{ν:List IV}{cfg:aL}
variable{C:Cr}{Q:IV→Prop}{K:List (List IV→Prop)}{V:SS}{L:List (LO SE)}
theorem wW:∀{ns:List Nat} {j:Nat},(lF j ns).length=ns.length
 |[],_=>rfl
 |_::ns,j=>by simp[lF,wW (ns:=ns)]
theorem Rc{x z:IV}{fr:Bool}(h:au z=true)(hc:aV fr R σ x z):hZ x z:=by
 cases z<;>simp only[au]at h<;>first|(cases h;done)|skip
 rw[bS hc];exact .raw _
theorem OT{ins:List (List IV)}{ps:List IV}{ev:SE→Option IV}(hP:DV φ ins ps)(hL:∀(i:Nat) (cs:List IV),ins[i]?=some cs→∃ds:List (Cl SE),L[i]?=some (LO.var ds)):
 All2 (VR ev R φ L σ) ps (jH 0 (ins.map asJ)):=by
 refine .mk (by rw[Ce,atC,hP.1]) fun i p pv hp qe=>?_;obtain⟨n,h1,rfl⟩:=IE qe;rw[asi]at h1;obtain⟨cs,bD,rfl⟩:=ar_.1 h1;obtain⟨id,h2,rfl⟩:=hP.2 i cs p bD hp;obtain⟨ds,Ij⟩:=hL i cs bD;rw[atx];exact⟨id,ds,h2,Ij,rfl⟩
theorem BZ.nz(eT:P.follows .mixedOrders=true)(hC:iE P C){n:Nat}{f:FuncId}{cR:af}{ins outs:List (List IV)}{xs:List IV}{z:IV}(he:xn P cfg n (ins.map asJ) f=cR)
 (hl:(P.funcs[f]?).map (·.params.size)=some (ins.length+xs.length))(hs:cR.sat P C (·=.av (z::outs.map .agg)) [] (ins.flatten++xs)):BZ P f ins xs outs z:=by
 subst he;unfold xn at hs;split at hs<;>first|(exact hs.elim)|skip
 rename_i fn bA;split at hs<;>first|(exact hs.elim)|skip
 rename_i c hb;split at hs<;>first|(exact hs.elim)|skip
 rename_i hle;simp only[ar6]at hle;have NJ:fn.params.size≤fn.ntmps:=by simpa using hle.1
 rw[bA]at hl;simp only[asC,ar7]at hl;have Hu:(ins.map asJ).length=ins.length:=by simp
 have aom:=OS ins;intro R φ E σ ps args l7 hP bg KW Oy;have FT:args.length=xs.length:=bg.len;have htl:(fn.params.toList.drop (ins.map asJ).length).length=xs.length:=by simp;omega
 have iW:ps.length=ins.length:=hP.1;rw[aom]at hs
 have hLV:∀(i:Nat) (cs:List IV),ins[i]?=some cs→∃ds:List (Cl SE),(lF 0 (ins.map asJ))[i]?=some (LO.var ds)∧xm (aj P (ins.flatten++xs)) ds cs:=fun i cs hi=>by
  have aa:=(ar5.1 hi).1;have fR:i<(lF 0 (ins.map asJ)).length:=by rw[wW];simpa using aa
  have hg:=ar4 fR;obtain⟨cm,ds,h1,h2,h3⟩:=IF (P:=P) (pre:=[]) (post:=xs) hg;rw[hi]at h1;cases h1;exact⟨ds,by rw[hg,h2],by simpa using h3⟩
 obtain⟨c9,aT⟩:=Cf (j:=0) (pre:=ins.flatten) (R:=R) (φ:=φ) (L:=lF 0 (ins.map asJ)) (σ:=σ) bg (by rw[awr];exact hs) (by rw[atx];exact htl);rw[aut,awr]at aT
 have zx:All2 (VR (aj P (ins.flatten++xs)) R φ (lF 0 (ins.map asJ)) σ) (ps++args) (jH 0 (ins.map asJ)++dg P ins.flatten.length (fn.params.toList.drop (ins.map asJ).length)):=
  All2.app (OT hP fun i cs hi=>by obtain⟨ds,h1,_⟩:=hLV i cs hi;exact⟨ds,h1⟩) aT
 have hlen:(ps++args).length≤fn.ntmps:=by simp;omega
 let E1:Nat→Env:=fun j=>if j=0 then bY ps ps.length else bY (ps++args) fn.ntmps
 have hJ:J (aj P (ins.flatten++xs)) R φ (setArgs 1 0 (jH 0 (ins.map asJ)++dg P ins.flatten.length (fn.params.toList.drop (ins.map asJ).length))++setArgs 0 0 (jH 0 (ins.map asJ))) (lF 0 (ins.map asJ)) E1 σ:=by
  refine⟨fun d t pv hg=>?_,fun j ob hj=>?_,l7.inj,fun j id hj=>?_,l7.qb,l7.fits,l7.wf,l7.top⟩
  ·rcases GQ hg with hg|hg
   ·obtain⟨rfl,_,h3⟩:=fq (α:=IV) hg;have ht:t<(ps++args).length:=by rw[zx.len];have:=(ar5.1 h3).1;simpa using this
    show VR _ _ _ _ _ ((bY (ps++args) fn.ntmps).at t) pv;rw[(cC hlen).2 ht,ar4 ht];exact zx.get (ar4 ht) (by simpa using h3)
   ·obtain⟨rfl,_,h3⟩:=fq (α:=IV) hg;have N9:(jH 0 (ins.map asJ))[t]?=some pv:=by simpa using h3
    have ht:t<ps.length:=by have:=(ar5.1 N9).1;rw[Ce]at this;simp at this;omega
    show VR _ _ _ _ _ ((bY ps ps.length).at t) pv;rw[(cC (ar9 _)).2 ht,ar4 ht];exact(OT hP fun i cs hi=>by obtain⟨ds,h1,_⟩:=hLV i cs hi;exact⟨ds,h1⟩).get (ar4 ht) N9
  ·have aa:j<ins.length:=by have:=(ar5.1 hj).1;rw[wW]at this;simpa using this
   have bD:=ar4 aa;obtain⟨ds,h1,h2⟩:=hLV j _ bD;rw[hj]at h1;cases h1;have dr:(Ve ins)[j]?=some (.var (ins[j].map .v)):=by rw[asi,bD];rfl
   obtain⟨id,cx,o1,o2,o3,o4⟩:=l7.obj j _ dr;refine⟨id,cx,o1,o2,o3,.mk (by rw[o4.len,atC,h2.len]) fun q x d hx hd=>?_⟩;have hq:q<ins[j].length:=by rw[←h2.len];exact(ar5.1 hd).1
   obtain⟨e,rfl,he⟩:=h2.get hd (ar4 hq);have XG:(ins[j].map Cl.v)[q]?=some (.v ins[j][q]):=by rw[asi,ar4 hq];rfl
   obtain⟨y,y1,y2,y3⟩:=o4.get hx XG;cases y1;exact⟨_,he,y2,y3⟩
  ·have:=l7.lt j id hj;exact⟨by rw[wW];simpa using this.1,this.2⟩
 obtain⟨b,nA⟩:=uE eT hC n 1 f c ⟨setArgs 1 0 (jH 0 (ins.map asJ)++dg P ins.flatten.length (fn.params.toList.drop (ins.map asJ).length))++setArgs 0 0 (jH 0 (ins.map asJ)),lF 0 (ins.map asJ),ins.flatten.length+(fn.params.size-(ins.map asJ).length),0,fn.ntmps⟩ _ (ins.flatten++xs) [] R φ E1 σ
  (fun N ex e1 ai=>(ex=.normal∨ex=.ret)∧ai.n≤N∧∃v,bt P fn e1 ai=some v∧KW N v ai) none [] c9 hJ (by simp;omega) rfl (cC (t:=0) hlen).1 (by
   intro ex V' μ K' R' aH E' ah x0 hf gm aZ
   have main:∀jb,kT P 1 V' fn.results.toList=some jb→(match sO V' (DH jb),AS V' 0 (ins.map asJ)with
    |some (_,z,_),some os=>af.ret (.tp (.ac (.rw z) (dN os)))
    |_,_=>.fail 152).sat P C (·=IV.av (z::outs.map IV.agg)) K' (ins.flatten++xs++μ)→∃b,∀N,b≤N→ah.n≤N∧ah.n≤N∧∃v,bt P fn (E' 1) ah=some v∧KW N v ah:=by
    intro jb hr db;obtain⟨vs,h1,h2⟩:=lj hf.hJ hr;have hv:=JV h2;split at db<;>first|(exact db.elim)|skip
    rename_i fr e _ os jk vl;obtain⟨R2,y,h3,h4⟩:=OQ hf.hJ jk hv;obtain⟨w,h5,rfl⟩:=db;simp only[SE.den,h3,asc]at h5;obtain⟨cs,h6,h7⟩:=ass.1 h5;obtain⟨y',h8,h6⟩:=ass.1 h6;obtain⟨os',h9,h6⟩:=ass.1 h6;obtain⟨ys,rfl,qg⟩:=JZ h9;split at h8<;>first|(cases h8;done)|skip
    rename_i dI;cases h8;cases h6;simp only[ar7,IV.av.injEq,as5]at h7;obtain⟨rfl,rfl⟩:=h7;obtain⟨K6,ho2⟩:=Lr vl;have yH:outs.length=ins.length:=by have:=qg.len;rw[K6]at this;simp at this;omega
    have ab_:∀(i:Nat) (cs:List IV),outs[i]?=some cs→∃es:List SE,V'.l[i]?=some (.var (es.map .v))∧All2 (fun(z:SE) y=>z.den P (ins.flatten++xs++μ)=some y) es cs∧∃id,aH i=some id∧ps[i]?=some (.ptr id 0 0 cs.length):=fun i cs hi=>by
     have aa:=(ar5.1 hi).1;have fR:i<ins.length:=by omega
     obtain⟨es,a1,a2,a3,a4⟩:=ho2 i _ (by rw[asi,ar4 fR];rfl);rw[atx]at a1 a2;have hiy:(outs.map IV.agg)[i]?=some (.agg cs):=by rw[asi,hi];rfl
     have hd:=qg.get a4 hiy;obtain⟨us,xE,afO⟩:=JZ hd;cases xE;have oE:=hf.hJ.slot 0 i _ a2;obtain⟨id,ds,s1,s2,s3⟩:=oE;rw[hf.hE 0 (by omega)]at s3;have hlp:i<ps.length:=by omega
     have:(E1 0).at i=ps[i]:=by
      show(bY ps ps.length).at i=_;rw[(cC (ar9 _)).2 hlp,ar4 hlp];rfl
     rw[this]at s3;refine⟨es,a1,afO,id,s1,?_⟩;rw[ar4 hlp,s3,←afO.len,a3]
    obtain⟨b,hb⟩:=Oy (fun _=>none) (fun j=>if j<outs.length then aH j else none) ah (D0 vs) (by
     refine⟨fun d t pv hg=>(by cases hg),fun j ob hj=>?_,fun j j' id h1 h2=>?_,fun j id hj=>?_,fun id m hm=>(by cases hm),fun id m cs ar mn hm=>(by cases hm),hf.hJ.wf,hf.hJ.top⟩
     ·rw[asi]at hj;obtain⟨cs,bD,rfl⟩:=ar_.1 hj;have aa:=(ar5.1 bD).1;obtain⟨es,a1,a2,id,a3,_⟩:=ab_ j cs bD;obtain⟨bp,cx,o1,o2,o3,o4⟩:=hf.hJ.obj j _ a1;refine⟨bp,cx,by simp[aa,o1],rfl,o3,.mk (by rw[o4.len,atC,atC,a2.len]) fun q x c hx hc=>?_⟩;rw[asi]at hc;obtain⟨u,hu,rfl⟩:=ar_.1 hc;have hq:q<es.length:=by rw[a2.len];exact(ar5.1 hu).1
      have XG:(es.map Cl.v)[q]?=some (.v es[q]):=by rw[asi,ar4 hq];rfl
      obtain⟨y,y1,y2,y3⟩:=o4.get hx XG;have K8:es[q].den P (ins.flatten++xs++μ)=some y:=y1;rw[a2.get (ar4 hq) hu]at K8;cases K8;exact⟨u,rfl,y2,y3⟩
     ·split at h1<;>first|(cases h1;done)|skip
      split at h2<;>first|(cases h2;done)|skip
      exact hf.hJ.inj j j' id h1 h2
     ·split at hj<;>first|(cases hj;done)|skip
      rename_i aa
      exact⟨by simpa using aa,(hf.hJ.lt j id hj).2⟩) ⟨by omega,fun i cs p hi hp=>by
       have aa:=(ar5.1 hi).1;obtain⟨_,_,_,id,a3,a4⟩:=ab_ i cs hi;rw[hp]at a4;cases a4;exact⟨id,by simp[aa,a3],rfl⟩⟩ (Rc dI h4)
    exact⟨max b ah.n,fun N hN=>⟨by omega,by omega,D0 vs,jW h1,hb N (by omega)⟩⟩
   cases ex with
   |exit i=>exact aZ.elim
   |bC t pv=>exact aZ.elim
   |normal=>
    obtain rfl:=gm;simp only at aZ;split at aZ
    ·rename_i jb hr;obtain⟨b,hb⟩:=main jb hr aZ;exact⟨b,fun N hN=>⟨(hb N hN).1,.inl rfl,(hb N hN).2⟩⟩
    ·exact aZ.elim
   |ret=>
    obtain rfl:=gm;simp only at aZ;split at aZ
    ·rename_i jb hr;obtain⟨b,hb⟩:=main jb hr aZ;exact⟨b,fun N hN=>⟨(hb N hN).1,.inr rfl,(hb N hN).2⟩⟩
    ·exact aZ.elim)
 exact⟨b,fun N hN=>(dD.body (RW:=KW N) bA hb hlen (nA N hN))⟩
end Go.Ev
namespace Go.Ev
section run
variable(P:Program)(cfg:aL)
def pq(n:Nat)(nm:Bool)(f:FuncId):af:=
 match P.funcs[f]? with
 |some fn=>match fn.body with
  |some c=>
   if as4 fn.params.size fn.ntmps&&Nat.blt 0 (cA P f)then
    pc P 0 fn.params.toList<|exec P cfg n 0 f c ⟨setArgs 0 0 (dg P 0 fn.params.toList),[],fn.params.size,0,fn.ntmps⟩ fun ex V=>match ex with
     |.exit _=>.fail 141
     |.bC _ _=>.fail 146
     |_=>match kT P 0 V fn.results.toList with
      |some [.one (.sr k)]=>match V.l[k]? with
       |some (.row s' false false _ z)=>if !nm&&ase (cA P f) s' then .ret (.rws z)else .fail 146
       |_=>.fail 147
      |some [.one (.nl true s')]=>if ase (cA P f) s' then .ret (.tr s' .an)else .fail 146
      |_=>.fail 148
   else .fail 143
  |none=>.fail 144
 |none=>.fail 145
end run
variable{P:Program}{N:Nat}{σ ah:St}{R R':Rs}{φ aH:Ph}{E:Nat→Env}{ν:List IV}{cfg:aL}{self:mZ}
variable{C:Cr}{Q:IV→Prop}{K:List (List IV→Prop)}{V:SS}{d f0:Nat}{L:List (LO SE)}{Γ:Gm SE}
theorem jt.nz(eT:P.follows .mixedOrders=true)(hC:iE P C){n:Nat}{nm:Bool}{f:FuncId}{cR:af}{args es:List IV}(he:pq P cfg n nm f=cR)(hl:(P.funcs[f]?).map (·.params.size)=some args.length)(hp:∀x∈args,Pure x)
 (bD:∀e∈es,(cellsOf e).length=cA P f)(bf:∀c∈flat es,(∃v,c=.raw v)∧ab c=true)(bc:nm=false→es≠[])
 (hs:cR.sat P C (·=.tree (cA P f) es) [] args):jt P (cA P f) f args es:=by
 subst he;unfold pq at hs;split at hs<;>first|(exact hs.elim)|skip
 rename_i fn bA;split at hs<;>first|(exact hs.elim)|skip
 rename_i c hb;split at hs<;>first|(exact hs.elim)|skip
 rename_i hle;simp only[ar6]at hle;have I9:fn.params.size≤fn.ntmps:=by simpa using hle.1
 have bu:0<cA P f:=by simpa using hle.2
 rw[bA]at hl;simp only[asC,ar7]at hl;obtain⟨hs,aT⟩:=vE (R:=fun _=>none) (φ:=fun _=>none) (L:=[]) (σ:=⟨0,.lf⟩) hp hs (by simpa using hl);have hlen:args.length≤fn.ntmps:=by omega
 have hJ:J (aj P args) (fun _=>none) (fun _=>none) (setArgs 0 0 (dg P 0 fn.params.toList)) [] (fun _=>bY args fn.ntmps) ⟨0,.lf⟩:=by
  refine⟨fun d t pv hg=>?_,fun k ob h=>(by simp at h),fun k k' id h=>(by cases h),fun k id h=>(by cases h),fun id m h=>(by cases h),fun id m cs ar mn h=>(by cases h),T.WF.lf,fun id _=>rfl⟩;obtain⟨rfl,_,h3⟩:=fq (α:=IV) hg;rw[aut]at aT;have ht:t<args.length:=by rw[aT.len];have:=(ar5.1 h3).1;simpa using this
  show VR _ _ _ _ _ ((bY args fn.ntmps).at t) pv;rw[(cC hlen).2 ht,ar4 ht];exact aT.get (ar4 ht) (by simpa using h3)
 obtain⟨b,nA⟩:=uE eT hC n 0 f c ⟨setArgs 0 0 (dg P 0 fn.params.toList),[],fn.params.size,0,fn.ntmps⟩ _ args [] _ _ _ _
  (fun N ex e1 ai=>(ex=.normal∨ex=.ret)∧ai.n≤N∧∃v,bt P fn e1 ai=some v∧GO (cA P f) es v ai) none [] hs hJ hl.symm rfl (cC (t:=0) hlen).1 (by
   intro ex V' μ K' R' aH E' ah x0 hf gm aZ
   have main:(match kT P 0 V' fn.results.toList with
    |some [.one (.sr k)]=>match V'.l[k]? with
     |some (.row s' false false _ z)=>if !nm&&ase (cA P f) s' then af.ret (.rws z)else .fail 146
     |_=>.fail 147
    |some [.one (.nl true s')]=>if ase (cA P f) s' then .ret (.tr s' .an)else .fail 146
    |_=>.fail 148).sat P C (·=IV.tree (cA P f) es) K' (args++μ)→∃b,∀N,b≤N→ah.n≤N∧ah.n≤N∧∃v,bt P fn (E' 0) ah=some v∧GO (cA P f) es v ah:=by
    intro db;split at db<;>first|(exact db.elim)|skip
    ·rename_i k hr;obtain⟨vs,h1,h2⟩:=lj hf.hJ hr;split at db<;>first|(exact db.elim)|skip
     rename_i s' fr z hk;split at db<;>first|(exact db.elim)|skip
     rename_i gW;simp only[ar6,asN]at gW;obtain⟨mN,gW⟩:=gW;have uD:=asd gW;subst uD;obtain⟨z',h5,rfl⟩:=db;obtain⟨v,rfl,hv⟩:=kq h2;have eo:bt P fn (E' 0) ah=some v:=jW h1;obtain⟨s1,eP,c1,c2,c3⟩:=Fh h5;cases c2;obtain⟨m0,FY,m1,m2,m3⟩:=hf.hJ.obj k _ hk;have ID:z.den P (args++μ)=some (.tree (cA P f) FY):=m1;rw[c1]at ID;cases ID;refine⟨ah.n,fun N hN=>⟨hN,hN,v,eo,.inr ⟨bc mN,?_⟩⟩⟩;obtain⟨s2,rX,rG,rY,z1,gF,b1,b2,b3⟩:=hv;rw[hk]at b1;cases b1;have po:z.den P (args++μ)=some (.tree (cA P f) gF):=b2;rw[c1]at po;cases po;rcases b3 with⟨_,b4,_⟩|⟨id,cs,ar,mn,cap,d1,d2,d3,d4,d5,d6⟩
     ·exact absurd (List.eq_nil_of_length_eq_zero b4) (bc mN)
     ·rcases m3 with⟨e1,_⟩|⟨bp,cm,g_,o7,e1,e2,e3,e4,e5,e6,e7⟩
      ·rw[d1]at e1;cases e1
      ·rw[d1]at e1;cases e1;rw[d2]at e2;cases e2;refine⟨id,cs,ar,mn,cap,d2,e3,by simpa using d3,e4,fun q x hx=>?_⟩
       have hq:q<cs.length:=by
        have:=(ar5.1 hx).1;rw[r7 bD]at this;omega
       obtain⟨u,rfl⟩:=(bf x (ash hx)).1;have:=e7 q _ _ (ar4 hq) hx;exact⟨u,rfl,by rw[ar4 hq,bS this]⟩
    ·rename_i s' hr;obtain⟨vs,h1,h2⟩:=lj hf.hJ hr;split at db<;>first|(exact db.elim)|skip
     rename_i gW;have uD:=asd gW;obtain⟨z',h5,rfl⟩:=db;obtain⟨v,rfl,hv⟩:=kq h2;have eo:bt P fn (E' 0) ah=some v:=jW h1;obtain⟨_,rfl⟩:=hv;simp only[SE.den,asc]at h5;split at h5<;>cases h5;exact⟨ah.n,fun N hN=>⟨hN,hN,_,eo,.inl ⟨rfl,rfl⟩⟩⟩
   cases ex with
   |exit i=>exact aZ.elim
   |bC t pv=>exact aZ.elim
   |normal=>
    obtain rfl:=gm;obtain⟨b,hb⟩:=main aZ;exact⟨b,fun N hN=>⟨(hb N hN).1,.inl rfl,(hb N hN).2⟩⟩
   |ret=>
    obtain rfl:=gm;obtain⟨b,hb⟩:=main aZ;exact⟨b,fun N hN=>⟨(hb N hN).1,.inr rfl,(hb N hN).2⟩⟩)
 exact jt.CI bu bD bf (dD.body (RW:=fun v ai=>GO (cA P f) es v ai) bA hb hlen (nA b (ar9 _))) fun v ah h=>h
end Go.Ev
namespace Go.Ev
section run
variable(P:Program)(cfg:aL)
def Cg(n:Nat)(f:FuncId):af:=
 match P.funcs[f]? with
 |some fn=>match fn.body with
  |some c=>
   if as4 fn.params.size fn.ntmps then
    pc P 0 fn.params.toList<|exec P cfg n 0 f c ⟨setArgs 0 0 (dg P 0 fn.params.toList),[],fn.params.size,0,fn.ntmps⟩ fun ex V=>match ex with
     |.exit _=>.fail 141
     |.bC _ _=>.fail 146
     |_=>match kT P 0 V fn.results.toList with
      |some [.one (.mp k)]=>match V.l[k]? with
       |some (.mp kt z)=>if gk kt then .fail 146 else .ret z
       |_=>.fail 147
      |_=>.fail 148
   else .fail 143
  |none=>.fail 144
 |none=>.fail 145
end run
variable{P:Program}{N:Nat}{σ ah:St}{R R':Rs}{φ aH:Ph}{E:Nat→Env}{ν:List IV}{cfg:aL}{self:mZ}
variable{C:Cr}{Q:IV→Prop}{K:List (List IV→Prop)}{V:SS}{d f0:Nat}{L:List (LO SE)}{Γ:Gm SE}
theorem lE.nz(eT:P.follows .mixedOrders=true)(hC:iE P C){n:Nat}{f:FuncId}{cR:af}{args ds:List IV}(he:Cg P cfg n f=cR)(hl:(P.funcs[f]?).map (·.params.size)=some args.length)(hp:∀x∈args,Pure x)
 (dI:r8 ds)(hs:cR.sat P C (·=.av ds) [] args):lE P f args ds:=by
 subst he;unfold Cg at hs;split at hs<;>first|(exact hs.elim)|skip
 rename_i fn bA;split at hs<;>first|(exact hs.elim)|skip
 rename_i c hb;split at hs<;>first|(exact hs.elim)|skip
 rename_i hle;have I9:fn.params.size≤fn.ntmps:=by simpa using hle
 rw[bA]at hl;simp only[asC,ar7]at hl;obtain⟨hs,aT⟩:=vE (R:=fun _=>none) (φ:=fun _=>none) (L:=[]) (σ:=⟨0,.lf⟩) hp hs (by simpa using hl);have hlen:args.length≤fn.ntmps:=by omega
 have hJ:J (aj P args) (fun _=>none) (fun _=>none) (setArgs 0 0 (dg P 0 fn.params.toList)) [] (fun _=>bY args fn.ntmps) ⟨0,.lf⟩:=by
  refine⟨fun d t pv hg=>?_,fun k ob h=>(by simp at h),fun k k' id h=>(by cases h),fun k id h=>(by cases h),fun id m h=>(by cases h),fun id m cs ar mn h=>(by cases h),T.WF.lf,fun id _=>rfl⟩;obtain⟨rfl,_,h3⟩:=fq (α:=IV) hg;rw[aut]at aT;have ht:t<args.length:=by rw[aT.len];have:=(ar5.1 h3).1;simpa using this
  show VR _ _ _ _ _ ((bY args fn.ntmps).at t) pv;rw[(cC hlen).2 ht,ar4 ht];exact aT.get (ar4 ht) (by simpa using h3)
 obtain⟨b,nA⟩:=uE eT hC n 0 f c ⟨setArgs 0 0 (dg P 0 fn.params.toList),[],fn.params.size,0,fn.ntmps⟩ _ args [] _ _ _ _
  (fun N ex e1 ai=>(ex=.normal∨ex=.ret)∧ai.n≤N∧∃v,bt P fn e1 ai=some v∧Vh ds v ai) none [] hs hJ hl.symm rfl (cC (t:=0) hlen).1 (by
   intro ex V' μ K' R' aH E' ah x0 hf gm aZ
   have main:(match kT P 0 V' fn.results.toList with
    |some [.one (.mp k)]=>match V'.l[k]? with
     |some (.mp kt z)=>if gk kt then af.fail 146 else .ret z
     |_=>.fail 147
    |_=>.fail 148).sat P C (·=IV.av ds) K' (args++μ)→∃b,∀N,b≤N→ah.n≤N∧ah.n≤N∧∃v,bt P fn (E' 0) ah=some v∧Vh ds v ah:=by
    intro db;split at db<;>first|(exact db.elim)|skip
    rename_i k hr;obtain⟨vs,h1,h2⟩:=lj hf.hJ hr;split at db<;>first|(exact db.elim)|skip
    rename_i kt z hk;split at db
    ·exact db.elim
    rename_i d_;have d_:¬gk kt=true:=d_;obtain⟨z',h5,rfl⟩:=db;obtain⟨v,rfl,hv⟩:=kq h2;have eo:bt P fn (E' 0) ah=some v:=jW h1;obtain⟨id,lB,gF,g1,g2,g3⟩:=hv;rw[hk]at g2;cases g2;rw[if_neg d_]at g3;have dr:=hf.hJ.obj k _ hk;rw[gw,if_neg d_]at dr;obtain⟨bp,es,clock,l6,c1,c2,c3,c4,c5,c6⟩:=dr;rw[g1]at c2;cases c2;have jV:z.den P (args++μ)=some (.av l6):=c1;rw[h5]at jV;cases jV;refine⟨ah.n,fun N hN=>⟨hN,hN,v,eo,id,es,g3,?_,All2.len c5,fun i e d he hd=>?_⟩⟩
    ·rw[c4,c6.1,All2.len c5]
    ·obtain⟨kk,vv,Ni⟩:=dI d (ash hd);obtain⟨zv,h8,h9⟩:=All2.get c5 he hd;rw[Ni]at h8;simp only[IV.av.injEq,as5,and_true]at h8;obtain⟨h8a,rfl⟩:=h8;exact⟨c6.2 i e he,vv,Se h9,by rw[Ni,h8a]⟩
   cases ex with
   |exit i=>exact aZ.elim
   |bC t pv=>exact aZ.elim
   |normal=>
    obtain rfl:=gm;obtain⟨b,hb⟩:=main aZ;exact⟨b,fun N hN=>⟨(hb N hN).1,.inl rfl,(hb N hN).2⟩⟩
   |ret=>
    obtain rfl:=gm;obtain⟨b,hb⟩:=main aZ;exact⟨b,fun N hN=>⟨(hb N hN).1,.inr rfl,(hb N hN).2⟩⟩)
 exact lE.CI dI (dD.body (RW:=fun v ai=>Vh ds v ai) bA hb hlen (nA b (ar9 _))) fun v ah h=>h
end Go.Ev
namespace Go.Ev
section run
variable(P:Program)(cfg:aL)
def GR(n:Nat)(f:FuncId):af:=
 match P.funcs[f]? with
 |some fn=>match fn.body,fn.params.toList with
  |some c,t::ts=>match P.underlying t with
   |some (.map kt _)=>
    if as4 fn.params.size fn.ntmps&& !gk kt then
     pc P 1 ts<|exec P cfg n 1 f c ⟨setArgs 1 0 (.one (.mp 0)::dg P 1 ts)++setArgs 0 0 [.one (.mp 0)],[.mp kt (.var 0)],fn.params.size,0,fn.ntmps⟩ fun ex V=>match ex with
      |.exit _=>.fail 151
      |.bC _ _=>.fail 146
      |_=>match kT P 1 V fn.results.toList,cn 0 0 V.g with
       |some [pv],some (.one (.mp k))=>match V.l[k]?,uo pv with
        |some (.mp lz (.var 0)),some e=>if gk lz then .fail 152 else .ret (.rw e)
        |_,_=>.fail 152
       |_,_=>.fail 153
    else .fail 154
   |_=>.fail 155
  |_,_=>.fail 155
 |none=>.fail 156
end run
variable{P:Program}{N:Nat}{σ ah:St}{R R':Rs}{φ aH:Ph}{E:Nat→Env}{ν:List IV}{cfg:aL}
variable{C:Cr}{Q:IV→Prop}{K:List (List IV→Prop)}{V:SS}{L:List (LO SE)}
theorem rq.nz(eT:P.follows .mixedOrders=true)(hC:iE P C){n:Nat}{f:FuncId}{cR:af}{ds xs:List IV}{z:IV}(he:GR P cfg n f=cR)(hl:(P.funcs[f]?).map (·.params.size)=some (xs.length+1))(hp:∀x∈xs,Pure x)
 (dI:r8 ds)(hz:∃v,z=.raw v∧ab z=true)(hs:cR.sat P C (·=z) [] (.av ds::xs)):rq P f ds xs z:=by
 subst he;unfold GR at hs;split at hs<;>first|(exact hs.elim)|skip
 rename_i fn bA;split at hs<;>first|(exact hs.elim)|skip
 rename_i c t0 ts hb tF;split at hs<;>first|(exact hs.elim)|skip
 rename_i kt et hu;split at hs<;>first|(exact hs.elim)|skip
 rename_i hle;simp only[ar6,asN]at hle;have I9:fn.params.size≤fn.ntmps:=by simpa using hle.1
 have d_:¬gk kt=true:=by rw[hle.2];simp
 rw[bA]at hl;simp only[asC,ar7]at hl
 have aK:ts.length=xs.length:=by
  have:fn.params.toList.length=fn.params.size:=by simp
  rw[tF]at this;simp at this;omega
 let σ:St:=(⟨0,.lf⟩:St).add (.map (jG ds) ds.length)
 let φ:Ph:=fun j=>if j=0 then some 0 else none
 have bg:All2 hZ xs xs:=.mk rfl fun i a b h1 h2=>by
  rw[h1]at h2;cases h2;exact .pure a rfl (hp a (ash h1))
 obtain⟨c9,aT⟩:=Cf (j:=0) (pre:=[.av ds]) (R:=fun _=>none) (φ:=φ) (L:=[.mp kt (.var 0)]) (σ:=σ) bg hs (by omega);rw[aut]at aT;have gS:(SE.var 0).den P (.av ds::xs)=some (.av ds):=by simp[SE.den]
 have zp:VR (aj P (.av ds::xs)) (fun _=>none) φ [.mp kt (.var 0)] σ (.map 0) (.one (.mp 0)):=⟨0,kt,.var 0,rfl,rfl,(if_neg d_).symm⟩;have zx:All2 (VR (aj P (.av ds::xs)) (fun _=>none) φ [.mp kt (.var 0)] σ) (.map 0::xs) (.one (.mp 0)::dg P 1 ts):=⟨zp,aT⟩;have hlen:(IV.map 0::xs).length≤fn.ntmps:=by simp;omega
 let E1:Nat→Env:=fun j=>if j=0 then bY [.map 0] 1 else bY (.map 0::xs) fn.ntmps
 have hJ:J (aj P (.av ds::xs)) (fun _=>none) φ (setArgs 1 0 (.one (.mp 0)::dg P 1 ts)++setArgs 0 0 [.one (.mp 0)]) [.mp kt (.var 0)] E1 σ:=by
  refine⟨fun d t pv hg=>?_,fun j ob hj=>?_,fun j j' id h1 h2=>?_,fun j id hj=>?_,fun id m h=>(by cases h),fun id m cs ar mn h=>(by cases h),(T.WF.lf.set 0 (Ob.map (jG ds) ds.length):(T.lf.set 0 (Ob.map (jG ds) ds.length)).WF),fun id hid=>?_⟩
  ·rcases GQ hg with hg|hg
   ·obtain⟨rfl,_,h3⟩:=fq (α:=IV) hg;have ht:t<(IV.map 0::xs).length:=by rw[zx.len];have:=(ar5.1 h3).1;simpa using this
    show VR _ _ _ _ _ ((bY (.map 0::xs) fn.ntmps).at t) pv;rw[(cC hlen).2 ht,ar4 ht];exact zx.get (ar4 ht) (by simpa using h3)
   ·obtain⟨rfl,_,h3⟩:=fq (α:=IV) hg;cases t with
    |succ t=>simp at h3
    |zero=>
     simp at h3;subst h3;show VR _ _ _ _ _ ((bY [.map 0] 1).at 0) _;rw[(cC (by simp)).2 (by simp)];exact zp
  ·cases j with
   |succ j=>simp at hj
   |zero=>
    simp at hj;subst hj;rw[gw,if_neg d_];refine⟨0,jG ds,ds.length,ds,gS,rfl,rfl,by simp[σ],?_,(p5 ds).symm,fun i e he=>?_⟩
    ·refine .mk (p5 ds) fun i e d he hd=>?_;obtain⟨d',vp,rfl⟩:=p4 he;rw[hd]at vp;cases vp;obtain⟨kk,v,rfl⟩:=dI d (ash hd);refine⟨lift v,by simp[zo,pZ],?_⟩;show aV true _ _ (lift v) (lift v);unfold lift;split
     ·exact .agg _ _ rfl fun i c e h1 h2=>by
       rw[h1]at h2;cases h2;rw[asi]at h1;obtain⟨u,_,rfl⟩:=ar_.1 h1;exact .raw _
     ·exact .raw _
    ·obtain⟨d',vp,rfl⟩:=p4 he;obtain⟨kk,v,rfl⟩:=dI d' (ash vp);rfl
  ·simp only[φ]at h1 h2;split at h1<;>first|(cases h1;done)|skip
   split at h2<;>first|(cases h2;done)|skip
   omega
  ·simp only[φ]at hj;split at hj<;>first|(cases hj;done)|skip
   rename_i h0;cases hj;exact⟨by simp[h0],by simp[σ]⟩
  ·have:id≠0:=by simp only[σ,St.kz]at hid;omega
   show((⟨0,.lf⟩:St).add (.map (jG ds) ds.length)).at id=none;rw[St.gI,if_neg (by show¬0=id;omega)];rfl
 obtain⟨b,nA⟩:=uE eT hC n 1 f c ⟨setArgs 1 0 (.one (.mp 0)::dg P 1 ts)++setArgs 0 0 [.one (.mp 0)],[.mp kt (.var 0)],fn.params.size,0,fn.ntmps⟩ _ (.av ds::xs) [] _ φ E1 σ
  (fun N ex e1 ai=>(ex=.normal∨ex=.ret)∧ai.n≤N∧∃v,bt P fn e1 ai=some v∧(v=z∧∃es,ai.at 0=some (.map es ds.length)∧AK es ds)) none [] c9 hJ (by simp;omega) rfl (cC (t:=0) hlen).1 (by
   intro ex V' μ K' R' aH E' ah x0 hf gm aZ
   have main:(match kT P 1 V' fn.results.toList,cn 0 0 V'.g with
    |some [pv],some (.one (.mp k))=>match V'.l[k]?,uo pv with
     |some (.mp lz (.var 0)),some e=>if gk lz then af.fail 152 else .ret (.rw e)
     |_,_=>.fail 152
    |_,_=>.fail 153).sat P C (·=z) K' (IV.av ds::xs++μ)→∃b,∀N,b≤N→ah.n≤N∧ah.n≤N∧∃v,bt P fn (E' 1) ah=some v∧(v=z∧∃es,ah.at 0=some (.map es ds.length)∧AK es ds):=by
    intro db;split at db<;>first|(exact db.elim)|skip
    rename_i pv k hr hg;obtain⟨vs,h1,h2⟩:=lj hf.hJ hr;split at db<;>first|(exact db.elim)|skip
    rename_i lz e hk hse;split at db
    ·exact db.elim
    rename_i ye;have afP:¬gk lz=true:=ye;obtain⟨z',h5,rfl⟩:=db;obtain⟨v,rfl,hv⟩:=kq h2;have eo:bt P fn (E' 1) ah=some v:=jW h1;obtain⟨y,c1,c2⟩:=Ox hf.hJ hv hse;simp only[SE.den,c1,asc]at h5;split at h5<;>first|(cases h5;done)|skip
    rename_i kN;cases h5
    have hvy:v=z':=by
     cases z'<;>simp only[au]at kN<;>first|(cases kN;done)|skip
     exact bS c2
    have Vn:=hf.hJ.slot 0 0 _ hg;have hE0:E' 0=E1 0:=hf.hE 0 (by omega);rw[hE0]at Vn
    have OU:(E1 0).at 0=.map 0:=by
     show(bY [.map 0] 1).at 0=_;rw[(cC (by simp)).2 (by simp)];rfl
    rw[OU]at Vn;obtain⟨id,lB,gF,g1,g2,g3⟩:=Vn;rw[hk]at g2;cases g2;rw[if_neg afP]at g3;cases g3;have dr:=hf.hJ.obj k _ hk;rw[gw,if_neg afP]at dr;obtain⟨bp,es,clock,l6,d1,d2,d3,d4,d5,d6⟩:=dr;rw[g1]at d2;cases d2;have XC:(SE.var 0).den P (IV.av ds::xs++μ)=some (.av l6):=d1;simp[SE.den]at XC;subst XC;obtain⟨rfl,xz⟩:=Ll d5 d6 dI;exact⟨ah.n,fun N hN=>⟨hN,hN,v,eo,hvy,es,d4,xz⟩⟩
   cases ex with
   |exit i=>exact aZ.elim
   |bC t pv=>exact aZ.elim
   |normal=>
    obtain rfl:=gm;obtain⟨b,hb⟩:=main aZ;exact⟨b,fun N hN=>⟨(hb N hN).1,.inl rfl,(hb N hN).2⟩⟩
   |ret=>
    obtain rfl:=gm;obtain⟨b,hb⟩:=main aZ;exact⟨b,fun N hN=>⟨(hb N hN).1,.inr rfl,(hb N hN).2⟩⟩)
 exact rq.CI dI hz (dD.body (RW:=fun v ai=>v=z∧∃es,ai.at 0=some (.map es ds.length)∧AK es ds) bA hb hlen (nA b (ar9 _))) fun v ah h=>h
end Go.Ev
namespace Go.Ev
variable{P:Program}{C:Cr}{Q:IV→Prop}{K K':List (List IV→Prop)}{ν:List IV}
theorem af.GS(f:af){K K':List (List IV→Prop)}{ν:List IV}(hk:qM K K')(h:f.sat P C Q K ν):f.sat P C Q K' ν:=af.dV P f (fun _ h=>h) hk h
theorem D7{A:Type}{init:SE}{body:af}(e:A→List IV)(I:A→Prop)(μ:A→Nat)(a0:A)(Ch:h_ P ν init=some (e a0))(h0:I a0)
 (h:∀a,I a→body.sat P C Q (K++[fun vs=>∃a',vs=e a'∧I a'∧μ a'<μ a]) (ν++e a)):(af.loop init body).sat P C Q K ν:=by
 refine⟨e a0,Ch,μ a0+1,?_⟩
 have key:∀m a,I a→μ a<m→(avp (motive:=fun _=>List IV→Prop) (fun _=>False) (fun _ ih vs=>body.sat P C Q (K++[ih]) (ν++vs)) m) (e a):=by
  intro m;induction m with
  |zero=>intro a _ h;omega
  |succ m ih=>
   intro a ha hm;refine body.GS ((qM.refl K).snoc ?_) (h a ha);rintro vs ⟨a',rfl,h1,h2⟩;exact ih a' h1 (by omega)
 exact key (μ a0+1) a0 h0 (Nat.lt_succ_self _)
theorem dh{A:Type}{init:SE}{body:af}(n:Nat)(e:Nat→A→List IV)(I:Nat→A→Prop)(a0:A)(Ch:h_ P ν init=some (e 0 a0))(h0:I 0 a0)
 (h:∀i a,i≤n→I i a→body.sat P C Q (K++[fun vs=>∃a',vs=e (i+1) a'∧i+1≤n∧I (i+1) a']) (ν++e i a)):(af.loop init body).sat P C Q K ν:=by
 refine D7 (A:=Nat×A) (fun p=>e p.1 p.2) (fun p=>p.1≤n∧I p.1 p.2) (fun p=>n- p.1) (0,a0) Ch ⟨asT _,h0⟩ fun⟨i,a⟩ ⟨hi,hI⟩=>?_;refine body.GS ((qM.refl K).snoc ?_) (h i a hi hI);rintro vs ⟨a',rfl,h1,h2⟩;exact⟨(i+1,a'),rfl,⟨h1,h2⟩,by simp;omega⟩
theorem adV{a b:af}{m:Nat}(p:List IV→Prop)(h:a.sat P C Q (K++[p]) ν)(hb:∀vs,p vs→vs.length=m∧b.sat P C Q K (ν++vs)):(af.o8 a m b).sat P C Q K ν:=
 a.GS ((qM.refl K).snoc hb) h
@[simp] theorem aon{w:Nat}:(af.fail w).sat P C Q K ν↔False:=au0
@[simp] theorem Sl{e:SE}:(af.ret e).sat P C Q K ν↔∃z,e.den P ν=some z∧Q z:=au0
@[simp] theorem nB{e:SE}{k:af}:(af.aG e k).sat P C Q K ν↔(∃z,e.den P ν=some z)∧k.sat P C Q K ν:=au0
@[simp] theorem OV{e:SE}{k:af}:(af.bind e k).sat P C Q K ν↔∃z,e.den P ν=some z∧k.sat P C Q K (ν++[z]):=au0
@[simp] theorem OW{f:FuncId}{new:Bool}{e:SE}{k:af}:(af.call f new e k).sat P C Q K ν↔∃xs z,h_ P ν e=some xs∧C f new xs z∧k.sat P C Q K (ν++[z]):=au0
@[simp] theorem OX{e:SE}{a b:af}:(af.test e a b).sat P C Q K ν↔(e.den P ν=some (.raw (.bool true))∧a.sat P C Q K ν)∨(e.den P ν=some (.raw (.bool false))∧b.sat P C Q K ν):=au0
@[simp] theorem aqX{e:SE}{a b:af}:(af.two e a b).sat P C Q K ν↔∃q es,e.den P ν=some (.tree q es)∧b.sat P C Q K ν∧(es=[]→a.sat P C Q K ν):=au0
@[simp] theorem OY{lv:Nat}{e:SE}:(af.next lv e).sat P C Q K ν↔∃vs p,h_ P ν e=some vs∧K[lv]?=some p∧p vs:=au0
@[simp] theorem aoo{es x:SE}{k:af}:(af.same es x k).sat P C Q K ν↔∃ds r,es.den P ν=some (.av ds)∧x.den P ν=some (.av (.av ds::r))∧k.sat P C Q K ν:=au0
@[simp] theorem aqY:h_ P ν .an=some []:=rfl
@[simp] theorem aop{a r:SE}:h_ P ν (.ac a r)=(a.den P ν).bind fun x=>(h_ P ν r).map fun xs=>x::xs:=by
  unfold h_;simp only[SE.den];cases a.den P ν with
  |none=>rfl
  |some x=>
   cases r.den P ν with
   |none=>rfl
   |some y=>cases y<;>rfl
abbrev iB(b:Bool):IV:=.raw (.bool b)
abbrev iI(n:Int):IV:=.raw (.int .i64 n)
abbrev iS(l:List UInt8):IV:=.raw (.string ⟨l.toArray⟩)
abbrev iL(l:List Int):IV:=.tree 1 (l.map iI)
@[simp] theorem aiM(q:IntKind)(n:Int):xU (.raw (.int q n))=some (.raw (.int q n)):=rfl
@[simp] theorem afQ(n:Bool):xU (.raw (.bool n))=some (.raw (.bool n)):=rfl
@[simp] theorem aiN(n:ByteArray):xU (.raw (.string n))=some (.raw (.string n)):=rfl
@[simp] theorem rH(s:Nat)(es:List IV):xU (.tree s es)=some (.tree s es):=rfl
@[simp] theorem aiO(s:Nat)(es:List IV):HV (.tree s es)=some (.raw (.int .i64 es.length)):=rfl
theorem dv{s:Nat}{es:List IV}{i:Nat}{q:IntKind}{x:IV}(h:es[i]?=some x)(hx:(cellsOf x).length=s):cq s (.tree s es) (.raw (.int q (i:Nat)))=some x:=by
 simp[cq,fa,h,hx]
@[simp] theorem ark(P:Program)(t:TypeId)(a b:Int):da P .lss t (iI a) (iI b)=some (iB (decide (a<b))):=rfl
@[simp] theorem arl(P:Program)(t:TypeId)(a b:Int):da P .gtr t (iI a) (iI b)=some (iB (decide (a>b))):=rfl
@[simp] theorem arn(P:Program)(t:TypeId)(a b:Int):da P .leq t (iI a) (iI b)=some (iB (decide (a≤b))):=rfl
@[simp] theorem aro(P:Program)(t:TypeId)(a b:Int):da P .geq t (iI a) (iI b)=some (iB (decide (a≥b))):=rfl
@[simp] theorem arp(P:Program)(t:TypeId)(a b:Int):da P .eql t (iI a) (iI b)=some (iB (a==b)):=rfl
@[simp] theorem arq(P:Program)(t:TypeId)(a b:Int):da P .neq t (iI a) (iI b)=some (iB (a !=b)):=rfl
@[simp] theorem ars(P:Program)(t:TypeId)(a b:Int):da P .add t (iI a) (iI b)=some (iI (aso.wrap (a+b))):=rfl
@[simp] theorem art(P:Program)(t:TypeId)(a b:Int):da P .sub t (iI a) (iI b)=some (iI (aso.wrap (a- b))):=rfl
@[simp] theorem aru(P:Program)(t:TypeId)(a b:Int):da P .mul t (iI a) (iI b)=some (iI (aso.wrap (a*b))):=rfl
@[simp] theorem arv(P:Program)(t:TypeId)(a b:List UInt8):da P .lss t (iS a) (iS b)=some (iB (auC a b)):=by
  show some (IV.bool (auC a.toArray.toList b.toArray.toList))=_;simp
@[simp] theorem arw(P:Program)(t:TypeId)(a b:List UInt8):da P .gtr t (iS a) (iS b)=some (iB (!(auC a b||a==b))):=by
  show some (IV.bool (!(auC a.toArray.toList b.toArray.toList||a.toArray.toList==b.toArray.toList)))=_;simp
@[simp] theorem arx(P:Program)(t:TypeId)(a b:List UInt8):da P .neq t (iS a) (iS b)=some (iB (!(a==b))):=by
  show some (IV.bool (!(a.toArray.toList==b.toArray.toList)))=_;simp
theorem aca(P:Program)(t:TypeId)(hu:P.underlying t=some .bool)(a b:Bool):da P .eql t (iB a) (iB b)=some (iB (a==b)):=by
 show(aJ P (do eqGuard .eql t _ _ _ _;Go.binOp .eql t _ _)).map lift=_;rw[bj];show(aJ P (do pure (.bool (←atw (9999+1) t (.bool a) (.bool b))))).map lift=_;unfold atw;rw[bj,bj,Go.Ev.run_underlying hu,asc];rfl
theorem ajM(P:Program)(t:TypeId)(hu:P.underlying t=some .bool)(a b:Bool):da P .neq t (iB a) (iB b)=some (iB (!(a==b))):=by
 show(aJ P (do eqGuard .neq t _ _ _ _;Go.binOp .neq t _ _)).map lift=_;rw[bj];show(aJ P (do pure (.bool (!(←atw (9999+1) t (.bool a) (.bool b)))))).map lift=_;unfold atw;rw[bj,bj,Go.Ev.run_underlying hu,asc];rfl
@[simp] theorem ary(P:Program)(a:Bool):UH P .not (iB a)=some (iB (!a)):=rfl
theorem eb{a:Int}(h1: -9223372036854775808≤a)(h2:a≤9223372036854775807):aso.wrap a=a:=by
 simp only[IntKind.wrap,IntKind.bits,IntKind.signed];simp;omega
end Go.Ev
namespace Go.Ev
variable{P:Program}{C:Cr}{Q:IV→Prop}{K K':List (List IV→Prop)}{ν:List IV}
def OZ{A:Type}(n:Nat)(e:Nat→A→List IV)(I:Nat→A→Prop)(i:Nat)(vs:List IV):Prop:=∃a',vs=e (i+1) a'∧i+1≤n∧I (i+1) a'
theorem OZ.mk{A:Type}{n:Nat}{e:Nat→A→List IV}{I:Nat→A→Prop}{i:Nat}{vs:List IV}(a':A)(h1:vs=e (i+1) a')(h2:i+1≤n)(h3:I (i+1) a'):OZ n e I i vs:=⟨a',h1,h2,h3⟩
theorem ao{A:Type}{init:SE}{body:af}(n:Nat)(e:Nat→A→List IV)(I:Nat→A→Prop)(a0:A)(Ch:h_ P ν init=some (e 0 a0))(h0:I 0 a0)
 (h:∀i a,i≤n→I i a→body.sat P C Q (K++[OZ n e I i]) (ν++e i a)):(af.loop init body).sat P C Q K ν:=
 dh n e I a0 Ch h0 h
def O0{A:Type}(e:A→List IV)(I:A→Prop)(μ:A→Nat)(a:A)(vs:List IV):Prop:=∃a',vs=e a'∧I a'∧μ a'<μ a
theorem O0.mk{A:Type}{e:A→List IV}{I:A→Prop}{μ:A→Nat}{a:A}{vs:List IV}(a':A)(h1:vs=e a')(h2:I a')(h3:μ a'<μ a):O0 e I μ a vs:=⟨a',h1,h2,h3⟩
theorem eY{A:Type}{init:SE}{body:af}(e:A→List IV)(I:A→Prop)(μ:A→Nat)(a0:A)(Ch:h_ P ν init=some (e a0))(h0:I a0)
 (h:∀a,I a→body.sat P C Q (K++[O0 e I μ a]) (ν++e a)):(af.loop init body).sat P C Q K ν:=
 D7 e I μ a0 Ch h0 h
def J1(p:List IV→Prop)(vs:List IV):Prop:=p vs
theorem fJ{a b:af}{m:Nat}(p:List IV→Prop)(h:a.sat P C Q (K++[J1 p]) ν)(hb:∀vs,p vs→vs.length=m∧b.sat P C Q K (ν++vs)):(af.o8 a m b).sat P C Q K ν:=
 adV p h hb
end Go.Ev
namespace Go.Ev
variable{P:Program}{C:Cr}{Q:IV→Prop}{K:List (List IV→Prop)}{ν:List IV}
def noTwo:af→Bool
 |.two .. |.pick .. =>false
 |.test _ a b|.o8 a _ b=>noTwo a&&noTwo b
 |.bind _ k|.aG _ k|.call _ _ _ k|.loop _ k|.same _ _ k=>noTwo k
 |_=>true
def ExK(Q:IV→Prop)(K:List (List IV→Prop))(Kz:IV→List (List IV→Prop)):Prop:=
 (∀z,(Kz z).length=K.length)∧∀(lv:Nat) (p:List IV→Prop) (vs:List IV),K[lv]?=some p→p vs→∃z,Q z∧∃p':List IV→Prop,(Kz z)[lv]?=some p'∧p' vs
theorem ExK.snoc{Kz:IV→List (List IV→Prop)}{p:List IV→Prop}{q:IV→List IV→Prop}(h:ExK Q K Kz)(hp:∀vs,p vs→∃z,Q z∧q z vs):ExK Q (K++[p]) (fun z=>Kz z++[q z]):=by
 refine⟨fun z=>by simp[h.1 z],fun lv r vs hr gK=>?_⟩;by_cases hl:lv<K.length
 ·rw[asf hl]at hr;obtain⟨z,h1,p',h2,h3⟩:=h.2 lv r vs hr gK;exact⟨z,h1,p',by rw[asf (by rw[h.1 z];exact hl)];exact h2,h3⟩
 ·have aa:=(ar5.1 hr).1;simp at aa;have:lv=K.length:=by omega
  subst this;simp at hr;subst hr;obtain⟨z,h1,h2⟩:=hp vs gK;exact⟨z,h1,q z,by simp[←h.1 z],h2⟩
theorem qO:∀(cR:af),noTwo cR=true→∀{K:List (List IV→Prop)} {Kz:IV→List (List IV→Prop)} {ν:List IV},ExK Q K Kz→cR.sat P C Q K ν→∃z,Q z∧cR.sat P C (·=z) (Kz z) ν
 |.fail _,_,_,_,_,_,h=>h.elim
 |.bad ..,_,_,_,_,_,h=>h.elim
 |.two ..,hn,_,_,_,_,_=>by cases hn
 |.pick ..,hn,_,_,_,_,_=>by cases hn
 |.uniq k,_,K,Kz,_,hK,h=>by
  obtain⟨z,h1,h2⟩:=h;refine⟨z,h1,z,rfl,af.dV P k (fun _ h=>h) ?_ h2⟩;refine .mk (by simp[hK.1 z]) fun i a b ha hb vs hv=>?_;simp only[asi,ar_]at ha;obtain⟨_,_,rfl⟩:=ha;exact hv.elim
 |.same es x k,hn,_,_,_,hK,h=>by
  obtain⟨ds,r,h1,h2,h3⟩:=h;obtain⟨z,g1,g2⟩:=qO k hn hK h3;exact⟨z,g1,ds,r,h1,h2,g2⟩
 |.ret e,_,_,_,_,_,h=>by
  obtain⟨z,h1,h2⟩:=h;exact⟨z,h2,z,h1,rfl⟩
 |.test e a b,hn,_,_,_,hK,h=>by
  simp only[noTwo,ar6]at hn;rcases h with⟨h1,h2⟩|⟨h1,h2⟩
  ·obtain⟨z,g1,g2⟩:=qO a hn.1 hK h2;exact⟨z,g1,.inl ⟨h1,g2⟩⟩
  ·obtain⟨z,g1,g2⟩:=qO b hn.2 hK h2;exact⟨z,g1,.inr ⟨h1,g2⟩⟩
 |.bind e k,hn,_,_,_,hK,h=>by
  obtain⟨y,h1,h2⟩:=h;obtain⟨z,g1,g2⟩:=qO k hn hK h2;exact⟨z,g1,y,h1,g2⟩
 |.aG e k,hn,_,_,_,hK,h=>by
  obtain⟨z,g1,g2⟩:=qO k hn hK h.2;exact⟨z,g1,h.1,g2⟩
 |.call f new e k,hn,_,_,_,hK,h=>by
  obtain⟨xs,y,h1,h2,h3⟩:=h;obtain⟨z,g1,g2⟩:=qO k hn hK h3;exact⟨z,g1,xs,y,h1,h2,g2⟩
 |.next lv e,_,K,Kz,_,hK,h=>by
  obtain⟨vs,p,h1,h2,h3⟩:=h;obtain⟨z,g1,p',g2,g3⟩:=hK.2 lv p vs h2 h3;exact⟨z,g1,vs,p',h1,g2,g3⟩
 |.o8 a m b,hn,K,Kz,ν,hK,h=>by
  simp only[noTwo,ar6]at hn
  exact qO a hn.1 (Kz:=fun z=>Kz z++[fun vs=>vs.length=m∧b.sat P C (·=z) (Kz z) (ν++vs)]) (hK.snoc fun vs gK=>by
   obtain⟨z,g1,g2⟩:=qO b hn.2 hK gK.2;exact⟨z,g1,gK.1,g2⟩) h
 |.loop i b,hn,K,Kz,ν,hK,h=>by
  obtain⟨vs,h1,m,hm⟩:=h
  have key:∀(m:Nat) (vs:List IV),(avp (motive:=fun _=>List IV→Prop) (fun _=>False) (fun _ ih vs=>b.sat P C Q (K++[ih]) (ν++vs)) m) vs→
   ∃z,Q z∧(avp (motive:=fun _=>List IV→Prop) (fun _=>False) (fun _ ih vs=>b.sat P C (·=z) (Kz z++[ih]) (ν++vs)) m) vs:=by
   intro m;induction m with
   |zero=>intro vs h;exact h.elim
   |succ m ih=>
    intro vs h;exact qO b hn (Kz:=fun z=>Kz z++[avp (motive:=fun _=>List IV→Prop) (fun _=>False) (fun _ ih vs=>b.sat P C (·=z) (Kz z++[ih]) (ν++vs)) m]) (hK.snoc ih) h
  obtain⟨z,g1,g2⟩:=key m vs hm;exact⟨z,g1,vs,h1,m,g2⟩
theorem yk{cR:af}(hn:noTwo cR=true)(h:cR.sat P C Q [] ν):∃z,Q z∧cR.sat P C (·=z) [] ν:=
 qO cR hn (Kz:=fun _=>[]) ⟨fun _=>rfl,fun _ _ _ h=>by simp at h⟩ h
end Go.Ev
namespace Go.Ev
open Go
variable{H:Type}{enc:TypeId×Value→H}{P:Program}{w:World}{sp:Nat→Bool}{held:Bool}
theorem vF{a:Addr}{n:Nat}{us:List Value}(h:w.cells? 0 a n=some us):us.length=n∧∀j,j<n→w.cell? (a.add j)=us[j]? :=by
 unfold World.cells? at h;rw[if_pos (asT _)]at h;exact⟨by simpa using mapM_some_length h,fun j hj=>mapM_some_get h j j (by simp[hj])⟩
theorem Vo{b off:Nat}{v:Value}(h:w.cell? ⟨b,off,none⟩=some v):oC (allM w) b off=some v:=by
 unfold World.cell? at h;simp only at h;split at h
 ·rename_i c e f hb;rw[if_neg (by simp)]at h;unfold oC allM;rw[hb];exact h
 ·cases h
theorem O1(b off n:Nat):(⟨b,off,none⟩:Addr).add n=⟨b,off+n,none⟩:=by
 unfold axQ;split
 ·rename_i h;subst h;rfl
 ·rfl
theorem jQ{α:Type}(f:α→IV){s:Nat}(hs:0<s)(bD:∀a,(cellsOf (f a)).length=s)(Ok:α→Prop){t e:TypeId}(ht:P.underlying t=some (.slice e))(hP:P.cellsOf e=s){fuel:Nat}{u:Value}{x:DataW H×List MemPlace}
 (tz:∀n us x,n<fuel→as9 enc P w 0 sp held n e us=some x→us.length=s→∃a,Ok a∧ax (eW (allM w)) (cellsOf (f a)) us)
 (h:as9 enc P w 0 sp held fuel t [u]=some x):∃l:List α,l.length≤9223372036854775807∧(∀a∈l,Ok a)∧Rv (eW (allM w)) (.tree s (l.map f)) u:=by
 rcases DataW.trod_slice ht h with⟨h1,_⟩|⟨a,len,cap,elems,rest,n,hfu,h1,_,_,mv,XV,hlen,az,_,_⟩
 ·obtain rfl:=(au_ h1).1;exact⟨[],by simp,by simp,.dW s none 0 hs (fun _=>rfl)⟩
 ·obtain rfl:=(au_ h1).1;by_cases jB:len=0
  ·subst jB;exact⟨[],by simp,by simp,.dW s (some a) cap hs (by simp)⟩
  ·have key:∀i:Fin len,∃p:List Value×α,w.cells? 0 (a.add (i.1*s)) s=some p.1∧Ok p.2∧ax (eW (allM w)) (cellsOf (f p.2)) p.1:=fun i=>by
    have hi:=az i.1 i.2;rw[hP]at hi;have Ar:elems[i.1]?=some elems[i.1]:=ar4 (by omega);rw[Ar]at hi;obtain⟨us,Cy,qF⟩:=ass.1 hi;obtain⟨b,cK,fB⟩:=tz n us _ (by omega) qF (vF Cy).1;exact⟨(us,b),Cy,cK,fB⟩
   obtain⟨g,hg⟩:=avj key
   have acb:a.spot=none:=by
    obtain⟨tN,_,_⟩:=hg ⟨0,by omega⟩;obtain⟨tR,fi⟩:=vF tN;have h0:=fi 0 hs;rw[ar4 (by omega)]at h0;have:=World.cell?_spot h0;simpa[axQ]using this
   obtain⟨b,off,spot⟩:=a;simp only at acb;subst acb
   have ji:∀i (hi:i<len) j,j<s→w.cell? ⟨b,off+(i*s+j),none⟩=(g ⟨i,hi⟩).1[j]? :=fun i hi j hj=>by
    have:=(vF (hg ⟨i,hi⟩).1).2 j hj;rw[O1,O1]at this;rw[←Nat.add_assoc];exact this
   refine⟨awH fun i=>(g i).2,by simp;have:maxLen=9223372036854775807:=rfl;omega,?_,?_⟩
   ·intro c hc;obtain⟨i,rfl⟩:=(List.mem_ofFn (f:=fun i=>(g i).2)).1 hc;exact(hg i).2.1
   ·have tz:((awH fun i=>(g i).2).map f).length=len:=by simp
    have hR:=Rv.tree (ι:=eW (allM w)) s ((awH fun i=>(g i).2).map f) b off cap (fun k=>(w.cell? ⟨b,off+k,none⟩).getD Go.undef) hs (by rw[tz];exact mv) ?_ ?_ ?_
    ·rw[tz]at hR;exact hR
    ·intro e' j_;obtain⟨c,_,rfl⟩:=List.mem_map.1 j_;exact bD c
    ·intro k hk;rw[tz]at hk;have hi:k/s<len:=Nat.div_lt_of_lt_mul (by rw[axz];exact hk);have hj:k % s<s:=Nat.mod_lt _ hs;have hc:=ji (k/s) hi (k % s) hj;have cz:k/s*s+k % s=k:=by rw[axz];exact Nat.div_add_mod k s
     rw[cz]at hc;have tR:=(vF (hg ⟨k/s,hi⟩).1).1;rw[ar4 (by omega)]at hc;rw[Vo hc,hc];rfl
    ·intro i e' j c j_ hc;rw[asi,List.getElem?_ofFn]at j_;split at j_
     ·rename_i hi;simp only[asC,ar7]at j_;subst j_;have hj:j<s:=by have:=(ar5.1 hc).1;rw[bD]at this;exact this
      have nH:=ji i hi j hj;have tR:=(vF (hg ⟨i,hi⟩).1).1;rw[ar4 (by omega)]at nH;simp only[nH,Option.getD_some];exact(hg ⟨i,hi⟩).2.2.2 j c _ hc (ar4 _)
     ·simp at j_
theorem iU{t:TypeId}{fs:Array Field}{cs:List Value}{fuel:Nat}{x:DataW H×List MemPlace}(ht:P.underlying t=some (.struct fs))(h:as9 enc P w 0 sp held fuel t cs=some x):
 ∃n,fuel=n+1∧∀(i:Nat) (ty:TypeId) (off k:Nat),(fs[i]?).map (fun f:Field=>(f.type,f.offset))=some (ty,off)→P.cellsOf ty=k→∃y,as9 enc P w 0 sp held n ty ((cs.drop off).take k)=some y:=by
 obtain⟨xs,n,h1,_,_,h4,h5⟩:=DataW.trod_struct ht h;refine⟨n,h1,fun i ty off k hi hk=>?_⟩;obtain⟨f,hf,hfe⟩:=ar_.1 hi;simp only[asx]at hfe;obtain⟨rfl,rfl⟩:=hfe
 have FF:i<xs.length:=by
  rw[h4];exact(Array.getElem?_eq_some_iff.1 hf).1
 have:=h5 i f hf;rw[ar4 FF,hk]at this;exact⟨_,this⟩
end Go.Ev
