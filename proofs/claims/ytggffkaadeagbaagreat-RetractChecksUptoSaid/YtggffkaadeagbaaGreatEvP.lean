/- Lemmas over the model, without conditions of their own: code on expressions is sound (2); contracts out of functional programs. -/
import Derived.Test.YtggffkaadeagbaaGreatEvO
import Derived.Test.YtggffkaadeagbaaGreatEvN
import Derived.ProofKit
import Derived.OpenShut
open Nat renaming rec->atY,eq_of_beq_eq_true->aqO,le_refl->aqK,ble->arE,beq->aqP,zero_add->ar4,add_zero->awb,zero_le->arw,mul_comm->au6
open List renaming prefix_append->au5,append_assoc->aq4,getElem?_append_right->aq_,getElem?_cons_zero->asb,drop_of_length_le->aro,drop_eq_getElem_cons->arj,drop_zero->asX,getElem?_eq_some_iff->aqF,getElem?_eq_getElem->aqE,mem_of_getElem?->aqS,getElem?_cons_succ->asZ,length->ari,map_cons->arC,getElem?_map->aqU,getElem?_append_left->aqQ,length_map->ar8,ofFn->atN
open Option.some renaming injEq->aqH
open Bool renaming false_eq_true->ara,and_eq_true->aqG,not_eq_true'->aru
open Prod.mk renaming injEq->aq6
open Option renaming map_some->aq9,bind_some->aqN,map_eq_some_iff->aqL,bind_eq_some_iff->aqZ
open List.cons renaming injEq->arF,inj->atf
open Iff renaming rfl->atz
open Go.IntKind renaming i64->arc
open Go.Op renaming bytesLess->as8,equalIn->ar3
open Go.Addr renaming add->aws
open Go.DataW renaming trod->arB
open Classical renaming axiomOfChoice->awm
set_option linter.all false
namespace Go.Ev
variable{P:Program}{N:Nat}{σ ah:St}{R R':Rs}{φ aG:Ph}{E:Nat→Env}{ν:List IV}{ro:Nat}{ι:Io}{w:World}{cfg:bj}{self:mZ}
variable{C:Cr}{Q:IV→Prop}{K:List (List IV→Prop)}{V:SS}{d f0:Nat}{o:Oper}{k:PV SE→SS→ab}{L:List (LO SE)}{Γ:Gm SE}{rd:Option Nat}{df:List Df}
theorem XR.goto{ex:yw}{x:Ex}(h:XR P ν R φ L σ ex x)(l:Nat):x≠.goto l:=by
 cases ex with
 |bU t pv=>obtain⟨v,rfl,_⟩:=h;simp
 |_=>rw[show x=_ from h];simp
theorem XR.norm{ex:yw}{x:Ex}(h:XR P ν R φ L σ ex x)(aT:ex≠.normal):x≠.normal:=by
 cases ex with
 |normal=>exact absurd rfl aT
 |bU t pv=>obtain⟨v,rfl,_⟩:=h;simp
 |_=>rw[show x=_ from h];simp
theorem SV{t:Nat}{c:Cl SE}(hc:c≠.un)(h:bI P d V 0 (.tmp t)=.one c):ct d t V.g=some (.one c):=by
 simp only[bI]at h;cases hg:ct d t V.g with
 |none=>rw[hg]at h;cases h;exact absurd rfl hc
 |some pv=>rw[hg]at h;simpa using h
theorem KW.ks{kk:yw→SS→ab}{nt:Nat}{CW:Nat→jG}(h:KW P C Q d E K ν nt kk CW):KS P C Q d E K ν nt (kk .normal) (fun N e σ=>CW N .normal e σ):=
 fun V' μ K' R' aG E' ah hf hs=>h .normal V' μ K' R' aG E' ah _ hf rfl hs
theorem LL{a:Code}{k:yw→SS→ab}{CW:Nat→jG}{H:SS}{n mm f:Nat}{ws:List (Nat×Nat×Nat)}{bad:SS→ab}{lv:Nat}(hKl:K.length=lv)(aW:oE P C Q self)(afF:∀W K ν,¬(bad W).sat P C Q K ν)
 (hK:K.length+1=H.lv)(hHn:H.n=n+mm)(hn:ν.length=n)(iU:KW P C Q d E K ν H.nt k CW):∀(m:Nat) {vs:List IV} {R:Rs} {φ:Ph} {E1:Nat→Env} {σ:St},J (aj P (ν++vs)) R φ H.g H.l E1 σ→vs.length=mm→(∀j,j<d→E1 j=E j)→(E1 d).n=(E d).n→(E d).n=H.nt→
  (atY (motive:=fun _=>List IV→Prop) (fun _=>False) (fun _ ih vs=>(self d f a H fun ex W=>match ex with
   |.normal=>match inst n mm H (settle ws W)with
    |some (args,_)=>.next lv (dO args)
    |none=>bad W
   |ex=>k ex W).sat P C Q (K++[ih]) (ν++vs)) m) vs→∃b,∀N,b≤N→nU P N rd m a (E1 d) df σ (CW N)
 |0,_,_,_,_,_,_,_,_,_,_,h=>h.elim
 |m+1,vs,R,φ,E1,σ,hJ,gR,hE,Pf,hE2,h=>by
  obtain⟨b,hb⟩:=aW d f a H _ (ν++vs) _ R φ E1 σ (fun N=>va N (fun e1 ai=>nU P N rd m a e1 df ai (CW N)) (CW N)) rd df h hJ (by rw[List.length_append,hn,gR,hHn]) (by simp[hK]) (by rw[Pf,hE2]) (by
   intro ex V' μ K' R' aG E' ah x hf hx hs
   have other:∀vj,vj≠.normal→XR P (ν++vs++μ) R' aG V'.l ah vj x→(k vj V').sat P C Q K' (ν++vs++μ)→∃b,∀N,b≤N→ah.n≤N∧va N (fun e1 ai=>nU P N rd m a e1 df ai (CW N)) (CW N) x (E' d) ah:=by
    intro vj aT hx hs;have ane:∀x,KW P C Q d E1 (K++[x]) (ν++vs) H.nt k CW:=fun x=>iU.fwd (au5 K [x]) hE Pf;obtain⟨b,hb⟩:=ane _ vj V' μ K' R' aG E' ah x hf hx hs;exact⟨b,fun N hN=>⟨(hb N hN).1,(hb N hN).1,fun h=>absurd h (hx.norm aT),fun _=>(hb N hN).2⟩⟩
   cases ex with
   |normal=>
    obtain rfl:=hx;simp only at hs;split at hs
    ·rename_i es dS hi;obtain⟨R2,eQ,xc,_⟩:=yW ws hf.hJ;obtain⟨us,p,h1,h2,h3⟩:=hs;obtain⟨hlen,tN⟩:=Kd (qc:=ν) eQ hn ⟨vs++μ,by rw[aq4]⟩ hi (G0 h1);obtain⟨t,ht⟩:=hf.hK;rw[←ht,aq4,aq_ (by omega),hKl,Nat.sub_self]at h2;simp only[List.singleton_append,asb,aqH]at h2;subst h2;obtain⟨b,hb⟩:=LL hKl aW afF hK hHn hn iU m tN hlen (fun j hj=>by rw[hf.hE j hj,hE j hj]) (by rw[hf.Iw,Pf]) hE2 h3;exact⟨max b ah.n,fun N hN=>⟨by omega,by omega,fun _=>hb N (by omega),fun h=>absurd rfl h⟩⟩
    ·exact(afF _ _ _ hs).elim
   |exit i=>exact other (.exit i) (by simp) hx hs
   |ret=>exact other .ret (by simp) hx hs
   |bU t pv=>exact other (.bU t pv) (by simp) hx hs)
  exact⟨b,fun N hN=>.succ (hb N hN)⟩
theorem LM{a:Code}{k:yw→SS→ab}{CW:Nat→jG}{f:Nat}(aW:oE P C Q self):∀(n:Nat) (V:SS) ν K R φ E σ,(JS self d f a k n V).sat P C Q K ν→J (aj P ν) R φ V.g V.l E σ→ν.length=V.n→K.length=V.lv→(E d).n=V.nt→KW P C Q d E K ν V.nt k CW→
 ∃b,∀N,b≤N→nU P N rd n a (E d) df σ (CW N)
 |0,_,_,_,_,_,_,_,hs,_,_,_,_,_=>hs.elim
 |n+1,V,ν,K,R,φ,E,σ,hs,hJ,hn,hK,cb,iU=>by
  obtain⟨b,hb⟩:=aW d f a V _ ν K R φ E σ (fun N=>va N (fun e1 ai=>nU P N rd n a e1 df ai (CW N)) (CW N)) rd df hs hJ hn hK cb (by
   intro ex V' μ K' R' aG E' ah x0 hf hx bf
   have other:∀vj,vj≠.normal→XR P (ν++μ) R' aG V'.l ah vj x0→(k vj V').sat P C Q K' (ν++μ)→∃b,∀N,b≤N→ah.n≤N∧va N (fun e1 ai=>nU P N rd n a e1 df ai (CW N)) (CW N) x0 (E' d) ah:=by
    intro vj aT hx hs;obtain⟨b,hb⟩:=iU vj V' μ K' R' aG E' ah x0 hf hx hs;exact⟨b,fun N hN=>⟨(hb N hN).1,(hb N hN).1,fun h=>absurd h (hx.norm aT),fun _=>(hb N hN).2⟩⟩
   cases ex with
   |normal=>
    obtain rfl:=hx
    obtain⟨b,hb⟩:=LM aW n V' (ν++μ) K' R' aG E' ah bf hf.hJ hf.hn hf.fK (by rw[hf.Iw,cb,hf.cb]) (by
     rw[hf.cb];exact iU.fwd hf.hK hf.hE hf.Iw)
    exact⟨max b ah.n,fun N hN=>⟨by omega,by omega,fun _=>hb N (by omega),fun h=>absurd rfl h⟩⟩
   |exit i=>exact other (.exit i) (by simp) hx bf
   |ret=>exact other .ret (by simp) hx bf
   |bU t pv=>exact other (.bU t pv) (by simp) hx bf)
  exact⟨b,fun N hN=>.succ (hb N hN)⟩
theorem KW.uniq{k:yw→SS→ab}{CW:Nat→jG}{nt:Nat}{Q':IV→Prop}(hq:∀z,Q' z→Q z)(h:KW P C Q d E K ν nt k CW):KW P C Q' d E (K.map fun _ _=>False) ν nt k CW:=by
 intro ex V' μ K' R' aG E' ah x hf hx hs;obtain⟨t,ht⟩:=hf.hK;refine h ex V' μ (K++t) R' aG E' ah x ⟨au5 K t,?_,hf.cb,hf.hJ,hf.hn,hf.hE,hf.Iw⟩ hx (ab.eu P _ hq ?_ hs)
 ·have:=hf.fK;rw[←ht]at this;simpa using this
 ·rw[←ht];exact(rR.no K).app (rR.refl t)
theorem RJ(eS:P.follows .mixedOrders=true)(hC:iP P C)(X1:∀Q,oE P C Q self):oE P C Q (m_ P cfg self):=by
 have aW:=X1 Q;intro d f c V k ν K R φ E σ CW rd df hs hJ hn hK cb iU;cases c with
 |skip=>
  obtain⟨b,hb⟩:=iU.now hJ hn hK (ex:=.normal) rfl hs;exact⟨b,fun N hN=>.skip (hb N hN).2⟩
 |label l=>
  obtain⟨b,hb⟩:=iU.now hJ hn hK (ex:=.normal) rfl hs;exact⟨b,fun N hN=>.label (hb N hN).2⟩
 |exit id=>
  obtain⟨b,hb⟩:=iU.now hJ hn hK (ex:=.exit id) rfl hs;exact⟨b,fun N hN=>.exit (hb N hN).2⟩
 |ret=>
  obtain⟨b,hb⟩:=iU.now hJ hn hK (ex:=.ret) rfl hs;exact⟨b,fun N hN=>.ret (hb N hN).2⟩
 |region id ops draw=>
  cases draw with
  |true=>
   simp only[m_,if_true]at hs;split at hs
   ·rename_i nC;exact aa0 (fn:=0) eS hC nC hs hJ hn hK cb iU.ks
   ·exact hs.elim
  |false=>
   simp only[m_,ara,if_false]at hs;obtain⟨b,hb⟩:=SU (CX:=CW) (rd:=rd) (df:=df) hC aW ops.toList [] V ν K R φ E σ (lR.nil _) hs hJ hn hK cb iU.ks iU.kp;exact⟨b,fun N hN=>.region (hb N hN)⟩
 |seq x y=>
  simp only[m_]at hs
  obtain⟨b,hb⟩:=aW d f x V _ ν K R φ E σ (fun N=>va N (fun e1 ai=>dz P N rd y e1 df ai (CW N)) (CW N)) rd df hs hJ hn hK cb (by
   intro ex V' μ K' R' aG E' ah x0 hf hx bf
   have other:∀vj,vj≠.normal→XR P (ν++μ) R' aG V'.l ah vj x0→(k vj V').sat P C Q K' (ν++μ)→∃b,∀N,b≤N→ah.n≤N∧va N (fun e1 ai=>dz P N rd y e1 df ai (CW N)) (CW N) x0 (E' d) ah:=by
    intro vj aT hx hs;obtain⟨b,hb⟩:=iU vj V' μ K' R' aG E' ah x0 hf hx hs;exact⟨b,fun N hN=>⟨(hb N hN).1,(hb N hN).1,fun h=>absurd h (hx.norm aT),fun _=>(hb N hN).2⟩⟩
   cases ex with
   |normal=>
    obtain rfl:=hx
    obtain⟨b,hb⟩:=aW d f y V' k (ν++μ) K' R' aG E' ah CW rd df bf hf.hJ hf.hn hf.fK (by rw[hf.Iw,cb,hf.cb]) (by
     rw[hf.cb];exact iU.fwd hf.hK hf.hE hf.Iw)
    exact⟨max b ah.n,fun N hN=>⟨by omega,by omega,fun _=>hb N (by omega),fun h=>absurd rfl h⟩⟩
   |exit i=>exact other (.exit i) (by simp) hx bf
   |ret=>exact other .ret (by simp) hx bf
   |bU t pv=>exact other (.bU t pv) (by simp) hx bf)
  exact⟨b,fun N hN=>.seq (hb N hN)⟩
 |cond c x y=>
  simp only[m_]at hs;have hc:=aZ hJ d 0 c;split at hs
  ·rename_i hh;rw[hh]at hc;obtain⟨u,h1,h2,_⟩:=hc;simp only[aj,SE.den,aqH]at h1;subst h1;obtain⟨b,hb⟩:=aW d f x V k ν K R φ E σ CW rd df hs hJ hn hK cb iU;exact⟨b,fun N hN=>.cond (bV h2) (by rw[if_pos rfl];exact hb N hN)⟩
  ·rename_i hh;rw[hh]at hc;obtain⟨u,h1,h2,_⟩:=hc;simp only[aj,SE.den,aqH]at h1;subst h1;obtain⟨b,hb⟩:=aW d f y V k ν K R φ E σ CW rd df hs hJ hn hK cb iU;exact⟨b,fun N hN=>.cond (bV h2) (by rw[if_neg (by simp)];exact hb N hN)⟩
  ·rename_i e _ _ hh;split at hs
   ·rename_i t;split at hs
    ·exact hs.elim
    ·have hg:=SV (by simp) hh;rcases hs with⟨h1,hs⟩|⟨h1,hs⟩
     ·obtain⟨aA,bz⟩:=J.refine hJ (.inl hg) h1;obtain⟨b,hb⟩:=aW d f x _ k ν K R φ E σ CW rd df hs bz hn hK cb iU;exact⟨b,fun N hN=>.cond (t:=true) aA (by rw[if_pos rfl];exact hb N hN)⟩
     ·obtain⟨aA,bz⟩:=J.refine hJ (.inl hg) h1;obtain⟨b,hb⟩:=aW d f y _ k ν K R φ E σ CW rd df hs bz hn hK cb iU;exact⟨b,fun N hN=>.cond (t:=false) aA (by rw[if_neg (by simp)];exact hb N hN)⟩
   ·exact hs.elim
  ·rename_i e hh;split at hs
   ·rename_i t;split at hs
    ·exact hs.elim
    ·have hg:=SV (by simp) hh;rcases hs with⟨h1,hs⟩|⟨h1,hs⟩
     ·obtain⟨aA,bz⟩:=J.refine hJ (.inr ⟨_,hg⟩) h1;obtain⟨b,hb⟩:=aW d f x _ k ν K R φ E σ CW rd df hs bz hn hK cb iU;exact⟨b,fun N hN=>.cond (t:=true) aA (by rw[if_pos rfl];exact hb N hN)⟩
     ·obtain⟨aA,bz⟩:=J.refine hJ (.inr ⟨_,hg⟩) h1;obtain⟨b,hb⟩:=aW d f y _ k ν K R φ E σ CW rd df hs bz hn hK cb iU;exact⟨b,fun N hN=>.cond (t:=false) aA (by rw[if_neg (by simp)];exact hb N hN)⟩
   ·exact hs.elim
  ·exact hs.elim
 |block id x=>
  simp only[m_]at hs
  obtain⟨b,hb⟩:=aW d f x V _ ν K R φ E σ (fun N ex e1 ai=>CW N (match ex with|.exit i=>if i=id then .normal else .exit i|ex=>ex) e1 ai) rd df hs hJ hn hK cb (by
   intro ex V' μ K' R' aG E' ah x0 hf hx bf;cases ex with
   |normal=>obtain rfl:=hx;exact iU .normal V' μ K' R' aG E' ah _ hf rfl bf
   |ret=>obtain rfl:=hx;exact iU .ret V' μ K' R' aG E' ah _ hf rfl bf
   |bU t pv=>obtain⟨v,rfl,hv⟩:=hx;exact iU (.bU t pv) V' μ K' R' aG E' ah _ hf ⟨v,rfl,hv⟩ bf
   |exit i=>
    obtain rfl:=hx;simp only at bf;split at bf
    ·rename_i hh;have:=aqO hh;subst this;simpa using iU .normal V' μ K' R' aG E' ah _ hf rfl bf
    ·rename_i hh;have aT:i≠id:=by rintro rfl;simp at hh
     simpa[aT]using iU (.exit i) V' μ K' R' aG E' ah _ hf rfl bf)
  exact⟨b,fun N hN=>.block (hb N hN)⟩
 |scope x=>
  simp only[m_]at hs
  obtain⟨b,hb⟩:=aW d f x V k ν K R φ E σ (fun N ex e1 ai=>(∀l,ex≠.goto l)∧CW N ex e1 ai) rd df hs hJ hn hK cb (by
   intro ex V' μ K' R' aG E' ah x0 hf hx bf;obtain⟨b,hb⟩:=iU ex V' μ K' R' aG E' ah x0 hf hx bf;exact⟨b,fun N hN=>⟨(hb N hN).1,hx.goto,(hb N hN).2⟩⟩)
  exact⟨b,fun N hN=>.scope (hb N hN)⟩
 |loop x=>
  simp only[m_]at hs;split at hs
  ·rename_i nn _;obtain⟨b,hb⟩:=LM (rd:=rd) (df:=df) aW nn V ν K R φ E σ hs hJ hn hK cb iU;exact⟨b,fun N hN=>.loop (hb N hN)⟩
  split at hs
  ·rename_i es dS hi
   obtain⟨Q',K0,hQ,hK,iU,aW,hs⟩:∃(Q':IV→Prop) (K0:List (List IV→Prop)),True∧K0.length=V.lv∧KW P C Q' d E K0 ν V.nt k CW∧oE P C Q' self∧(ab.loop (dO es) _).sat P C Q' K0 ν:=by
    split at hs
    ·obtain⟨z,hz,hs⟩:=hs;exact⟨_,_,trivial,by simpa using hK,iU.uniq (fun z' h=>by rw[show z'=z from h];exact hz),X1 _,hs⟩
    ·exact⟨Q,K,trivial,hK,iU,aW,hs⟩
   obtain⟨vs,h1,m,h2⟩:=hs;obtain⟨R2,eQ,xc,_⟩:=Pd _ hJ;obtain⟨hlen,tN⟩:=Kd (qc:=ν) eQ (by rw[xc];exact hn) ⟨[],by simp⟩ hi (G0 h1);obtain⟨b,hb⟩:=LL (rd:=rd) (df:=df) (CW:=CW) (E:=E) (bad:=fun W=>.bad _ _ _ _ _ _ _ W.g W.l) hK aW (fun _ _ _ h=>h) (by exact congrArg Nat.succ hK) (by rfl) (hn.trans xc.symm) (by exact iU) m tN hlen (fun _ _=>rfl) rfl (by exact cb) h2;exact⟨b,fun N hN=>.loop (hb N hN)⟩
  ·exact hs.elim
 |_=>exact hs.elim
theorem Pn(eS:P.follows .mixedOrders=true)(hC:iP P C):∀n Q,oE P C Q (exec P cfg n)
 |0,_=>fun _ _ _ _ _ _ _ _ _ _ _ _ _ _ hs _ _ _ _ _=>hs.elim
 |n+1,_=>RJ eS hC (Pn eS hC n)
theorem uf(eS:P.follows .mixedOrders=true)(hC:iP P C)(n:Nat):oE P C Q (exec P cfg n):=Pn eS hC n Q
end Go.Ev
namespace Go.Ev
variable{P:Program}{N:Nat}{σ ah:St}{R R':Rs}{φ aG:Ph}{E:Nat→Env}{ν:List IV}{ro:Nat}{ι:Io}{w:World}{cfg:bj}{self:mZ}
variable{C:Cr}{Q:IV→Prop}{K:List (List IV→Prop)}{V:SS}{d f0:Nat}{L:List (LO SE)}{Γ:Gm SE}{rd:Option Nat}{df:List Df}
theorem iY.vr1{V V1:SS}{R1:Rs}(h:iY P ν R φ V σ R1 V1){x:IV}{p:Bool×List (Cl SE)}(hx:sJ (aj P ν) R φ V.l σ x p):sJ (aj P ν) R1 φ V1.l σ x p:=by
 unfold sJ at hx⊢;split
 ·rename_i hp;rw[if_pos hp]at hx;obtain⟨xs,h1,h2⟩:=hx;exact⟨xs,h1,h2.mono fun _ _ bT=>h.Lf bT⟩
 ·rename_i hp;rw[if_neg hp]at hx;obtain⟨c,h1,h2⟩:=hx;exact⟨c,h1,h.Lf h2⟩
theorem SX:∀{vs:List (Bool×List (Cl SE))} {V V':SS} {R:Rs} {fr:Bool} {zs:List SE},J (aj P ν) R φ V.g V.l E σ→sN.Oj V vs=some (fr,zs,V')→
 ∃R',iY P ν R φ V σ R' V'∧J (aj P ν) R' φ V'.g V'.l E σ∧∀xs,All2 (sJ (aj P ν) R φ V.l σ) xs vs→∃ys,All2 (fun(z:SE) y=>z.den P ν=some y) zs ys∧All2 (aY fr R' σ) xs ys
 |[],V,V',R,fr,zs,h,hr=>by
  simp only[sN.Oj,aqH,aq6]at hr;obtain⟨rfl,rfl,rfl⟩:=hr;refine⟨R,.refl h,h,fun xs hx=>?_⟩;cases xs with
  |nil=>exact⟨[],trivial,trivial⟩
  |cons=>exact hx.elim
 |(a,cs)::vs,V,V',R,fr,zs,h,hr=>by
  simp only[sN.Oj]at hr;split at hr
  ·rename_i f1 z1 V1 h1;split at hr
   ·rename_i f2 ys2 V2 h2;obtain⟨R1,a1,a2,_,a3⟩:=ua h h1;obtain⟨R2,b1,b2,b3⟩:=SX a2 h2
    have key:∀z,(a=true→z=dO z1)→(a=false→z1=[z])→(f1||f2,z::ys2,V2)=(fr,zs,V')→∃R',iY P ν R φ V σ R' V'∧J (aj P ν) R' φ V'.g V'.l E σ∧∀xs,All2 (sJ (aj P ν) R φ V.l σ) xs ((a,cs)::vs)→∃ys,All2 (fun(z:SE) y=>z.den P ν=some y) zs ys∧All2 (aY fr R' σ) xs ys:=by
     intro z mA Ig he;simp only[aq6]at he;obtain⟨rfl,rfl,rfl⟩:=he;refine⟨R2,a1.trans b1,b2,fun xs hx=>?_⟩;cases xs with
     |nil=>exact hx.elim
     |cons x xs=>
      obtain⟨ys,d1,d2⟩:=b3 xs (hx.2.mono fun _ _ bT=>a1.vr1 bT);have xZ:=hx.1;unfold sJ at xZ;cases a with
      |true=>
       simp only[if_true]at xZ;obtain⟨us,rfl,h5⟩:=xZ;obtain⟨ws,e1,e2,_⟩:=a3 us h5;refine⟨.agg ws::ys,⟨by rw[mA rfl];exact ew e1,d1⟩,⟨?_,d2.mono fun _ _ bT=>bT.wide (fun h=>by simp[h])⟩⟩;exact .agg us ws e2.len fun i c e g1 g2=>((e2.get g1 g2).mono b1.2.2.2.grow).wide (fun h=>by simp[h])
      |false=>
       simp only[ara,if_false]at xZ;obtain⟨c,hc,h5⟩:=xZ;obtain⟨ws,e1,e2,_⟩:=a3 [x] (by rw[hc];exact⟨h5,trivial⟩);rw[Ig rfl]at e1;cases ws with
       |nil=>exact e1.elim
       |cons y ws=>
        exact⟨y::ys,⟨e1.1,d1⟩,⟨(e2.1.mono b1.2.2.2.grow).wide (fun h=>by simp[h]),d2.mono fun _ _ bT=>bT.wide (fun h=>by simp[h])⟩⟩
    cases a with
    |true=>
     simp only[aqH]at hr;exact key _ (fun _=>rfl) (fun h=>by cases h) hr
    |false=>
     split at hr<;>first|(cases hr;done)|skip
     ·exact absurd ‹false=true› (by simp)
     ·simp only[aqH]at hr;exact key _ (fun h=>by cases h) (fun _=>rfl) hr
   ·cases hr
  ·cases hr
theorem Po{V':SS}{pv:PV SE}{fr:Bool}{z:SE}(h:J (aj P ν) R φ V.g V.l E σ)(hr:sN V pv=some (fr,z,V')){x:IV}(hx:VR (aj P ν) R φ V.l σ x pv):
 ∃R' y,z.den P ν=some y∧aY fr R' σ x y:=by
 cases pv with
 |one c=>
  obtain⟨R',_,_,h3⟩:=Ka h hr (fun _ h=>by cases h);obtain⟨y,h4,h5⟩:=h3 x hx;exact⟨R',y,h4,h5⟩
 |ag cs=>
  obtain⟨R',_,_,h3⟩:=Ka h hr (fun _ h=>by cases h);obtain⟨y,h4,h5⟩:=h3 x hx;exact⟨R',y,h4,h5⟩
 |tu vs=>
  simp only[sN]at hr;split at hr
  ·rename_i f zs V1 qa;simp only[aqH,aq6]at hr;obtain⟨rfl,rfl,rfl⟩:=hr;obtain⟨R',_,_,h3⟩:=SX h qa;obtain⟨xs,rfl,vH⟩:=hx;obtain⟨ys,a,b⟩:=h3 xs vH;exact⟨R',.av ys,by simp[SE.den,ew a],.av xs ys b.len fun i c e h1 h2=>b.get h1 h2⟩
  ·cases hr
theorem vl{args:List IV}{f:ab}(hp:∀v∈args,Pure v):∀{ts:List TypeId} {j:Nat},(oV P j ts f).sat P C Q K args→j+ts.length=args.length→f.sat P C Q K args∧All2 (VR (aj P args) R φ L σ) (args.drop j) (dj P j ts)
 |[],j,hs,hl=>by
  simp at hl;rw[aro (by omega)];exact⟨hs,trivial⟩
 |t::ts,j,hs,hl=>by
  simp at hl;have hj:j<args.length:=by omega
  have hd:(SE.var j).den P args=some args[j]:=by simp[SE.den,hj]
  obtain⟨h1,h2,_⟩:=DT (R:=R) (φ:=φ) (L:=L) (σ:=σ) hd (hp _ (List.getElem_mem hj)) hs;obtain⟨h4,h5⟩:=vl hp h1 (by omega);refine⟨h4,?_⟩;rw[arj hj];exact⟨h2,h5⟩
theorem IH{x z:IV}{fr:Bool}(h:aw z=true)(hc:aY fr R σ x z):aY false R σ x z:=by
 cases z<;>simp only[aw]at h<;>first|(cases h;done)|skip
 rw[bV hc];exact .raw _
theorem eV.nj(eS:P.follows .mixedOrders=true)(hC:iP P C){n:Nat}{new:Bool}{f:FuncId}{cB:ab}{args:List IV}{z:IV}(he:aI P cfg n new f=cB)(hl:(P.funcs[f]?).map (·.params.size)=some args.length)(hp:∀x∈args,Pure x)
 (hs:cB.sat P C (·=z) [] args):eV P false new f args z:=by
 subst he;unfold aI at hs;split at hs<;>first|(exact hs.elim)|skip
 rename_i fn bO;split at hs<;>first|(exact hs.elim)|skip
 rename_i c hb;split at hs<;>first|(exact hs.elim)|skip
 rename_i hle;have Jo:fn.params.size≤fn.ntmps:=by simpa using hle
 rw[bO]at hl;simp only[aq9,aqH]at hl;obtain⟨hs,bp⟩:=vl (R:=fun _=>none) (φ:=fun _=>none) (L:=[]) (σ:=⟨0,.lf⟩) hp hs (by simpa using hl);have hlen:args.length≤fn.ntmps:=by omega
 have hJ:J (aj P args) (fun _=>none) (fun _=>none) (setArgs 0 0 (dj P 0 fn.params.toList)) [] (fun _=>cE args fn.ntmps) ⟨0,.lf⟩:=by
  refine⟨fun d t pv hg=>?_,fun k ob h=>(by simp at h),fun k k' id h=>(by cases h),fun k id h=>(by cases h),fun id m h=>(by cases h),fun id m cs au mn h=>(by cases h),T.WF.lf,fun id _=>rfl⟩;obtain⟨rfl,_,h3⟩:=fm (α:=IV) hg;rw[asX]at bp;have ht:t<args.length:=by rw[bp.len];have:=(aqF.1 h3).1;simpa using this
  show VR _ _ _ _ _ ((cE args fn.ntmps).at t) pv;rw[(cL hlen).2 ht,aqE ht];exact bp.get (aqE ht) (by simpa using h3)
 obtain⟨b,np⟩:=uf eS hC n 0 f c ⟨setArgs 0 0 (dj P 0 fn.params.toList),[],fn.params.size,0,fn.ntmps⟩ _ args [] _ _ _ _
  (fun N ex e1 ai=>(ex=.normal∨ex=.ret)∧ai.n≤N∧∃v,bE P fn e1 ai=some v∧Can (!new) ai v z) none [] hs hJ hl.symm rfl (cL (t:=0) hlen).1 (by
   intro ex V' μ K' R' aG E' ah x0 hf ie bf
   have main:∀jg,kY P 0 V' fn.results.toList=some jg→(match sN V' (Du jg)with|some (fr,z,_)=>ab.ret (if new&&fr then .rw z else z)|none=>.fail 142).sat P C (·=z) K' (args++μ)→∃b,∀N,b≤N→ah.n≤N∧ah.n≤N∧∃v,bE P fn (E' 0) ah=some v∧Can (!new) ah v z:=by
    intro jg hr dE;obtain⟨vs,h1,h2⟩:=lh hf.hJ hr;have hv:=Kb h2;split at dE<;>first|(exact dE.elim)|skip
    rename_i fr e _ jq;obtain⟨R2,y,h3,h4⟩:=Po hf.hJ jq hv;obtain⟨z',h5,rfl⟩:=dE;refine⟨ah.n,fun N hN=>⟨hN,hN,DX vs,j9 h1,?_⟩⟩;cases new with
    |false=>
     simp only[Bool.false_and,ara,if_false]at h5;rw[h3]at h5;cases h5;exact h4.cC.can
    |true=>
     cases fr with
     |false=>
      simp only[Bool.and_false,ara,if_false]at h5;rw[h3]at h5;cases h5;exact h4.can
     |true=>
      simp only[Bool.and_self,if_true,SE.den,h3,aqN]at h5;split at h5
      ·rename_i dJ;cases h5;exact(IH dJ h4).can
      ·cases h5
   cases ex with
   |exit i=>exact bf.elim
   |bU t pv=>exact bf.elim
   |normal=>
    obtain rfl:=ie;simp only at bf;split at bf
    ·rename_i jg hr;obtain⟨b,hb⟩:=main jg hr bf;exact⟨b,fun N hN=>⟨(hb N hN).1,.inl rfl,(hb N hN).2⟩⟩
    ·exact bf.elim
   |ret=>
    obtain rfl:=ie;simp only at bf;split at bf
    ·rename_i jg hr;obtain⟨b,hb⟩:=main jg hr bf;exact⟨b,fun N hN=>⟨(hb N hN).1,.inr rfl,(hb N hN).2⟩⟩
    ·exact bf.elim)
 exact eV.Cp (dF.body (RW:=fun v ai=>Can (!new) ai v z) bO hb hlen (np b (aqK _))) fun v ah h=>h
end Go.Ev
namespace Go.Ev
section run
variable(P:Program)(cfg:bj)
def wO(n s:Nat)(f:FuncId):ab:=
 match P.funcs[f]? with
 |some fn=>match fn.body,fn.params.toList with
  |some c,_::ts=>
   if arE fn.params.size fn.ntmps then
    oV P 1 ts<|exec P cfg n 0 f c ⟨setArgs 0 0 (.one (.sr 0)::dj P 1 ts),[.row s false false true (.var 0)],fn.params.size,0,fn.ntmps⟩ fun ex V=>match ex with
     |.exit _=>.fail 141
     |.bU _ _=>.fail 146
     |_=>match kY P 0 V fn.results.toList with
      |some [.one (.sr k)]=>match V.l[k]? with
       |some (.row s' false false fr z)=>if aqP s s' then .ret (if fr then .rws z else z)else .fail 146
       |_=>.fail 147
      |_=>.fail 148
   else .fail 143
  |_,_=>.fail 144
 |none=>.fail 145
end run
variable{P:Program}{N:Nat}{σ ah:St}{R R':Rs}{φ aG:Ph}{E:Nat→Env}{ν:List IV}{cfg:bj}{self:mZ}
variable{C:Cr}{Q:IV→Prop}{K:List (List IV→Prop)}{V:SS}{d f0:Nat}{L:List (LO SE)}{Γ:Gm SE}
theorem II{xs args:List IV}{x z:IV}{f:ab}(hp:All2 il args xs):∀{ts:List TypeId} {j:Nat},(oV P (j+1) ts f).sat P C Q K (z::xs)→j+ts.length=xs.length→f.sat P C Q K (z::xs)∧All2 (VR (aj P (z::xs)) R φ L σ) (args.drop j) (dj P (j+1) ts)
 |[],j,hs,hl=>by
  simp at hl;rw[aro (by have:=hp.len;omega)];exact⟨hs,trivial⟩
 |t::ts,j,hs,hl=>by
  simp at hl;have hj:j<xs.length:=by omega
  have fJ:j<args.length:=by have:=hp.len;omega
  have hd:(SE.var (j+1)).den P (z::xs)=some xs[j]:=by simp[SE.den,hj]
  obtain⟨h1,h2⟩:=BI (R:=R) (φ:=φ) (L:=L) (σ:=σ) hd (hp.get (aqE fJ) (aqE hj)) hs;obtain⟨h4,h5⟩:=II (x:=x) hp h1 (by omega);refine⟨h4,?_⟩;rw[arj fJ];exact⟨h2,h5⟩
theorem BA.nj(eS:P.follows .mixedOrders=true)(hC:iP P C){n s:Nat}{f:FuncId}{cB:ab}{es aB xs:List IV}(he:wO P cfg n s f=cB)(hl:(P.funcs[f]?).map (·.params.size)=some (xs.length+1))
 (hs:cB.sat P C (·=.tree s aB) [] (.tree s es::xs)):BA P s f es xs aB:=by
 subst he;unfold wO at hs;split at hs<;>first|(exact hs.elim)|skip
 rename_i fn bO;split at hs<;>first|(exact hs.elim)|skip
 rename_i c t0 ts hb qd;split at hs<;>first|(exact hs.elim)|skip
 rename_i hle;have Jo:fn.params.size≤fn.ntmps:=by simpa using hle
 rw[bO]at hl;simp only[aq9,aqH]at hl
 have aL:ts.length=xs.length:=by
  have:fn.params.toList.length=fn.params.size:=by simp
  rw[qd]at this;simp at this;omega
 intro R φ E σ x args j8 hX0 bc KW O4;have LI:args.length=xs.length:=bc.len;obtain⟨bA,iA,k1,k2,k3⟩:=j8.obj 0 _ rfl;have LB:some (IV.tree s es)=some (.tree s iA):=k1;cases LB;obtain⟨dw,bp⟩:=II (x:=x) (j:=0) (R:=R) (φ:=φ) (L:=[.row s false false true (.var 0)]) (σ:=σ) bc hs (by omega);rw[asX]at bp;have hZ:(SE.var 0).den P (.tree s es::xs)=some (.tree s es):=by simp[SE.den]
 have hX:cz (aj P (.tree s es::xs)) R φ [.row s false false true (.var 0)] σ x (.sr 0):=by
  obtain⟨s1,rS,ry,rT,z1,eP,b1,b2,b3⟩:=hX0;have vN:some (LO.row s false false false ())=some (.row s1 rS ry rT z1):=b1;cases vN;have pc:some (IV.tree s es)=some (.tree s eP):=b2;cases pc;exact⟨s,false,false,true,.var 0,es,rfl,hZ,b3⟩
 have yX:All2 (VR (aj P (.tree s es::xs)) R φ [.row s false false true (.var 0)] σ) (x::args) (.one (.sr 0)::dj P 1 ts):=⟨hX,bp⟩;have hlen:(x::args).length≤fn.ntmps:=by simp;omega
 have hJ:J (aj P (.tree s es::xs)) R φ (setArgs 0 0 (.one (.sr 0)::dj P 1 ts)) [.row s false false true (.var 0)] (fun _=>cE (x::args) fn.ntmps) σ:=by
  refine⟨fun d t pv hg=>?_,fun j ob hj=>?_,j8.inj,fun j id hj=>?_,j8.p6,j8.fits,j8.wf,j8.top⟩
  ·obtain⟨rfl,_,h3⟩:=fm (α:=IV) hg;have ht:t<(x::args).length:=by rw[yX.len];have:=(aqF.1 h3).1;simpa using this
   show VR _ _ _ _ _ ((cE (x::args) fn.ntmps).at t) pv;rw[(cL hlen).2 ht,aqE ht];exact yX.get (aqE ht) (by simpa using h3)
  ·cases j with
   |succ j=>simp at hj
   |zero=>
    simp at hj;subst hj;refine⟨bA,es,hZ,k2,?_⟩;rcases k3 with⟨a,b⟩|⟨id,cs,au,mn,a1,a2,a3,a4,a5,a6,a7⟩
    ·exact .inl ⟨a,b⟩
    ·exact .inr ⟨id,cs,au,mn,a1,a2,a3,a4,a5,a6,fun q u v hu hv=>(a7 q u v hu hv).wide (fun h=>by cases h)⟩
  ·have:=j8.lt j id hj;simpa using this
 obtain⟨b,np⟩:=uf eS hC n 0 f c ⟨setArgs 0 0 (.one (.sr 0)::dj P 1 ts),[.row s false false true (.var 0)],fn.params.size,0,fn.ntmps⟩ _ (.tree s es::xs) [] _ _ _ _
  (fun N ex e1 ai=>(ex=.normal∨ex=.ret)∧ai.n≤N∧∃v,bE P fn e1 ai=some v∧KW N v ai) none [] dw hJ (by simp;omega) rfl (cL (t:=0) hlen).1 (by
   intro ex V' μ K' R' aG E' ah x0 hf ie bf
   have main:(match kY P 0 V' fn.results.toList with
    |some [.one (.sr k)]=>match V'.l[k]? with
     |some (.row s' false false fr z)=>if aqP s s' then ab.ret (if fr then .rws z else z)else .fail 146
     |_=>.fail 147
    |_=>.fail 148).sat P C (·=IV.tree s aB) K' (IV.tree s es::xs++μ)→∃b,∀N,b≤N→ah.n≤N∧ah.n≤N∧∃v,bE P fn (E' 0) ah=some v∧KW N v ah:=by
    intro dE;split at dE<;>first|(exact dE.elim)|skip
    rename_i k hr;obtain⟨vs,h1,h2⟩:=lh hf.hJ hr;split at dE<;>first|(exact dE.elim)|skip
    rename_i s' fr z hk;split at dE<;>first|(exact dE.elim)|skip
    rename_i ic;have ue:=aqO ic;subst ue;obtain⟨z',h5,rfl⟩:=dE;obtain⟨v,rfl,hv⟩:=kD h2;have ej:bE P fn (E' 0) ah=some v:=j9 h1;obtain⟨m0,F9,m1,m2,m3⟩:=hf.hJ.obj k _ hk;have IJ:z.den P (IV.tree s es::xs++μ)=some (.tree s F9):=m1
    have tI:F9=aB∧(fr=true→∀e∈F9,∀c∈cellsOf e,aw c=true):=by
     cases fr with
     |false=>
      simp only[ara,if_false]at h5;rw[IJ]at h5;cases h5;exact⟨rfl,fun h=>by cases h⟩
     |true=>
      simp only[if_true]at h5;obtain⟨s1,eP,c1,c2,c3⟩:=Fl h5;rw[IJ]at c1;cases c1;cases c2;exact⟨rfl,fun _=>c3⟩
    obtain⟨rfl,dJ⟩:=tI
    have anf:∀{u w:IV} {q:Nat},(flat F9)[q]?=some w→aY fr R' ah u w→aY false R' ah u w:=by
     intro u w q hw hc;cases fr with
     |false=>exact hc
     |true=>
      obtain⟨e,he,qx⟩:=List.mem_flatMap.1 (aqS hw);exact IH (dJ rfl e he w qx) hc
    obtain⟨b,hb⟩:=O4 R' (fun j=>if j=0 then aG k else none) ah v (by
     refine⟨fun d t pv hg=>(by cases hg),fun j ob hj=>?_,fun j j' id h1 h2=>?_,fun j id hj=>?_,hf.hJ.p6,hf.hJ.fits,hf.hJ.wf,hf.hJ.top⟩
     ·cases j with
      |succ j=>simp at hj
      |zero=>
       simp at hj;subst hj;refine⟨m0,F9,rfl,m2,?_⟩;rcases m3 with⟨a,b⟩|⟨id,cs,au,mn,a1,a2,a3,a4,a5,a6,a7⟩
       ·exact .inl ⟨by simp[a],b⟩
       ·exact .inr ⟨id,cs,au,mn,by simp[a1],a2,a3,a4,a5,a6,fun q u w hu hw=>anf hw (a7 q u w hu hw)⟩
     ·split at h1<;>first|(cases h1;done)|skip
      split at h2<;>first|(cases h2;done)|skip
      omega
     ·split at hj<;>first|(cases hj;done)|skip
      rename_i XL;subst XL;exact⟨by simp,(hf.hJ.lt k id hj).2⟩) (by
     obtain⟨s1,rS,ry,rT,z1,eP,b1,b2,b3⟩:=hv;rw[hk]at b1;cases b1;have pc:z.den P (IV.tree s es::xs++μ)=some (.tree s eP):=b2;rw[IJ]at pc;cases pc;refine⟨s,false,false,false,(),F9,rfl,rfl,?_⟩;rcases b3 with⟨c1,c2,c3⟩|⟨id,cs,au,mn,cap,c1,c2,c3,c4,c5,c6⟩
     ·exact .inl ⟨by simp[c1],c2,c3⟩
     ·exact .inr ⟨id,cs,au,mn,cap,by simp[c1],c2,c3,c4,c5,c6⟩)
    exact⟨max b ah.n,fun N hN=>⟨by omega,by omega,v,ej,hb N (by omega)⟩⟩
   cases ex with
   |exit i=>exact bf.elim
   |bU t pv=>exact bf.elim
   |normal=>
    obtain rfl:=ie;obtain⟨b,hb⟩:=main bf;exact⟨b,fun N hN=>⟨(hb N hN).1,.inl rfl,(hb N hN).2⟩⟩
   |ret=>
    obtain rfl:=ie;obtain⟨b,hb⟩:=main bf;exact⟨b,fun N hN=>⟨(hb N hN).1,.inr rfl,(hb N hN).2⟩⟩)
 exact⟨b,fun N hN=>dF.body (RW:=KW N) bO hb hlen (np N hN)⟩
end Go.Ev
namespace Go.Ev
def Kg:List Nat→Nat
 |[]=>0
 |n::ns=>n+Kg ns
def lG:Nat→List Nat→List (LO SE)
 |_,[]=>[]
 |j,n::ns=>.var ((List.range n).map fun q=>.v (.var (j+q)))::lG (j+n) ns
def jO:Nat→List Nat→List (PV SE)
 |_,[]=>[]
 |k,n::ns=>.one (.pt k 0 n)::jO (k+1) ns
def Ai(V:SS):Nat→List Nat→Option (List SE)
 |_,[]=>some []
 |k,n::ns=>match V.l[k]?,ct 0 k V.g with
  |some (.var ds),some (.one (.pt k' 0 n'))=>if aqP k' k&&aqP n' n&&aqP ds.length n then(match ET ds,Ai V (k+1) ns with
    |some es,some r=>some (dO es::r)
    |_,_=>none)else none
  |_,_=>none
section run
variable(P:Program)(cfg:bj)
def wP(n:Nat)(ns:List Nat)(f:FuncId):ab:=
 match P.funcs[f]? with
 |some fn=>match fn.body with
  |some c=>
   if arE fn.params.size fn.ntmps&&arE ns.length fn.params.size then
    oV P (Kg ns) (fn.params.toList.drop ns.length)<|exec P cfg n 1 f c
     ⟨setArgs 1 0 (jO 0 ns++dj P (Kg ns) (fn.params.toList.drop ns.length))++setArgs 0 0 (jO 0 ns),lG 0 ns,Kg ns+(fn.params.size- ns.length),0,fn.ntmps⟩ fun ex V=>match ex with
     |.exit _=>.fail 151
     |.bU _ _=>.fail 146
     |_=>match kY P 1 V fn.results.toList with
      |some c8=>match sN V (Du c8),Ai V 0 ns with
       |some (_,z,_),some os=>.ret (.tp (.ac (.rw z) (dO os)))
       |_,_=>.fail 152
      |none=>.fail 153
   else .fail 154
  |none=>.fail 155
 |none=>.fail 156
end run
variable{P:Program}{N:Nat}{σ ah:St}{R R':Rs}{φ aG:Ph}{E:Nat→Env}{ν:List IV}{cfg:bj}
variable{C:Cr}{Q:IV→Prop}{K:List (List IV→Prop)}{V:SS}{L:List (LO SE)}
theorem LN:∀{ns:List Nat} {k:Nat} {os:List SE},Ai V k ns=some os→os.length=ns.length∧∀(i n:Nat),ns[i]?=some n→
 ∃es:List SE,V.l[k+i]?=some (.var (es.map .v))∧ct 0 (k+i) V.g=some (.one (.pt (k+i) 0 n))∧es.length=n∧os[i]?=some (dO es)
 |[],k,os,h=>by
  simp only[Ai,aqH]at h;subst h;exact⟨rfl,fun i n hi=>by simp at hi⟩
 |m::ns,k,os,h=>by
  simp only[Ai]at h;split at h<;>first|(cases h;done)|skip
  rename_i ds k' n' hk hg;split at h<;>first|(cases h;done)|skip
  rename_i hc;simp only[aqG]at hc;have e1:=aqO hc.1.1;have e2:=aqO hc.1.2;have e3:=aqO hc.2;subst e1 e2;split at h<;>first|(cases h;done)|skip
  rename_i es r gl hr;simp only[aqH]at h;subst h;have Iq:=GW gl;subst Iq;obtain⟨h1,h2⟩:=LN hr;refine⟨by simp[h1],fun i n hi=>?_⟩;cases i with
  |zero=>
   simp at hi;subst hi;exact⟨es,hk,hg,by simpa using e3,rfl⟩
  |succ i=>
   obtain⟨aB,a1,a2,a3,a4⟩:=h2 i n (by simpa using hi);have:k'+1+i=k'+(i+1):=by omega
   rw[this]at a1 a2;exact⟨aB,a1,a2,a3,by simpa using a4⟩
theorem IK:∀{ns:List Nat} {k i:Nat} {pv:PV SE},(jO k ns)[i]?=some pv→∃n,ns[i]?=some n∧pv=.one (.pt (k+i) 0 n)
 |[],k,i,pv,h=>by simp[jO]at h
 |n::ns,k,0,pv,h=>by
  simp[jO]at h;exact⟨n,rfl,by simp[h]⟩
 |n::ns,k,i+1,pv,h=>by
  simp only[jO,asZ]at h;obtain⟨m,h1,h2⟩:=IK h;exact⟨m,by simpa using h1,by rw[h2];congr 2;omega⟩
theorem BK:∀{ns:List Nat} {k:Nat},(jO k ns).length=ns.length
 |[],_=>rfl
 |_::ns,k=>by simp[jO,BK (ns:=ns)]
theorem Pp:∀ins:List (List IV),Kg (ins.map ari)=ins.flatten.length
 |[]=>rfl
 |c::ins=>by simp[Kg,Pp ins]
theorem IL:∀{ins:List (List IV)} {pre post:List IV} {i:Nat} {o:LO SE},(lG pre.length (ins.map ari))[i]?=some o→
 ∃(cs:List IV) (ds:List (Cl SE)),ins[i]?=some cs∧o=.var ds∧wN (aj P (pre++ins.flatten++post)) ds cs
 |[],pre,post,i,o,h=>by simp[lG]at h
 |c::ins,pre,post,0,o,h=>by
  simp only[arC,lG,asb,aqH]at h;refine⟨c,_,rfl,h.symm,.mk (by simp) fun q d u hd hu=>?_⟩;have hq:=(aqF.1 hu).1;rw[aqU,List.getElem?_range hq]at hd;simp only[aq9,aqH]at hd;subst hd;refine⟨_,rfl,?_⟩;show(SE.var _).den P _=_;simp only[SE.den];rw[aq4,aq_ (by omega),List.flatten_cons,aq4,aqQ (by omega)];rw[show pre.length+q- pre.length=q by omega];exact hu
 |c::ins,pre,post,i+1,o,h=>by
  simp only[arC,lG,asZ]at h;have hl:pre.length+c.length=(pre++c).length:=by simp
  rw[hl]at h;obtain⟨cs,ds,h1,h2,h3⟩:=IL (pre:=pre++c) (post:=post) h;refine⟨cs,ds,by simpa using h1,h2,?_⟩;have:pre++c++ins.flatten++post=pre++(c::ins).flatten++post:=by simp
  rw[←this];exact h3
theorem G1{α:Type}{d t:Nat}{pv:PV α}:∀{a b:List (Nat×Nat×PV α)},ct d t (a++b)=some pv→ct d t a=some pv∨ct d t b=some pv
 |[],b,h=>.inr h
 |(d',t',p)::a,b,h=>by
  simp only[List.cons_append,ct]at h⊢;split at h
  ·rename_i hc;rw[if_pos hc];exact .inl h
  ·rename_i hc;rw[if_neg hc];exact G1 h
theorem BL{xs args pre:List IV}{f:ab}(hp:All2 il args xs):∀{ts:List TypeId} {j:Nat},(oV P (pre.length+j) ts f).sat P C Q K (pre++xs)→j+ts.length=xs.length→f.sat P C Q K (pre++xs)∧All2 (VR (aj P (pre++xs)) R φ L σ) (args.drop j) (dj P (pre.length+j) ts)
 |[],j,hs,hl=>by
  simp at hl;rw[aro (by have:=hp.len;omega)];exact⟨hs,trivial⟩
 |t::ts,j,hs,hl=>by
  simp at hl;have hj:j<xs.length:=by omega
  have fJ:j<args.length:=by have:=hp.len;omega
  have hd:(SE.var (pre.length+j)).den P (pre++xs)=some xs[j]:=by simp[SE.den,hj]
  obtain⟨h1,h2⟩:=BI (R:=R) (φ:=φ) (L:=L) (σ:=σ) hd (hp.get (aqE fJ) (aqE hj)) hs;obtain⟨h4,h5⟩:=BL (j:=j+1) hp h1 (by omega);refine⟨h4,?_⟩;rw[arj fJ];exact⟨h2,h5⟩
end Go.Ev
namespace Go.Ev
variable{P:Program}{N:Nat}{σ ah:St}{R R':Rs}{φ aG:Ph}{E:Nat→Env}{ν:List IV}{cfg:bj}
variable{C:Cr}{Q:IV→Prop}{K:List (List IV→Prop)}{V:SS}{L:List (LO SE)}
theorem wy:∀{ns:List Nat} {j:Nat},(lG j ns).length=ns.length
 |[],_=>rfl
 |_::ns,j=>by simp[lG,wy (ns:=ns)]
theorem RL{x z:IV}{fr:Bool}(h:aw z=true)(hc:aY fr R σ x z):il x z:=by
 cases z<;>simp only[aw]at h<;>first|(cases h;done)|skip
 rw[bV hc];exact .raw _
theorem Pq{ins:List (List IV)}{ps:List IV}{ev:SE→Option IV}(hP:DP φ ins ps)(hL:∀(i:Nat) (cs:List IV),ins[i]?=some cs→∃ds:List (Cl SE),L[i]?=some (LO.var ds)):
 All2 (VR ev R φ L σ) ps (jO 0 (ins.map ari)):=by
 refine .mk (by rw[BK,ar8,hP.1]) fun i p pv hp p8=>?_;obtain⟨n,h1,rfl⟩:=IK p8;rw[aqU]at h1;obtain⟨cs,bC,rfl⟩:=aqL.1 h1;obtain⟨id,h2,rfl⟩:=hP.2 i cs p bC hp;obtain⟨ds,Iq⟩:=hL i cs bC;rw[ar4];exact⟨id,ds,h2,Iq,rfl⟩
theorem BC.nj(eS:P.follows .mixedOrders=true)(hC:iP P C){n:Nat}{f:FuncId}{cB:ab}{ins outs:List (List IV)}{xs:List IV}{z:IV}(he:wP P cfg n (ins.map ari) f=cB)
 (hl:(P.funcs[f]?).map (·.params.size)=some (ins.length+xs.length))(hs:cB.sat P C (·=.av (z::outs.map .agg)) [] (ins.flatten++xs)):BC P f ins xs outs z:=by
 subst he;unfold wP at hs;split at hs<;>first|(exact hs.elim)|skip
 rename_i fn bO;split at hs<;>first|(exact hs.elim)|skip
 rename_i c hb;split at hs<;>first|(exact hs.elim)|skip
 rename_i hle;simp only[aqG]at hle;have GD:fn.params.size≤fn.ntmps:=by simpa using hle.1
 rw[bO]at hl;simp only[aq9,aqH]at hl;have HA:(ins.map ari).length=ins.length:=by simp
 have ang:=Pp ins;intro R φ E σ ps args j8 hP bc KW O4;have LI:args.length=xs.length:=bc.len;have htl:(fn.params.toList.drop (ins.map ari).length).length=xs.length:=by simp;omega
 have nC:ps.length=ins.length:=hP.1;rw[ang]at hs
 have hLV:∀(i:Nat) (cs:List IV),ins[i]?=some cs→∃ds:List (Cl SE),(lG 0 (ins.map ari))[i]?=some (LO.var ds)∧wN (aj P (ins.flatten++xs)) ds cs:=fun i cs hi=>by
  have aa:=(aqF.1 hi).1;have fR:i<(lG 0 (ins.map ari)).length:=by rw[wy];simpa using aa
  have hg:=aqE fR;obtain⟨cq,ds,h1,h2,h3⟩:=IL (P:=P) (pre:=[]) (post:=xs) hg;rw[hi]at h1;cases h1;exact⟨ds,by rw[hg,h2],by simpa using h3⟩
 obtain⟨dw,bp⟩:=BL (j:=0) (pre:=ins.flatten) (R:=R) (φ:=φ) (L:=lG 0 (ins.map ari)) (σ:=σ) bc (by rw[awb];exact hs) (by rw[ar4];exact htl);rw[asX,awb]at bp
 have yX:All2 (VR (aj P (ins.flatten++xs)) R φ (lG 0 (ins.map ari)) σ) (ps++args) (jO 0 (ins.map ari)++dj P ins.flatten.length (fn.params.toList.drop (ins.map ari).length)):=
  All2.app (Pq hP fun i cs hi=>by obtain⟨ds,h1,_⟩:=hLV i cs hi;exact⟨ds,h1⟩) bp
 have hlen:(ps++args).length≤fn.ntmps:=by simp;omega
 let E1:Nat→Env:=fun j=>if j=0 then cE ps ps.length else cE (ps++args) fn.ntmps
 have hJ:J (aj P (ins.flatten++xs)) R φ (setArgs 1 0 (jO 0 (ins.map ari)++dj P ins.flatten.length (fn.params.toList.drop (ins.map ari).length))++setArgs 0 0 (jO 0 (ins.map ari))) (lG 0 (ins.map ari)) E1 σ:=by
  refine⟨fun d t pv hg=>?_,fun j ob hj=>?_,j8.inj,fun j id hj=>?_,j8.p6,j8.fits,j8.wf,j8.top⟩
  ·rcases G1 hg with hg|hg
   ·obtain⟨rfl,_,h3⟩:=fm (α:=IV) hg;have ht:t<(ps++args).length:=by rw[yX.len];have:=(aqF.1 h3).1;simpa using this
    show VR _ _ _ _ _ ((cE (ps++args) fn.ntmps).at t) pv;rw[(cL hlen).2 ht,aqE ht];exact yX.get (aqE ht) (by simpa using h3)
   ·obtain⟨rfl,_,h3⟩:=fm (α:=IV) hg;have Ib:(jO 0 (ins.map ari))[t]?=some pv:=by simpa using h3
    have ht:t<ps.length:=by have:=(aqF.1 Ib).1;rw[BK]at this;simp at this;omega
    show VR _ _ _ _ _ ((cE ps ps.length).at t) pv;rw[(cL (aqK _)).2 ht,aqE ht];exact(Pq hP fun i cs hi=>by obtain⟨ds,h1,_⟩:=hLV i cs hi;exact⟨ds,h1⟩).get (aqE ht) Ib
  ·have aa:j<ins.length:=by have:=(aqF.1 hj).1;rw[wy]at this;simpa using this
   have bC:=aqE aa;obtain⟨ds,h1,h2⟩:=hLV j _ bC;rw[hj]at h1;cases h1;have dt:(VB ins)[j]?=some (.var (ins[j].map .v)):=by rw[aqU,bC];rfl
   obtain⟨id,cA,o1,o2,o3,o4⟩:=j8.obj j _ dt;refine⟨id,cA,o1,o2,o3,.mk (by rw[o4.len,ar8,h2.len]) fun q x d hx hd=>?_⟩;have hq:q<ins[j].length:=by rw[←h2.len];exact(aqF.1 hd).1
   obtain⟨e,rfl,he⟩:=h2.get hd (aqE hq);have XN:(ins[j].map Cl.v)[q]?=some (.v ins[j][q]):=by rw[aqU,aqE hq];rfl
   obtain⟨y,y1,y2,y3⟩:=o4.get hx XN;cases y1;exact⟨_,he,y2,y3⟩
  ·have:=j8.lt j id hj;exact⟨by rw[wy];simpa using this.1,this.2⟩
 obtain⟨b,np⟩:=uf eS hC n 1 f c ⟨setArgs 1 0 (jO 0 (ins.map ari)++dj P ins.flatten.length (fn.params.toList.drop (ins.map ari).length))++setArgs 0 0 (jO 0 (ins.map ari)),lG 0 (ins.map ari),ins.flatten.length+(fn.params.size-(ins.map ari).length),0,fn.ntmps⟩ _ (ins.flatten++xs) [] R φ E1 σ
  (fun N ex e1 ai=>(ex=.normal∨ex=.ret)∧ai.n≤N∧∃v,bE P fn e1 ai=some v∧KW N v ai) none [] dw hJ (by simp;omega) rfl (cL (t:=0) hlen).1 (by
   intro ex V' μ K' R' aG E' ah x0 hf ie bf
   have main:∀jg,kY P 1 V' fn.results.toList=some jg→(match sN V' (Du jg),Ai V' 0 (ins.map ari)with
    |some (_,z,_),some os=>ab.ret (.tp (.ac (.rw z) (dO os)))
    |_,_=>.fail 152).sat P C (·=IV.av (z::outs.map IV.agg)) K' (ins.flatten++xs++μ)→∃b,∀N,b≤N→ah.n≤N∧ah.n≤N∧∃v,bE P fn (E' 1) ah=some v∧KW N v ah:=by
    intro jg hr dE;obtain⟨vs,h1,h2⟩:=lh hf.hJ hr;have hv:=Kb h2;split at dE<;>first|(exact dE.elim)|skip
    rename_i fr e _ os jq uZ;obtain⟨R2,y,h3,h4⟩:=Po hf.hJ jq hv;obtain⟨w,h5,rfl⟩:=dE;simp only[SE.den,h3,aqN]at h5;obtain⟨cs,h6,h7⟩:=aqZ.1 h5;obtain⟨y',h8,h6⟩:=aqZ.1 h6;obtain⟨os',h9,h6⟩:=aqZ.1 h6;obtain⟨ys,rfl,qb⟩:=Kf h9;split at h8<;>first|(cases h8;done)|skip
    rename_i dJ;cases h8;cases h6;simp only[aqH,IV.av.injEq,arF]at h7;obtain⟨rfl,rfl⟩:=h7;obtain⟨Lr,ho2⟩:=LN uZ;have ye:outs.length=ins.length:=by have:=qb.len;rw[Lr]at this;simp at this;omega
    have ab8:∀(i:Nat) (cs:List IV),outs[i]?=some cs→∃es:List SE,V'.l[i]?=some (.var (es.map .v))∧All2 (fun(z:SE) y=>z.den P (ins.flatten++xs++μ)=some y) es cs∧∃id,aG i=some id∧ps[i]?=some (.ptr id 0 0 cs.length):=fun i cs hi=>by
     have aa:=(aqF.1 hi).1;have fR:i<ins.length:=by omega
     obtain⟨es,a1,a2,a3,a4⟩:=ho2 i _ (by rw[aqU,aqE fR];rfl);rw[ar4]at a1 a2;have hiy:(outs.map IV.agg)[i]?=some (.agg cs):=by rw[aqU,hi];rfl
     have hd:=qb.get a4 hiy;obtain⟨us,w8,afG⟩:=Kf hd;cases w8;have oi:=hf.hJ.slot 0 i _ a2;obtain⟨id,ds,s1,s2,s3⟩:=oi;rw[hf.hE 0 (by omega)]at s3;have hlp:i<ps.length:=by omega
     have:(E1 0).at i=ps[i]:=by
      show(cE ps ps.length).at i=_;rw[(cL (aqK _)).2 hlp,aqE hlp];rfl
     rw[this]at s3;refine⟨es,a1,afG,id,s1,?_⟩;rw[aqE hlp,s3,←afG.len,a3]
    obtain⟨b,hb⟩:=O4 (fun _=>none) (fun j=>if j<outs.length then aG j else none) ah (DX vs) (by
     refine⟨fun d t pv hg=>(by cases hg),fun j ob hj=>?_,fun j j' id h1 h2=>?_,fun j id hj=>?_,fun id m hm=>(by cases hm),fun id m cs au mn hm=>(by cases hm),hf.hJ.wf,hf.hJ.top⟩
     ·rw[aqU]at hj;obtain⟨cs,bC,rfl⟩:=aqL.1 hj;have aa:=(aqF.1 bC).1;obtain⟨es,a1,a2,id,a3,_⟩:=ab8 j cs bC;obtain⟨br,cA,o1,o2,o3,o4⟩:=hf.hJ.obj j _ a1;refine⟨br,cA,by simp[aa,o1],rfl,o3,.mk (by rw[o4.len,ar8,ar8,a2.len]) fun q x c hx hc=>?_⟩;rw[aqU]at hc;obtain⟨u,hu,rfl⟩:=aqL.1 hc;have hq:q<es.length:=by rw[a2.len];exact(aqF.1 hu).1
      have XN:(es.map Cl.v)[q]?=some (.v es[q]):=by rw[aqU,aqE hq];rfl
      obtain⟨y,y1,y2,y3⟩:=o4.get hx XN;have Lt:es[q].den P (ins.flatten++xs++μ)=some y:=y1;rw[a2.get (aqE hq) hu]at Lt;cases Lt;exact⟨u,rfl,y2,y3⟩
     ·split at h1<;>first|(cases h1;done)|skip
      split at h2<;>first|(cases h2;done)|skip
      exact hf.hJ.inj j j' id h1 h2
     ·split at hj<;>first|(cases hj;done)|skip
      rename_i aa
      exact⟨by simpa using aa,(hf.hJ.lt j id hj).2⟩) ⟨by omega,fun i cs p hi hp=>by
       have aa:=(aqF.1 hi).1;obtain⟨_,_,_,id,a3,a4⟩:=ab8 i cs hi;rw[hp]at a4;cases a4;exact⟨id,by simp[aa,a3],rfl⟩⟩ (RL dJ h4)
    exact⟨max b ah.n,fun N hN=>⟨by omega,by omega,DX vs,j9 h1,hb N (by omega)⟩⟩
   cases ex with
   |exit i=>exact bf.elim
   |bU t pv=>exact bf.elim
   |normal=>
    obtain rfl:=ie;simp only at bf;split at bf
    ·rename_i jg hr;obtain⟨b,hb⟩:=main jg hr bf;exact⟨b,fun N hN=>⟨(hb N hN).1,.inl rfl,(hb N hN).2⟩⟩
    ·exact bf.elim
   |ret=>
    obtain rfl:=ie;simp only at bf;split at bf
    ·rename_i jg hr;obtain⟨b,hb⟩:=main jg hr bf;exact⟨b,fun N hN=>⟨(hb N hN).1,.inr rfl,(hb N hN).2⟩⟩
    ·exact bf.elim)
 exact⟨b,fun N hN=>(dF.body (RW:=KW N) bO hb hlen (np N hN))⟩
end Go.Ev
namespace Go.Ev
section run
variable(P:Program)(cfg:bj)
def pd(n:Nat)(nm:Bool)(f:FuncId):ab:=
 match P.funcs[f]? with
 |some fn=>match fn.body with
  |some c=>
   if arE fn.params.size fn.ntmps&&Nat.blt 0 (cF P f)then
    oV P 0 fn.params.toList<|exec P cfg n 0 f c ⟨setArgs 0 0 (dj P 0 fn.params.toList),[],fn.params.size,0,fn.ntmps⟩ fun ex V=>match ex with
     |.exit _=>.fail 141
     |.bU _ _=>.fail 146
     |_=>match kY P 0 V fn.results.toList with
      |some [.one (.sr k)]=>match V.l[k]? with
       |some (.row s' false false _ z)=>if !nm&&aqP (cF P f) s' then .ret (.rws z)else .fail 146
       |_=>.fail 147
      |some [.one (.nl true s')]=>if aqP (cF P f) s' then .ret (.tr s' .an)else .fail 146
      |_=>.fail 148
   else .fail 143
  |none=>.fail 144
 |none=>.fail 145
end run
variable{P:Program}{N:Nat}{σ ah:St}{R R':Rs}{φ aG:Ph}{E:Nat→Env}{ν:List IV}{cfg:bj}{self:mZ}
variable{C:Cr}{Q:IV→Prop}{K:List (List IV→Prop)}{V:SS}{d f0:Nat}{L:List (LO SE)}{Γ:Gm SE}
theorem jF.nj(eS:P.follows .mixedOrders=true)(hC:iP P C){n:Nat}{nm:Bool}{f:FuncId}{cB:ab}{args es:List IV}(he:pd P cfg n nm f=cB)(hl:(P.funcs[f]?).map (·.params.size)=some args.length)(hp:∀x∈args,Pure x)
 (bC:∀e∈es,(cellsOf e).length=cF P f)(bo:∀c∈flat es,(∃v,c=.raw v)∧af c=true)(aT:nm=false→es≠[])
 (hs:cB.sat P C (·=.tree (cF P f) es) [] args):jF P (cF P f) f args es:=by
 subst he;unfold pd at hs;split at hs<;>first|(exact hs.elim)|skip
 rename_i fn bO;split at hs<;>first|(exact hs.elim)|skip
 rename_i c hb;split at hs<;>first|(exact hs.elim)|skip
 rename_i hle;simp only[aqG]at hle;have Jo:fn.params.size≤fn.ntmps:=by simpa using hle.1
 have bA:0<cF P f:=by simpa using hle.2
 rw[bO]at hl;simp only[aq9,aqH]at hl;obtain⟨hs,bp⟩:=vl (R:=fun _=>none) (φ:=fun _=>none) (L:=[]) (σ:=⟨0,.lf⟩) hp hs (by simpa using hl);have hlen:args.length≤fn.ntmps:=by omega
 have hJ:J (aj P args) (fun _=>none) (fun _=>none) (setArgs 0 0 (dj P 0 fn.params.toList)) [] (fun _=>cE args fn.ntmps) ⟨0,.lf⟩:=by
  refine⟨fun d t pv hg=>?_,fun k ob h=>(by simp at h),fun k k' id h=>(by cases h),fun k id h=>(by cases h),fun id m h=>(by cases h),fun id m cs au mn h=>(by cases h),T.WF.lf,fun id _=>rfl⟩;obtain⟨rfl,_,h3⟩:=fm (α:=IV) hg;rw[asX]at bp;have ht:t<args.length:=by rw[bp.len];have:=(aqF.1 h3).1;simpa using this
  show VR _ _ _ _ _ ((cE args fn.ntmps).at t) pv;rw[(cL hlen).2 ht,aqE ht];exact bp.get (aqE ht) (by simpa using h3)
 obtain⟨b,np⟩:=uf eS hC n 0 f c ⟨setArgs 0 0 (dj P 0 fn.params.toList),[],fn.params.size,0,fn.ntmps⟩ _ args [] _ _ _ _
  (fun N ex e1 ai=>(ex=.normal∨ex=.ret)∧ai.n≤N∧∃v,bE P fn e1 ai=some v∧GZ (cF P f) es v ai) none [] hs hJ hl.symm rfl (cL (t:=0) hlen).1 (by
   intro ex V' μ K' R' aG E' ah x0 hf ie bf
   have main:(match kY P 0 V' fn.results.toList with
    |some [.one (.sr k)]=>match V'.l[k]? with
     |some (.row s' false false _ z)=>if !nm&&aqP (cF P f) s' then ab.ret (.rws z)else .fail 146
     |_=>.fail 147
    |some [.one (.nl true s')]=>if aqP (cF P f) s' then .ret (.tr s' .an)else .fail 146
    |_=>.fail 148).sat P C (·=IV.tree (cF P f) es) K' (args++μ)→∃b,∀N,b≤N→ah.n≤N∧ah.n≤N∧∃v,bE P fn (E' 0) ah=some v∧GZ (cF P f) es v ah:=by
    intro dE;split at dE<;>first|(exact dE.elim)|skip
    ·rename_i k hr;obtain⟨vs,h1,h2⟩:=lh hf.hJ hr;split at dE<;>first|(exact dE.elim)|skip
     rename_i s' fr z hk;split at dE<;>first|(exact dE.elim)|skip
     rename_i ic;simp only[aqG,aru]at ic;obtain⟨mc,ic⟩:=ic;have ue:=aqO ic;subst ue;obtain⟨z',h5,rfl⟩:=dE;obtain⟨v,rfl,hv⟩:=kD h2;have ej:bE P fn (E' 0) ah=some v:=j9 h1;obtain⟨s1,eP,c1,c2,c3⟩:=Fl h5;cases c2;obtain⟨m0,F9,m1,m2,m3⟩:=hf.hJ.obj k _ hk;have IJ:z.den P (args++μ)=some (.tree (cF P f) F9):=m1;rw[c1]at IJ;cases IJ;refine⟨ah.n,fun N hN=>⟨hN,hN,v,ej,.inr ⟨aT mc,?_⟩⟩⟩;obtain⟨s2,rS,ry,rT,z1,gK,b1,b2,b3⟩:=hv;rw[hk]at b1;cases b1;have pc:z.den P (args++μ)=some (.tree (cF P f) gK):=b2;rw[c1]at pc;cases pc;rcases b3 with⟨_,b4,_⟩|⟨id,cs,au,mn,cap,d1,d2,d3,d4,d5,d6⟩
     ·exact absurd (List.eq_nil_of_length_eq_zero b4) (aT mc)
     ·rcases m3 with⟨e1,_⟩|⟨br,cq,ik,oS,e1,e2,e3,e4,e5,e6,e7⟩
      ·rw[d1]at e1;cases e1
      ·rw[d1]at e1;cases e1;rw[d2]at e2;cases e2;refine⟨id,cs,au,mn,cap,d2,e3,by simpa using d3,e4,fun q x hx=>?_⟩
       have hq:q<cs.length:=by
        have:=(aqF.1 hx).1;rw[rW bC]at this;omega
       obtain⟨u,rfl⟩:=(bo x (aqS hx)).1;have:=e7 q _ _ (aqE hq) hx;exact⟨u,rfl,by rw[aqE hq,bV this]⟩
    ·rename_i s' hr;obtain⟨vs,h1,h2⟩:=lh hf.hJ hr;split at dE<;>first|(exact dE.elim)|skip
     rename_i ic;have ue:=aqO ic;obtain⟨z',h5,rfl⟩:=dE;obtain⟨v,rfl,hv⟩:=kD h2;have ej:bE P fn (E' 0) ah=some v:=j9 h1;obtain⟨_,rfl⟩:=hv;simp only[SE.den,aqN]at h5;split at h5<;>cases h5;exact⟨ah.n,fun N hN=>⟨hN,hN,_,ej,.inl ⟨rfl,rfl⟩⟩⟩
   cases ex with
   |exit i=>exact bf.elim
   |bU t pv=>exact bf.elim
   |normal=>
    obtain rfl:=ie;obtain⟨b,hb⟩:=main bf;exact⟨b,fun N hN=>⟨(hb N hN).1,.inl rfl,(hb N hN).2⟩⟩
   |ret=>
    obtain rfl:=ie;obtain⟨b,hb⟩:=main bf;exact⟨b,fun N hN=>⟨(hb N hN).1,.inr rfl,(hb N hN).2⟩⟩)
 exact jF.Cp bA bC bo (dF.body (RW:=fun v ai=>GZ (cF P f) es v ai) bO hb hlen (np b (aqK _))) fun v ah h=>h
end Go.Ev
namespace Go.Ev
section run
variable(P:Program)(cfg:bj)
def BM(n:Nat)(f:FuncId):ab:=
 match P.funcs[f]? with
 |some fn=>match fn.body with
  |some c=>
   if arE fn.params.size fn.ntmps then
    oV P 0 fn.params.toList<|exec P cfg n 0 f c ⟨setArgs 0 0 (dj P 0 fn.params.toList),[],fn.params.size,0,fn.ntmps⟩ fun ex V=>match ex with
     |.exit _=>.fail 141
     |.bU _ _=>.fail 146
     |_=>match kY P 0 V fn.results.toList with
      |some [.one (.mp k)]=>match V.l[k]? with
       |some (.mp kt z)=>if gp kt then .fail 146 else .ret z
       |_=>.fail 147
      |_=>.fail 148
   else .fail 143
  |none=>.fail 144
 |none=>.fail 145
end run
variable{P:Program}{N:Nat}{σ ah:St}{R R':Rs}{φ aG:Ph}{E:Nat→Env}{ν:List IV}{cfg:bj}{self:mZ}
variable{C:Cr}{Q:IV→Prop}{K:List (List IV→Prop)}{V:SS}{d f0:Nat}{L:List (LO SE)}{Γ:Gm SE}
theorem lF.nj(eS:P.follows .mixedOrders=true)(hC:iP P C){n:Nat}{f:FuncId}{cB:ab}{args ds:List IV}(he:BM P cfg n f=cB)(hl:(P.funcs[f]?).map (·.params.size)=some args.length)(hp:∀x∈args,Pure x)
 (dJ:rX ds)(hs:cB.sat P C (·=.av ds) [] args):lF P f args ds:=by
 subst he;unfold BM at hs;split at hs<;>first|(exact hs.elim)|skip
 rename_i fn bO;split at hs<;>first|(exact hs.elim)|skip
 rename_i c hb;split at hs<;>first|(exact hs.elim)|skip
 rename_i hle;have Jo:fn.params.size≤fn.ntmps:=by simpa using hle
 rw[bO]at hl;simp only[aq9,aqH]at hl;obtain⟨hs,bp⟩:=vl (R:=fun _=>none) (φ:=fun _=>none) (L:=[]) (σ:=⟨0,.lf⟩) hp hs (by simpa using hl);have hlen:args.length≤fn.ntmps:=by omega
 have hJ:J (aj P args) (fun _=>none) (fun _=>none) (setArgs 0 0 (dj P 0 fn.params.toList)) [] (fun _=>cE args fn.ntmps) ⟨0,.lf⟩:=by
  refine⟨fun d t pv hg=>?_,fun k ob h=>(by simp at h),fun k k' id h=>(by cases h),fun k id h=>(by cases h),fun id m h=>(by cases h),fun id m cs au mn h=>(by cases h),T.WF.lf,fun id _=>rfl⟩;obtain⟨rfl,_,h3⟩:=fm (α:=IV) hg;rw[asX]at bp;have ht:t<args.length:=by rw[bp.len];have:=(aqF.1 h3).1;simpa using this
  show VR _ _ _ _ _ ((cE args fn.ntmps).at t) pv;rw[(cL hlen).2 ht,aqE ht];exact bp.get (aqE ht) (by simpa using h3)
 obtain⟨b,np⟩:=uf eS hC n 0 f c ⟨setArgs 0 0 (dj P 0 fn.params.toList),[],fn.params.size,0,fn.ntmps⟩ _ args [] _ _ _ _
  (fun N ex e1 ai=>(ex=.normal∨ex=.ret)∧ai.n≤N∧∃v,bE P fn e1 ai=some v∧VD ds v ai) none [] hs hJ hl.symm rfl (cL (t:=0) hlen).1 (by
   intro ex V' μ K' R' aG E' ah x0 hf ie bf
   have main:(match kY P 0 V' fn.results.toList with
    |some [.one (.mp k)]=>match V'.l[k]? with
     |some (.mp kt z)=>if gp kt then ab.fail 146 else .ret z
     |_=>.fail 147
    |_=>.fail 148).sat P C (·=IV.av ds) K' (args++μ)→∃b,∀N,b≤N→ah.n≤N∧ah.n≤N∧∃v,bE P fn (E' 0) ah=some v∧VD ds v ah:=by
    intro dE;split at dE<;>first|(exact dE.elim)|skip
    rename_i k hr;obtain⟨vs,h1,h2⟩:=lh hf.hJ hr;split at dE<;>first|(exact dE.elim)|skip
    rename_i kt z hk;split at dE
    ·exact dE.elim
    rename_i dV;have dV:¬gp kt=true:=dV;obtain⟨z',h5,rfl⟩:=dE;obtain⟨v,rfl,hv⟩:=kD h2;have ej:bE P fn (E' 0) ah=some v:=j9 h1;obtain⟨id,lA,gK,g1,g2,g3⟩:=hv;rw[hk]at g2;cases g2;rw[if_neg dV]at g3;have dt:=hf.hJ.obj k _ hk;rw[gB,if_neg dV]at dt;obtain⟨br,es,clock,l6,c1,c2,c3,c4,c5,c6⟩:=dt;rw[g1]at c2;cases c2;have j2:z.den P (args++μ)=some (.av l6):=c1;rw[h5]at j2;cases j2;refine⟨ah.n,fun N hN=>⟨hN,hN,v,ej,id,es,g3,?_,All2.len c5,fun i e d he hd=>?_⟩⟩
    ·rw[c4,c6.1,All2.len c5]
    ·obtain⟨kk,vv,KV⟩:=dJ d (aqS hd);obtain⟨zv,h8,h9⟩:=All2.get c5 he hd;rw[KV]at h8;simp only[IV.av.injEq,arF,and_true]at h8;obtain⟨h8a,rfl⟩:=h8;exact⟨c6.2 i e he,vv,SN h9,by rw[KV,h8a]⟩
   cases ex with
   |exit i=>exact bf.elim
   |bU t pv=>exact bf.elim
   |normal=>
    obtain rfl:=ie;obtain⟨b,hb⟩:=main bf;exact⟨b,fun N hN=>⟨(hb N hN).1,.inl rfl,(hb N hN).2⟩⟩
   |ret=>
    obtain rfl:=ie;obtain⟨b,hb⟩:=main bf;exact⟨b,fun N hN=>⟨(hb N hN).1,.inr rfl,(hb N hN).2⟩⟩)
 exact lF.Cp dJ (dF.body (RW:=fun v ai=>VD ds v ai) bO hb hlen (np b (aqK _))) fun v ah h=>h
end Go.Ev
namespace Go.Ev
section run
variable(P:Program)(cfg:bj)
def G2(n:Nat)(f:FuncId):ab:=
 match P.funcs[f]? with
 |some fn=>match fn.body,fn.params.toList with
  |some c,t::ts=>match P.underlying t with
   |some (.map kt _)=>
    if arE fn.params.size fn.ntmps&& !gp kt then
     oV P 1 ts<|exec P cfg n 1 f c ⟨setArgs 1 0 (.one (.mp 0)::dj P 1 ts)++setArgs 0 0 [.one (.mp 0)],[.mp kt (.var 0)],fn.params.size,0,fn.ntmps⟩ fun ex V=>match ex with
      |.exit _=>.fail 151
      |.bU _ _=>.fail 146
      |_=>match kY P 1 V fn.results.toList,ct 0 0 V.g with
       |some [pv],some (.one (.mp k))=>match V.l[k]?,tW pv with
        |some (.mp ly (.var 0)),some e=>if gp ly then .fail 152 else .ret (.rw e)
        |_,_=>.fail 152
       |_,_=>.fail 153
    else .fail 154
   |_=>.fail 155
  |_,_=>.fail 155
 |none=>.fail 156
end run
variable{P:Program}{N:Nat}{σ ah:St}{R R':Rs}{φ aG:Ph}{E:Nat→Env}{ν:List IV}{cfg:bj}
variable{C:Cr}{Q:IV→Prop}{K:List (List IV→Prop)}{V:SS}{L:List (LO SE)}
theorem q6.nj(eS:P.follows .mixedOrders=true)(hC:iP P C){n:Nat}{f:FuncId}{cB:ab}{ds xs:List IV}{z:IV}(he:G2 P cfg n f=cB)(hl:(P.funcs[f]?).map (·.params.size)=some (xs.length+1))(hp:∀x∈xs,Pure x)
 (dJ:rX ds)(hz:∃v,z=.raw v∧af z=true)(hs:cB.sat P C (·=z) [] (.av ds::xs)):q6 P f ds xs z:=by
 subst he;unfold G2 at hs;split at hs<;>first|(exact hs.elim)|skip
 rename_i fn bO;split at hs<;>first|(exact hs.elim)|skip
 rename_i c t0 ts hb qd;split at hs<;>first|(exact hs.elim)|skip
 rename_i kt et hu;split at hs<;>first|(exact hs.elim)|skip
 rename_i hle;simp only[aqG,aru]at hle;have Jo:fn.params.size≤fn.ntmps:=by simpa using hle.1
 have dV:¬gp kt=true:=by rw[hle.2];simp
 rw[bO]at hl;simp only[aq9,aqH]at hl
 have aL:ts.length=xs.length:=by
  have:fn.params.toList.length=fn.params.size:=by simp
  rw[qd]at this;simp at this;omega
 let σ:St:=(⟨0,.lf⟩:St).add (.map (jN ds) ds.length)
 let φ:Ph:=fun j=>if j=0 then some 0 else none
 have bc:All2 il xs xs:=.mk rfl fun i a b h1 h2=>by
  rw[h1]at h2;cases h2;exact .pure a rfl (hp a (aqS h1))
 obtain⟨dw,bp⟩:=BL (j:=0) (pre:=[.av ds]) (R:=fun _=>none) (φ:=φ) (L:=[.mp kt (.var 0)]) (σ:=σ) bc hs (by omega);rw[asX]at bp;have hZ:(SE.var 0).den P (.av ds::xs)=some (.av ds):=by simp[SE.den]
 have yQ:VR (aj P (.av ds::xs)) (fun _=>none) φ [.mp kt (.var 0)] σ (.map 0) (.one (.mp 0)):=⟨0,kt,.var 0,rfl,rfl,(if_neg dV).symm⟩;have yX:All2 (VR (aj P (.av ds::xs)) (fun _=>none) φ [.mp kt (.var 0)] σ) (.map 0::xs) (.one (.mp 0)::dj P 1 ts):=⟨yQ,bp⟩;have hlen:(IV.map 0::xs).length≤fn.ntmps:=by simp;omega
 let E1:Nat→Env:=fun j=>if j=0 then cE [.map 0] 1 else cE (.map 0::xs) fn.ntmps
 have hJ:J (aj P (.av ds::xs)) (fun _=>none) φ (setArgs 1 0 (.one (.mp 0)::dj P 1 ts)++setArgs 0 0 [.one (.mp 0)]) [.mp kt (.var 0)] E1 σ:=by
  refine⟨fun d t pv hg=>?_,fun j ob hj=>?_,fun j j' id h1 h2=>?_,fun j id hj=>?_,fun id m h=>(by cases h),fun id m cs au mn h=>(by cases h),(T.WF.lf.set 0 (Ob.map (jN ds) ds.length):(T.lf.set 0 (Ob.map (jN ds) ds.length)).WF),fun id hid=>?_⟩
  ·rcases G1 hg with hg|hg
   ·obtain⟨rfl,_,h3⟩:=fm (α:=IV) hg;have ht:t<(IV.map 0::xs).length:=by rw[yX.len];have:=(aqF.1 h3).1;simpa using this
    show VR _ _ _ _ _ ((cE (.map 0::xs) fn.ntmps).at t) pv;rw[(cL hlen).2 ht,aqE ht];exact yX.get (aqE ht) (by simpa using h3)
   ·obtain⟨rfl,_,h3⟩:=fm (α:=IV) hg;cases t with
    |succ t=>simp at h3
    |zero=>
     simp at h3;subst h3;show VR _ _ _ _ _ ((cE [.map 0] 1).at 0) _;rw[(cL (by simp)).2 (by simp)];exact yQ
  ·cases j with
   |succ j=>simp at hj
   |zero=>
    simp at hj;subst hj;rw[gB,if_neg dV];refine⟨0,jN ds,ds.length,ds,hZ,rfl,rfl,by simp[σ],?_,(pV ds).symm,fun i e he=>?_⟩
    ·refine .mk (pV ds) fun i e d he hd=>?_;obtain⟨d',u9,rfl⟩:=pU he;rw[hd]at u9;cases u9;obtain⟨kk,v,rfl⟩:=dJ d (aqS hd);refine⟨lift v,by simp[yP,pT],?_⟩;show aY true _ _ (lift v) (lift v);unfold lift;split
     ·exact .agg _ _ rfl fun i c e h1 h2=>by
       rw[h1]at h2;cases h2;rw[aqU]at h1;obtain⟨u,_,rfl⟩:=aqL.1 h1;exact .raw _
     ·exact .raw _
    ·obtain⟨d',u9,rfl⟩:=pU he;obtain⟨kk,v,rfl⟩:=dJ d' (aqS u9);rfl
  ·simp only[φ]at h1 h2;split at h1<;>first|(cases h1;done)|skip
   split at h2<;>first|(cases h2;done)|skip
   omega
  ·simp only[φ]at hj;split at hj<;>first|(cases hj;done)|skip
   rename_i h0;cases hj;exact⟨by simp[h0],by simp[σ]⟩
  ·have:id≠0:=by simp only[σ,St.kK]at hid;omega
   show((⟨0,.lf⟩:St).add (.map (jN ds) ds.length)).at id=none;rw[St.gP,if_neg (by show¬0=id;omega)];rfl
 obtain⟨b,np⟩:=uf eS hC n 1 f c ⟨setArgs 1 0 (.one (.mp 0)::dj P 1 ts)++setArgs 0 0 [.one (.mp 0)],[.mp kt (.var 0)],fn.params.size,0,fn.ntmps⟩ _ (.av ds::xs) [] _ φ E1 σ
  (fun N ex e1 ai=>(ex=.normal∨ex=.ret)∧ai.n≤N∧∃v,bE P fn e1 ai=some v∧(v=z∧∃es,ai.at 0=some (.map es ds.length)∧Ac es ds)) none [] dw hJ (by simp;omega) rfl (cL (t:=0) hlen).1 (by
   intro ex V' μ K' R' aG E' ah x0 hf ie bf
   have main:(match kY P 1 V' fn.results.toList,ct 0 0 V'.g with
    |some [pv],some (.one (.mp k))=>match V'.l[k]?,tW pv with
     |some (.mp ly (.var 0)),some e=>if gp ly then ab.fail 152 else .ret (.rw e)
     |_,_=>.fail 152
    |_,_=>.fail 153).sat P C (·=z) K' (IV.av ds::xs++μ)→∃b,∀N,b≤N→ah.n≤N∧ah.n≤N∧∃v,bE P fn (E' 1) ah=some v∧(v=z∧∃es,ah.at 0=some (.map es ds.length)∧Ac es ds):=by
    intro dE;split at dE<;>first|(exact dE.elim)|skip
    rename_i pv k hr hg;obtain⟨vs,h1,h2⟩:=lh hf.hJ hr;split at dE<;>first|(exact dE.elim)|skip
    rename_i ly e hk hse;split at dE
    ·exact dE.elim
    rename_i xF;have afH:¬gp ly=true:=xF;obtain⟨z',h5,rfl⟩:=dE;obtain⟨v,rfl,hv⟩:=kD h2;have ej:bE P fn (E' 1) ah=some v:=j9 h1;obtain⟨y,c1,c2⟩:=O3 hf.hJ hv hse;simp only[SE.den,c1,aqN]at h5;split at h5<;>first|(cases h5;done)|skip
    rename_i qa;cases h5
    have hvy:v=z':=by
     cases z'<;>simp only[aw]at qa<;>first|(cases qa;done)|skip
     exact bV c2
    have VJ:=hf.hJ.slot 0 0 _ hg;have hE0:E' 0=E1 0:=hf.hE 0 (by omega);rw[hE0]at VJ
    have Pr:(E1 0).at 0=.map 0:=by
     show(cE [.map 0] 1).at 0=_;rw[(cL (by simp)).2 (by simp)];rfl
    rw[Pr]at VJ;obtain⟨id,lA,gK,g1,g2,g3⟩:=VJ;rw[hk]at g2;cases g2;rw[if_neg afH]at g3;cases g3;have dt:=hf.hJ.obj k _ hk;rw[gB,if_neg afH]at dt;obtain⟨br,es,clock,l6,d1,d2,d3,d4,d5,d6⟩:=dt;rw[g1]at d2;cases d2;have XI:(SE.var 0).den P (IV.av ds::xs++μ)=some (.av l6):=d1;simp[SE.den]at XI;subst XI;obtain⟨rfl,wX⟩:=LH d5 d6 dJ;exact⟨ah.n,fun N hN=>⟨hN,hN,v,ej,hvy,es,d4,wX⟩⟩
   cases ex with
   |exit i=>exact bf.elim
   |bU t pv=>exact bf.elim
   |normal=>
    obtain rfl:=ie;obtain⟨b,hb⟩:=main bf;exact⟨b,fun N hN=>⟨(hb N hN).1,.inl rfl,(hb N hN).2⟩⟩
   |ret=>
    obtain rfl:=ie;obtain⟨b,hb⟩:=main bf;exact⟨b,fun N hN=>⟨(hb N hN).1,.inr rfl,(hb N hN).2⟩⟩)
 exact q6.Cp dJ hz (dF.body (RW:=fun v ai=>v=z∧∃es,ai.at 0=some (.map es ds.length)∧Ac es ds) bO hb hlen (np b (aqK _))) fun v ah h=>h
end Go.Ev
namespace Go.Ev
variable{P:Program}{C:Cr}{Q:IV→Prop}{K K':List (List IV→Prop)}{ν:List IV}
theorem ab.G3(f:ab){K K':List (List IV→Prop)}{ν:List IV}(hk:rR K K')(h:f.sat P C Q K ν):f.sat P C Q K' ν:=ab.eu P f (fun _ h=>h) hk h
theorem D1{A:Type}{init:SE}{body:ab}(e:A→List IV)(I:A→Prop)(μ:A→Nat)(a0:A)(BN:ir P ν init=some (e a0))(h0:I a0)
 (h:∀a,I a→body.sat P C Q (K++[fun vs=>∃a',vs=e a'∧I a'∧μ a'<μ a]) (ν++e a)):(ab.loop init body).sat P C Q K ν:=by
 refine⟨e a0,BN,μ a0+1,?_⟩
 have key:∀m a,I a→μ a<m→(atY (motive:=fun _=>List IV→Prop) (fun _=>False) (fun _ ih vs=>body.sat P C Q (K++[ih]) (ν++vs)) m) (e a):=by
  intro m;induction m with
  |zero=>intro a _ h;omega
  |succ m ih=>
   intro a ha hm;refine body.G3 ((rR.refl K).snoc ?_) (h a ha);rintro vs ⟨a',rfl,h1,h2⟩;exact ih a' h1 (by omega)
 exact key (μ a0+1) a0 h0 (Nat.lt_succ_self _)
theorem eg{A:Type}{init:SE}{body:ab}(n:Nat)(e:Nat→A→List IV)(I:Nat→A→Prop)(a0:A)(BN:ir P ν init=some (e 0 a0))(h0:I 0 a0)
 (h:∀i a,i≤n→I i a→body.sat P C Q (K++[fun vs=>∃a',vs=e (i+1) a'∧i+1≤n∧I (i+1) a']) (ν++e i a)):(ab.loop init body).sat P C Q K ν:=by
 refine D1 (A:=Nat×A) (fun p=>e p.1 p.2) (fun p=>p.1≤n∧I p.1 p.2) (fun p=>n- p.1) (0,a0) BN ⟨arw _,h0⟩ fun⟨i,a⟩ ⟨hi,hI⟩=>?_;refine body.G3 ((rR.refl K).snoc ?_) (h i a hi hI);rintro vs ⟨a',rfl,h1,h2⟩;exact⟨(i+1,a'),rfl,⟨h1,h2⟩,by simp;omega⟩
theorem adK{a b:ab}{m:Nat}(p:List IV→Prop)(h:a.sat P C Q (K++[p]) ν)(hb:∀vs,p vs→vs.length=m∧b.sat P C Q K (ν++vs)):(ab.kz a m b).sat P C Q K ν:=
 a.G3 ((rR.refl K).snoc hb) h
@[simp] theorem anh{w:Nat}:(ab.fail w).sat P C Q K ν↔False:=atz
@[simp] theorem SY{e:SE}:(ab.ret e).sat P C Q K ν↔∃z,e.den P ν=some z∧Q z:=atz
@[simp] theorem nq{e:SE}{k:ab}:(ab.aQ e k).sat P C Q K ν↔(∃z,e.den P ν=some z)∧k.sat P C Q K ν:=atz
@[simp] theorem Ps{e:SE}{k:ab}:(ab.bind e k).sat P C Q K ν↔∃z,e.den P ν=some z∧k.sat P C Q K (ν++[z]):=atz
@[simp] theorem Pt{f:FuncId}{new:Bool}{e:SE}{k:ab}:(ab.call f new e k).sat P C Q K ν↔∃xs z,ir P ν e=some xs∧C f new xs z∧k.sat P C Q K (ν++[z]):=atz
@[simp] theorem Pu{e:SE}{a b:ab}:(ab.test e a b).sat P C Q K ν↔(e.den P ν=some (.raw (.bool true))∧a.sat P C Q K ν)∨(e.den P ν=some (.raw (.bool false))∧b.sat P C Q K ν):=atz
@[simp] theorem apx{e:SE}{a b:ab}:(ab.two e a b).sat P C Q K ν↔∃q es,e.den P ν=some (.tree q es)∧b.sat P C Q K ν∧(es=[]→a.sat P C Q K ν):=atz
@[simp] theorem Pv{lv:Nat}{e:SE}:(ab.next lv e).sat P C Q K ν↔∃vs p,ir P ν e=some vs∧K[lv]?=some p∧p vs:=atz
@[simp] theorem ani{es x:SE}{k:ab}:(ab.same es x k).sat P C Q K ν↔∃ds r,es.den P ν=some (.av ds)∧x.den P ν=some (.av (.av ds::r))∧k.sat P C Q K ν:=atz
@[simp] theorem apy:ir P ν .an=some []:=rfl
@[simp] theorem anj{a r:SE}:ir P ν (.ac a r)=(a.den P ν).bind fun x=>(ir P ν r).map fun xs=>x::xs:=by
  unfold ir;simp only[SE.den];cases a.den P ν with
  |none=>rfl
  |some x=>
   cases r.den P ν with
   |none=>rfl
   |some y=>cases y<;>rfl
abbrev iB(b:Bool):IV:=.raw (.bool b)
abbrev iI(n:Int):IV:=.raw (.int .i64 n)
abbrev iS(l:List UInt8):IV:=.raw (.string ⟨l.toArray⟩)
abbrev iL(l:List Int):IV:=.tree 1 (l.map iI)
@[simp] theorem ah7(q:IntKind)(n:Int):xx (.raw (.int q n))=some (.raw (.int q n)):=rfl
@[simp] theorem afI(n:Bool):xx (.raw (.bool n))=some (.raw (.bool n)):=rfl
@[simp] theorem ah8(n:ByteArray):xx (.raw (.string n))=some (.raw (.string n)):=rfl
@[simp] theorem rA(s:Nat)(es:List IV):xx (.tree s es)=some (.tree s es):=rfl
@[simp] theorem ah9(s:Nat)(es:List IV):H0 (.tree s es)=some (.raw (.int .i64 es.length)):=rfl
theorem fZ{s:Nat}{es:List IV}{i:Nat}{q:IntKind}{x:IV}(h:es[i]?=some x)(hx:(cellsOf x).length=s):dx s (.tree s es) (.raw (.int q (i:Nat)))=some x:=by
 simp[dx,gC,h,hx]
@[simp] theorem apW(P:Program)(t:TypeId)(a b:Int):c_ P .lss t (iI a) (iI b)=some (iB (decide (a<b))):=rfl
@[simp] theorem apX(P:Program)(t:TypeId)(a b:Int):c_ P .gtr t (iI a) (iI b)=some (iB (decide (a>b))):=rfl
@[simp] theorem apY(P:Program)(t:TypeId)(a b:Int):c_ P .leq t (iI a) (iI b)=some (iB (decide (a≤b))):=rfl
@[simp] theorem apZ(P:Program)(t:TypeId)(a b:Int):c_ P .geq t (iI a) (iI b)=some (iB (decide (a≥b))):=rfl
@[simp] theorem ap0(P:Program)(t:TypeId)(a b:Int):c_ P .eql t (iI a) (iI b)=some (iB (a==b)):=rfl
@[simp] theorem ap1(P:Program)(t:TypeId)(a b:Int):c_ P .neq t (iI a) (iI b)=some (iB (a !=b)):=rfl
@[simp] theorem ap2(P:Program)(t:TypeId)(a b:Int):c_ P .add t (iI a) (iI b)=some (iI (arc.wrap (a+b))):=rfl
@[simp] theorem ap3(P:Program)(t:TypeId)(a b:Int):c_ P .sub t (iI a) (iI b)=some (iI (arc.wrap (a- b))):=rfl
@[simp] theorem ap4(P:Program)(t:TypeId)(a b:Int):c_ P .mul t (iI a) (iI b)=some (iI (arc.wrap (a*b))):=rfl
@[simp] theorem ap5(P:Program)(t:TypeId)(a b:List UInt8):c_ P .lss t (iS a) (iS b)=some (iB (as8 a b)):=by
  show some (IV.bool (as8 a.toArray.toList b.toArray.toList))=_;simp
@[simp] theorem ap6(P:Program)(t:TypeId)(a b:List UInt8):c_ P .gtr t (iS a) (iS b)=some (iB (!(as8 a b||a==b))):=by
  show some (IV.bool (!(as8 a.toArray.toList b.toArray.toList||a.toArray.toList==b.toArray.toList)))=_;simp
@[simp] theorem ap7(P:Program)(t:TypeId)(a b:List UInt8):c_ P .neq t (iS a) (iS b)=some (iB (!(a==b))):=by
  show some (IV.bool (!(a.toArray.toList==b.toArray.toList)))=_;simp
theorem ab9(P:Program)(t:TypeId)(hu:P.underlying t=some .bool)(a b:Bool):c_ P .eql t (iB a) (iB b)=some (iB (a==b)):=by
 show(aK P (do eqGuard .eql t _ _ _ _;Go.binOp .eql t _ _)).map lift=_;rw[bn];show(aK P (do pure (.bool (←ar3 (9999+1) t (.bool a) (.bool b))))).map lift=_;unfold ar3;rw[bn,bn,Go.Ev.run_underlying hu,aqN];rfl
theorem aje(P:Program)(t:TypeId)(hu:P.underlying t=some .bool)(a b:Bool):c_ P .neq t (iB a) (iB b)=some (iB (!(a==b))):=by
 show(aK P (do eqGuard .neq t _ _ _ _;Go.binOp .neq t _ _)).map lift=_;rw[bn];show(aK P (do pure (.bool (!(←ar3 (9999+1) t (.bool a) (.bool b)))))).map lift=_;unfold ar3;rw[bn,bn,Go.Ev.run_underlying hu,aqN];rfl
@[simp] theorem ap8(P:Program)(a:Bool):U3 P .not (iB a)=some (iB (!a)):=rfl
theorem dL{a:Int}(h1: -9223372036854775808≤a)(h2:a≤9223372036854775807):arc.wrap a=a:=by
 simp only[IntKind.wrap,IntKind.bits,IntKind.signed];simp;omega
end Go.Ev
namespace Go.Ev
variable{P:Program}{C:Cr}{Q:IV→Prop}{K K':List (List IV→Prop)}{ν:List IV}
def Pw{A:Type}(n:Nat)(e:Nat→A→List IV)(I:Nat→A→Prop)(i:Nat)(vs:List IV):Prop:=∃a',vs=e (i+1) a'∧i+1≤n∧I (i+1) a'
theorem Pw.mk{A:Type}{n:Nat}{e:Nat→A→List IV}{I:Nat→A→Prop}{i:Nat}{vs:List IV}(a':A)(h1:vs=e (i+1) a')(h2:i+1≤n)(h3:I (i+1) a'):Pw n e I i vs:=⟨a',h1,h2,h3⟩
theorem ao{A:Type}{init:SE}{body:ab}(n:Nat)(e:Nat→A→List IV)(I:Nat→A→Prop)(a0:A)(BN:ir P ν init=some (e 0 a0))(h0:I 0 a0)
 (h:∀i a,i≤n→I i a→body.sat P C Q (K++[Pw n e I i]) (ν++e i a)):(ab.loop init body).sat P C Q K ν:=
 eg n e I a0 BN h0 h
def aa1{A:Type}(e:A→List IV)(I:A→Prop)(μ:A→Nat)(a:A)(vs:List IV):Prop:=∃a',vs=e a'∧I a'∧μ a'<μ a
theorem aa1.mk{A:Type}{e:A→List IV}{I:A→Prop}{μ:A→Nat}{a:A}{vs:List IV}(a':A)(h1:vs=e a')(h2:I a')(h3:μ a'<μ a):aa1 e I μ a vs:=⟨a',h1,h2,h3⟩
theorem wz{A:Type}{init:SE}{body:ab}(e:A→List IV)(I:A→Prop)(μ:A→Nat)(a0:A)(BN:ir P ν init=some (e a0))(h0:I a0)
 (h:∀a,I a→body.sat P C Q (K++[aa1 e I μ a]) (ν++e a)):(ab.loop init body).sat P C Q K ν:=
 D1 e I μ a0 BN h0 h
def Px(p:List IV→Prop)(vs:List IV):Prop:=p vs
theorem pe{a b:ab}{m:Nat}(p:List IV→Prop)(h:a.sat P C Q (K++[Px p]) ν)(hb:∀vs,p vs→vs.length=m∧b.sat P C Q K (ν++vs)):(ab.kz a m b).sat P C Q K ν:=
 adK p h hb
end Go.Ev
namespace Go.Ev
variable{P:Program}{C:Cr}{Q:IV→Prop}{K:List (List IV→Prop)}{ν:List IV}
def noTwo:ab→Bool
 |.two .. |.pick .. =>false
 |.test _ a b|.kz a _ b=>noTwo a&&noTwo b
 |.bind _ k|.aQ _ k|.call _ _ _ k|.loop _ k|.same _ _ k=>noTwo k
 |_=>true
def ExK(Q:IV→Prop)(K:List (List IV→Prop))(Kz:IV→List (List IV→Prop)):Prop:=
 (∀z,(Kz z).length=K.length)∧∀(lv:Nat) (p:List IV→Prop) (vs:List IV),K[lv]?=some p→p vs→∃z,Q z∧∃p':List IV→Prop,(Kz z)[lv]?=some p'∧p' vs
theorem ExK.snoc{Kz:IV→List (List IV→Prop)}{p:List IV→Prop}{q:IV→List IV→Prop}(h:ExK Q K Kz)(hp:∀vs,p vs→∃z,Q z∧q z vs):ExK Q (K++[p]) (fun z=>Kz z++[q z]):=by
 refine⟨fun z=>by simp[h.1 z],fun lv r vs hr gR=>?_⟩;by_cases hl:lv<K.length
 ·rw[aqQ hl]at hr;obtain⟨z,h1,p',h2,h3⟩:=h.2 lv r vs hr gR;exact⟨z,h1,p',by rw[aqQ (by rw[h.1 z];exact hl)];exact h2,h3⟩
 ·have aa:=(aqF.1 hr).1;simp at aa;have:lv=K.length:=by omega
  subst this;simp at hr;subst hr;obtain⟨z,h1,h2⟩:=hp vs gR;exact⟨z,h1,q z,by simp[←h.1 z],h2⟩
theorem qH:∀(cB:ab),noTwo cB=true→∀{K:List (List IV→Prop)} {Kz:IV→List (List IV→Prop)} {ν:List IV},ExK Q K Kz→cB.sat P C Q K ν→∃z,Q z∧cB.sat P C (·=z) (Kz z) ν
 |.fail _,_,_,_,_,_,h=>h.elim
 |.bad ..,_,_,_,_,_,h=>h.elim
 |.two ..,hn,_,_,_,_,_=>by cases hn
 |.pick ..,hn,_,_,_,_,_=>by cases hn
 |.uniq k,_,K,Kz,_,hK,h=>by
  obtain⟨z,h1,h2⟩:=h;refine⟨z,h1,z,rfl,ab.eu P k (fun _ h=>h) ?_ h2⟩;refine .mk (by simp[hK.1 z]) fun i a b ha hb vs hv=>?_;simp only[aqU,aqL]at ha;obtain⟨_,_,rfl⟩:=ha;exact hv.elim
 |.same es x k,hn,_,_,_,hK,h=>by
  obtain⟨ds,r,h1,h2,h3⟩:=h;obtain⟨z,g1,g2⟩:=qH k hn hK h3;exact⟨z,g1,ds,r,h1,h2,g2⟩
 |.ret e,_,_,_,_,_,h=>by
  obtain⟨z,h1,h2⟩:=h;exact⟨z,h2,z,h1,rfl⟩
 |.test e a b,hn,_,_,_,hK,h=>by
  simp only[noTwo,aqG]at hn;rcases h with⟨h1,h2⟩|⟨h1,h2⟩
  ·obtain⟨z,g1,g2⟩:=qH a hn.1 hK h2;exact⟨z,g1,.inl ⟨h1,g2⟩⟩
  ·obtain⟨z,g1,g2⟩:=qH b hn.2 hK h2;exact⟨z,g1,.inr ⟨h1,g2⟩⟩
 |.bind e k,hn,_,_,_,hK,h=>by
  obtain⟨y,h1,h2⟩:=h;obtain⟨z,g1,g2⟩:=qH k hn hK h2;exact⟨z,g1,y,h1,g2⟩
 |.aQ e k,hn,_,_,_,hK,h=>by
  obtain⟨z,g1,g2⟩:=qH k hn hK h.2;exact⟨z,g1,h.1,g2⟩
 |.call f new e k,hn,_,_,_,hK,h=>by
  obtain⟨xs,y,h1,h2,h3⟩:=h;obtain⟨z,g1,g2⟩:=qH k hn hK h3;exact⟨z,g1,xs,y,h1,h2,g2⟩
 |.next lv e,_,K,Kz,_,hK,h=>by
  obtain⟨vs,p,h1,h2,h3⟩:=h;obtain⟨z,g1,p',g2,g3⟩:=hK.2 lv p vs h2 h3;exact⟨z,g1,vs,p',h1,g2,g3⟩
 |.kz a m b,hn,K,Kz,ν,hK,h=>by
  simp only[noTwo,aqG]at hn
  exact qH a hn.1 (Kz:=fun z=>Kz z++[fun vs=>vs.length=m∧b.sat P C (·=z) (Kz z) (ν++vs)]) (hK.snoc fun vs gR=>by
   obtain⟨z,g1,g2⟩:=qH b hn.2 hK gR.2;exact⟨z,g1,gR.1,g2⟩) h
 |.loop i b,hn,K,Kz,ν,hK,h=>by
  obtain⟨vs,h1,m,hm⟩:=h
  have key:∀(m:Nat) (vs:List IV),(atY (motive:=fun _=>List IV→Prop) (fun _=>False) (fun _ ih vs=>b.sat P C Q (K++[ih]) (ν++vs)) m) vs→
   ∃z,Q z∧(atY (motive:=fun _=>List IV→Prop) (fun _=>False) (fun _ ih vs=>b.sat P C (·=z) (Kz z++[ih]) (ν++vs)) m) vs:=by
   intro m;induction m with
   |zero=>intro vs h;exact h.elim
   |succ m ih=>
    intro vs h;exact qH b hn (Kz:=fun z=>Kz z++[atY (motive:=fun _=>List IV→Prop) (fun _=>False) (fun _ ih vs=>b.sat P C (·=z) (Kz z++[ih]) (ν++vs)) m]) (hK.snoc ih) h
  obtain⟨z,g1,g2⟩:=key m vs hm;exact⟨z,g1,vs,h1,m,g2⟩
theorem xL{cB:ab}(hn:noTwo cB=true)(h:cB.sat P C Q [] ν):∃z,Q z∧cB.sat P C (·=z) [] ν:=
 qH cB hn (Kz:=fun _=>[]) ⟨fun _=>rfl,fun _ _ _ h=>by simp at h⟩ h
end Go.Ev
namespace Go.Ev
open Go
variable{H:Type}{enc:TypeId×Value→H}{P:Program}{w:World}{sp:Nat→Bool}{held:Bool}
theorem j_{a:Addr}{n:Nat}{us:List Value}(h:w.cells? 0 a n=some us):us.length=n∧∀j,j<n→w.cell? (a.add j)=us[j]? :=by
 unfold World.cells? at h;rw[if_pos (arw _)]at h;exact⟨by simpa using mapM_some_length h,fun j hj=>mapM_some_get h j j (by simp[hj])⟩
theorem IM{b off:Nat}{v:Value}(h:w.cell? ⟨b,off,none⟩=some v):oe (allM w) b off=some v:=by
 unfold World.cell? at h;simp only at h;split at h
 ·rename_i c e f hb;rw[if_neg (by simp)]at h;unfold oe allM;rw[hb];exact h
 ·cases h
theorem BO(b off n:Nat):(⟨b,off,none⟩:Addr).add n=⟨b,off+n,none⟩:=by
 unfold aws;split
 ·rename_i h;subst h;rfl
 ·rfl
theorem BP{α:Type}(f:α→IV){s:Nat}(hs:0<s)(bC:∀a,(cellsOf (f a)).length=s)(Ok:α→Prop){t e:TypeId}(ht:P.underlying t=some (.slice e))(hP:P.cellsOf e=s){fuel:Nat}{u:Value}{x:DataW H×List MemPlace}
 (nK:∀n us x,n<fuel→arB enc P w 0 sp held n e us=some x→us.length=s→∃a,Ok a∧ax (eo (allM w)) (cellsOf (f a)) us)
 (h:arB enc P w 0 sp held fuel t [u]=some x):∃l:List α,l.length≤9223372036854775807∧(∀a∈l,Ok a)∧Rv (eo (allM w)) (.tree s (l.map f)) u:=by
 rcases DataW.trod_slice ht h with⟨h1,_⟩|⟨a,len,cap,elems,rest,n,hfu,h1,_,_,ll,hcm,hlen,aA,_,_⟩
 ·obtain rfl:=(atf h1).1;exact⟨[],by simp,by simp,.dN s none 0 hs (fun _=>rfl)⟩
 ·obtain rfl:=(atf h1).1;by_cases ja:len=0
  ·subst ja;exact⟨[],by simp,by simp,.dN s (some a) cap hs (by simp)⟩
  ·have key:∀i:Fin len,∃p:List Value×α,w.cells? 0 (a.add (i.1*s)) s=some p.1∧Ok p.2∧ax (eo (allM w)) (cellsOf (f p.2)) p.1:=fun i=>by
    have hi:=aA i.1 i.2;rw[hP]at hi;have tL:elems[i.1]?=some elems[i.1]:=aqE (by omega);rw[tL]at hi;obtain⟨us,xh,qB⟩:=aqZ.1 hi;obtain⟨b,cD,e_⟩:=nK n us _ (by omega) qB (j_ xh).1;exact⟨(us,b),xh,cD,e_⟩
   obtain⟨g,hg⟩:=awm key
   have IN:a.spot=none:=by
    obtain⟨oN,_,_⟩:=hg ⟨0,by omega⟩;obtain⟨qz,eN⟩:=j_ oN;have h0:=eN 0 hs;rw[aqE (by omega)]at h0;have:=World.cell?_spot h0;simpa[aws]using this
   obtain⟨b,off,spot⟩:=a;simp only at IN;subst IN
   have gS:∀i (hi:i<len) j,j<s→w.cell? ⟨b,off+(i*s+j),none⟩=(g ⟨i,hi⟩).1[j]? :=fun i hi j hj=>by
    have:=(j_ (hg ⟨i,hi⟩).1).2 j hj;rw[BO,BO]at this;rw[←Nat.add_assoc];exact this
   refine⟨atN fun i=>(g i).2,by simp;have:maxLen=9223372036854775807:=rfl;omega,?_,?_⟩
   ·intro c hc;obtain⟨i,rfl⟩:=(List.mem_ofFn (f:=fun i=>(g i).2)).1 hc;exact(hg i).2.1
   ·have nK:((atN fun i=>(g i).2).map f).length=len:=by simp
    have hR:=Rv.tree (ι:=eo (allM w)) s ((atN fun i=>(g i).2).map f) b off cap (fun k=>(w.cell? ⟨b,off+k,none⟩).getD Go.undef) hs (by rw[nK];exact ll) ?_ ?_ ?_
    ·rw[nK]at hR;exact hR
    ·intro e' gO;obtain⟨c,_,rfl⟩:=List.mem_map.1 gO;exact bC c
    ·intro k hk;rw[nK]at hk;have hi:k/s<len:=Nat.div_lt_of_lt_mul (by rw[au6];exact hk);have hj:k % s<s:=Nat.mod_lt _ hs;have hc:=gS (k/s) hi (k % s) hj;have cy:k/s*s+k % s=k:=by rw[au6];exact Nat.div_add_mod k s
     rw[cy]at hc;have qz:=(j_ (hg ⟨k/s,hi⟩).1).1;rw[aqE (by omega)]at hc;rw[IM hc,hc];rfl
    ·intro i e' j c gO hc;rw[aqU,List.getElem?_ofFn]at gO;split at gO
     ·rename_i hi;simp only[aq9,aqH]at gO;subst gO;have hj:j<s:=by have:=(aqF.1 hc).1;rw[bC]at this;exact this
      have lZ:=gS i hi j hj;have qz:=(j_ (hg ⟨i,hi⟩).1).1;rw[aqE (by omega)]at lZ;simp only[lZ,Option.getD_some];exact(hg ⟨i,hi⟩).2.2.2 j c _ hc (aqE _)
     ·simp at gO
theorem IP{t:TypeId}{fs:Array Field}{cs:List Value}{fuel:Nat}{x:DataW H×List MemPlace}(ht:P.underlying t=some (.struct fs))(h:arB enc P w 0 sp held fuel t cs=some x):
 ∃n,fuel=n+1∧∀(i:Nat) (ty:TypeId) (off k:Nat),(fs[i]?).map (fun f:Field=>(f.type,f.offset))=some (ty,off)→P.cellsOf ty=k→∃y,arB enc P w 0 sp held n ty ((cs.drop off).take k)=some y:=by
 obtain⟨xs,n,h1,_,_,h4,h5⟩:=DataW.trod_struct ht h;refine⟨n,h1,fun i ty off k hi hk=>?_⟩;obtain⟨f,hf,NG⟩:=aqL.1 hi;simp only[aq6]at NG;obtain⟨rfl,rfl⟩:=NG
 have Cf:i<xs.length:=by
  rw[h4];exact(Array.getElem?_eq_some_iff.1 hf).1
 have:=h5 i f hf;rw[aqE Cf,hk]at this;exact⟨_,this⟩
end Go.Ev
