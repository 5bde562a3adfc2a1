/- Lemmas over the model, without conditions of their own: code on expressions is sound (2); contracts out of functional programs. -/
import Derived.Test.YtpfogalbnijcoaaGreatEvO
import Derived.Test.YtpfogalbnijcoaaGreatEvN
import Derived.ProofKit
import Derived.OpenShut
open Nat renaming rec->avm,eq_of_beq_eq_true->asb,le_refl->ar8,ble->as5,beq->asc,zero_add->atv,add_zero->axy,zero_le->asT,mul_comm->awr
open List renaming prefix_append->awq,append_assoc->ast,getElem?_append_right->asz,getElem?_cons_zero->atC,drop_of_length_le->asJ,drop_eq_getElem_cons->asH,drop_zero->aup,getElem?_eq_some_iff->ar3,getElem?_eq_getElem->ar2,mem_of_getElem?->ash,getElem?_cons_succ->aur,length->asI,map_cons->asZ,getElem?_map->asi,getElem?_append_left->asd,length_map->aty,ofFn->avc
open Option.some renaming injEq->ar6
open Bool renaming false_eq_true->asA,and_eq_true->ar4,not_eq_true'->asR
open Prod.mk renaming injEq->asu
open Option renaming map_some->asy,bind_some->asa,map_eq_some_iff->ar9,bind_eq_some_iff->aso
open List.cons renaming injEq->as4,inj->auG
open Iff renaming rfl->auZ
open Go.IntKind renaming i64->asC
open Go.Op renaming bytesLess->auy,equalIn->atu
open Go.Addr renaming add->axP
open Go.DataW renaming trod->asY
open Classical renaming axiomOfChoice->axJ
open Option renaming some->aa,none->ah
open Bool renaming true->ab,false->af
set_option linter.all false
namespace Go.Ev
variable{P:Program}{N:Nat}{σ ao:St}{R R':Rs}{φ aL:Ph}{E:Nat->Env}{ν:List IV}{ro:Nat}{ι:Io}{w:World}{cfg:bg}{self:nB}
variable{C:Cr}{Q:IV->Prop}{K:List (List IV->Prop)}{V:SS}{d f0:Nat}{o:Oper}{k:PV SE->SS->ak}{L:List (LO SE)}{Γ:Gm SE}{rd:Option Nat}{df:List Df}
theorem XR.goto{ex:zw}{x:Ex}(h:XR P ν R φ L σ ex x)(l:Nat):x≠.goto l:=by
 cases ex with
 |bY t pv=>obtain⟨v,rfl,_⟩:=h;simp
 |_=>rw[show x=_ from h];simp
theorem XR.norm{ex:zw}{x:Ex}(h:XR P ν R φ L σ ex x)(aZ:ex≠.normal):x≠.normal:=by
 cases ex with
 |normal=>exact absurd rfl aZ
 |bY t pv=>obtain⟨v,rfl,_⟩:=h;simp
 |_=>rw[show x=_ from h];simp
theorem TG{t:Nat}{c:Cl SE}(hc:c≠.un)(h:bN P d V 0 (.tmp t)=.one c):cy d t V.g=aa (.one c):=by
 simp only[bN]at h;cases hg:cy d t V.g with
 |none=>rw[hg]at h;cases h;exact absurd rfl hc
 |some pv=>rw[hg]at h;simpa using h
theorem KW.ks{kk:zw->SS->ak}{nt:Nat}{CW:Nat->jS}(h:KW P C Q d E K ν nt kk CW):KS P C Q d E K ν nt (kk .normal) (λN e σ=>CW N .normal e σ):=
 λV' μ K' R' aL E' ao hf hs=>h .normal V' μ K' R' aL E' ao _ hf rfl hs
theorem Mo{a:Code}{k:zw->SS->ak}{CW:Nat->jS}{H:SS}{n mm f:Nat}{ws:List (Nat×Nat×Nat)}{bad:SS->ak}{lv:Nat}(hKl:K.length=lv)(bf:oY P C Q self)(agB:∀W K ν,¬(bad W).sat P C Q K ν)
 (hK:K.length+1=H.lv)(hHn:H.n=n+mm)(hn:ν.length=n)(je:KW P C Q d E K ν H.nt k CW):∀(m:Nat) {vs:List IV} {R:Rs} {φ:Ph} {E1:Nat->Env} {σ:St},J (au P (ν++vs)) R φ H.g H.l E1 σ->vs.length=mm->(∀j,j<d->E1 j=E j)->(E1 d).n=(E d).n->(E d).n=H.nt->
  (avm (motive:=λ_=>List IV->Prop) (λ_=>False) (λ_ ih vs=>(self d f a H λex W=>match ex with
   |.normal=>match inst n mm H (settle ws W)with
    |some (args,_)=>.next lv (dT args)
    |none=>bad W
   |ex=>k ex W).sat P C Q (K++[ih]) (ν++vs)) m) vs->∃b,∀N,b<=N->ou P N rd m a (E1 d) df σ (CW N)
 |0,_,_,_,_,_,_,_,_,_,_,h=>h.elim
 |m+1,vs,R,φ,E1,σ,hJ,gY,hE,PU,hE2,h=>by
  obtain⟨b,hb⟩:=bf d f a H _ (ν++vs) _ R φ E1 σ (λN=>vR N (λe1 aq=>ou P N rd m a e1 df aq (CW N)) (CW N)) rd df h hJ (by rw[List.length_append,hn,gY,hHn]) (by simp[hK]) (by rw[PU,hE2]) (by
   intro ex V' μ K' R' aL E' ao x hf hx hs
   have other:∀v8,v8≠.normal->XR P (ν++vs++μ) R' aL V'.l ao v8 x->(k v8 V').sat P C Q K' (ν++vs++μ)->∃b,∀N,b<=N->ao.n<=N/\vR N (λe1 aq=>ou P N rd m a e1 df aq (CW N)) (CW N) x (E' d) ao:=by
    intro v8 aZ hx hs;have aoh:∀x,KW P C Q d E1 (K++[x]) (ν++vs) H.nt k CW:=λx=>je.fwd (awq K [x]) hE PU;obtain⟨b,hb⟩:=aoh _ v8 V' μ K' R' aL E' ao x hf hx hs;exact⟨b,λN hN=>⟨(hb N hN).1,(hb N hN).1,λh=>absurd h (hx.norm aZ),λ_=>(hb N hN).2⟩⟩
   cases ex with
   |normal=>
    obtain rfl:=hx;simp only at hs;split at hs
    ·rename_i es dU hi;obtain⟨R2,eU,xX,_⟩:=zX ws hf.hJ;obtain⟨us,p,h1,h2,h3⟩:=hs;obtain⟨hlen,ux⟩:=KQ (qC:=ν) eU hn ⟨vs++μ,by rw[ast]⟩ hi (HB h1);obtain⟨t,ht⟩:=hf.hK;rw[<-ht,ast,asz (by omega),hKl,Nat.sub_self]at h2;simp only[List.singleton_append,atC,ar6]at h2;subst h2;obtain⟨b,hb⟩:=Mo hKl bf agB hK hHn hn je m ux hlen (λj hj=>by rw[hf.hE j hj,hE j hj]) (by rw[hf.I8,PU]) hE2 h3;exact⟨max b ao.n,λN hN=>⟨by omega,by omega,λ_=>hb N (by omega),λh=>absurd rfl h⟩⟩
    ·exact(agB _ _ _ hs).elim
   |exit i=>exact other (.exit i) (by simp) hx hs
   |ret=>exact other .ret (by simp) hx hs
   |bY t pv=>exact other (.bY t pv) (by simp) hx hs)
  exact⟨b,λN hN=>.succ (hb N hN)⟩
theorem Mp{a:Code}{k:zw->SS->ak}{CW:Nat->jS}{f:Nat}(bf:oY P C Q self):∀(n:Nat) (V:SS) ν K R φ E σ,(Kq self d f a k n V).sat P C Q K ν->J (au P ν) R φ V.g V.l E σ->ν.length=V.n->K.length=V.lv->(E d).n=V.nt->KW P C Q d E K ν V.nt k CW->
 ∃b,∀N,b<=N->ou P N rd n a (E d) df σ (CW N)
 |0,_,_,_,_,_,_,_,hs,_,_,_,_,_=>hs.elim
 |n+1,V,ν,K,R,φ,E,σ,hs,hJ,hn,hK,cn,je=>by
  obtain⟨b,hb⟩:=bf d f a V _ ν K R φ E σ (λN=>vR N (λe1 aq=>ou P N rd n a e1 df aq (CW N)) (CW N)) rd df hs hJ hn hK cn (by
   intro ex V' μ K' R' aL E' ao x0 hf hx bt
   have other:∀v8,v8≠.normal->XR P (ν++μ) R' aL V'.l ao v8 x0->(k v8 V').sat P C Q K' (ν++μ)->∃b,∀N,b<=N->ao.n<=N/\vR N (λe1 aq=>ou P N rd n a e1 df aq (CW N)) (CW N) x0 (E' d) ao:=by
    intro v8 aZ hx hs;obtain⟨b,hb⟩:=je v8 V' μ K' R' aL E' ao x0 hf hx hs;exact⟨b,λN hN=>⟨(hb N hN).1,(hb N hN).1,λh=>absurd h (hx.norm aZ),λ_=>(hb N hN).2⟩⟩
   cases ex with
   |normal=>
    obtain rfl:=hx
    obtain⟨b,hb⟩:=Mp bf n V' (ν++μ) K' R' aL E' ao bt hf.hJ hf.hn hf.fP (by rw[hf.I8,cn,hf.cn]) (by
     rw[hf.cn];exact je.fwd hf.hK hf.hE hf.I8)
    exact⟨max b ao.n,λN hN=>⟨by omega,by omega,λ_=>hb N (by omega),λh=>absurd rfl h⟩⟩
   |exit i=>exact other (.exit i) (by simp) hx bt
   |ret=>exact other .ret (by simp) hx bt
   |bY t pv=>exact other (.bY t pv) (by simp) hx bt)
  exact⟨b,λN hN=>.succ (hb N hN)⟩
theorem KW.uniq{k:zw->SS->ak}{CW:Nat->jS}{nt:Nat}{Q':IV->Prop}(hq:∀z,Q' z->Q z)(h:KW P C Q d E K ν nt k CW):KW P C Q' d E (K.map λ_ _=>False) ν nt k CW:=by
 intro ex V' μ K' R' aL E' ao x hf hx hs;obtain⟨t,ht⟩:=hf.hK;refine h ex V' μ (K++t) R' aL E' ao x ⟨awq K t,?_,hf.cn,hf.hJ,hf.hn,hf.hE,hf.I8⟩ hx (ak.eA P _ hq ?_ hs)
 ·have:=hf.fP;rw[<-ht]at this;simpa using this
 ·rw[<-ht];exact(sD.no K).app (sD.refl t)
theorem SG(eW:P.follows .mixedOrders=ab)(hC:jb P C)(YR:∀Q,oY P C Q self):oY P C Q (nC P cfg self):=by
 have bf:=YR Q;intro d f c V k ν K R φ E σ CW rd df hs hJ hn hK cn je;cases c with
 |skip=>
  obtain⟨b,hb⟩:=je.now hJ hn hK (ex:=.normal) rfl hs;exact⟨b,λN hN=>.skip (hb N hN).2⟩
 |label l=>
  obtain⟨b,hb⟩:=je.now hJ hn hK (ex:=.normal) rfl hs;exact⟨b,λN hN=>.label (hb N hN).2⟩
 |exit id=>
  obtain⟨b,hb⟩:=je.now hJ hn hK (ex:=.exit id) rfl hs;exact⟨b,λN hN=>.exit (hb N hN).2⟩
 |ret=>
  obtain⟨b,hb⟩:=je.now hJ hn hK (ex:=.ret) rfl hs;exact⟨b,λN hN=>.ret (hb N hN).2⟩
 |region id ops draw=>
  cases draw with
  |true=>
   simp only[nC,if_true]at hs;split at hs
   ·rename_i nW;exact abR (fn:=0) eW hC nW hs hJ hn hK cn je.ks
   ·exact hs.elim
  |false=>
   simp only[nC,asA,if_false]at hs;obtain⟨b,hb⟩:=TF (CX:=CW) (rd:=rd) (df:=df) hC bf ops.toList [] V ν K R φ E σ (l8.nil _) hs hJ hn hK cn je.ks je.kp;exact⟨b,λN hN=>.region (hb N hN)⟩
 |seq x y=>
  simp only[nC]at hs
  obtain⟨b,hb⟩:=bf d f x V _ ν K R φ E σ (λN=>vR N (λe1 aq=>dF P N rd y e1 df aq (CW N)) (CW N)) rd df hs hJ hn hK cn (by
   intro ex V' μ K' R' aL E' ao x0 hf hx bt
   have other:∀v8,v8≠.normal->XR P (ν++μ) R' aL V'.l ao v8 x0->(k v8 V').sat P C Q K' (ν++μ)->∃b,∀N,b<=N->ao.n<=N/\vR N (λe1 aq=>dF P N rd y e1 df aq (CW N)) (CW N) x0 (E' d) ao:=by
    intro v8 aZ hx hs;obtain⟨b,hb⟩:=je v8 V' μ K' R' aL E' ao x0 hf hx hs;exact⟨b,λN hN=>⟨(hb N hN).1,(hb N hN).1,λh=>absurd h (hx.norm aZ),λ_=>(hb N hN).2⟩⟩
   cases ex with
   |normal=>
    obtain rfl:=hx
    obtain⟨b,hb⟩:=bf d f y V' k (ν++μ) K' R' aL E' ao CW rd df bt hf.hJ hf.hn hf.fP (by rw[hf.I8,cn,hf.cn]) (by
     rw[hf.cn];exact je.fwd hf.hK hf.hE hf.I8)
    exact⟨max b ao.n,λN hN=>⟨by omega,by omega,λ_=>hb N (by omega),λh=>absurd rfl h⟩⟩
   |exit i=>exact other (.exit i) (by simp) hx bt
   |ret=>exact other .ret (by simp) hx bt
   |bY t pv=>exact other (.bY t pv) (by simp) hx bt)
  exact⟨b,λN hN=>.seq (hb N hN)⟩
 |cond c x y=>
  simp only[nC]at hs;have hc:=bo hJ d 0 c;split at hs
  ·rename_i hh;rw[hh]at hc;obtain⟨u,h1,h2,_⟩:=hc;simp only[au,SE.den,ar6]at h1;subst h1;obtain⟨b,hb⟩:=bf d f x V k ν K R φ E σ CW rd df hs hJ hn hK cn je;exact⟨b,λN hN=>.cond (bZ h2) (by rw[if_pos rfl];exact hb N hN)⟩
  ·rename_i hh;rw[hh]at hc;obtain⟨u,h1,h2,_⟩:=hc;simp only[au,SE.den,ar6]at h1;subst h1;obtain⟨b,hb⟩:=bf d f y V k ν K R φ E σ CW rd df hs hJ hn hK cn je;exact⟨b,λN hN=>.cond (bZ h2) (by rw[if_neg (by simp)];exact hb N hN)⟩
  ·rename_i e _ _ hh;split at hs
   ·rename_i t;split at hs
    ·exact hs.elim
    ·have hg:=TG (by simp) hh;rcases hs with⟨h1,hs⟩|⟨h1,hs⟩
     ·obtain⟨aE,bD⟩:=J.refine hJ (.inl hg) h1;obtain⟨b,hb⟩:=bf d f x _ k ν K R φ E σ CW rd df hs bD hn hK cn je;exact⟨b,λN hN=>.cond (t:=ab) aE (by rw[if_pos rfl];exact hb N hN)⟩
     ·obtain⟨aE,bD⟩:=J.refine hJ (.inl hg) h1;obtain⟨b,hb⟩:=bf d f y _ k ν K R φ E σ CW rd df hs bD hn hK cn je;exact⟨b,λN hN=>.cond (t:=af) aE (by rw[if_neg (by simp)];exact hb N hN)⟩
   ·exact hs.elim
  ·rename_i e hh;split at hs
   ·rename_i t;split at hs
    ·exact hs.elim
    ·have hg:=TG (by simp) hh;rcases hs with⟨h1,hs⟩|⟨h1,hs⟩
     ·obtain⟨aE,bD⟩:=J.refine hJ (.inr ⟨_,hg⟩) h1;obtain⟨b,hb⟩:=bf d f x _ k ν K R φ E σ CW rd df hs bD hn hK cn je;exact⟨b,λN hN=>.cond (t:=ab) aE (by rw[if_pos rfl];exact hb N hN)⟩
     ·obtain⟨aE,bD⟩:=J.refine hJ (.inr ⟨_,hg⟩) h1;obtain⟨b,hb⟩:=bf d f y _ k ν K R φ E σ CW rd df hs bD hn hK cn je;exact⟨b,λN hN=>.cond (t:=af) aE (by rw[if_neg (by simp)];exact hb N hN)⟩
   ·exact hs.elim
  ·exact hs.elim
 |block id x=>
  simp only[nC]at hs
  obtain⟨b,hb⟩:=bf d f x V _ ν K R φ E σ (λN ex e1 aq=>CW N (match ex with|.exit i=>if i=id then .normal else .exit i|ex=>ex) e1 aq) rd df hs hJ hn hK cn (by
   intro ex V' μ K' R' aL E' ao x0 hf hx bt;cases ex with
   |normal=>obtain rfl:=hx;exact je .normal V' μ K' R' aL E' ao _ hf rfl bt
   |ret=>obtain rfl:=hx;exact je .ret V' μ K' R' aL E' ao _ hf rfl bt
   |bY t pv=>obtain⟨v,rfl,hv⟩:=hx;exact je (.bY t pv) V' μ K' R' aL E' ao _ hf ⟨v,rfl,hv⟩ bt
   |exit i=>
    obtain rfl:=hx;simp only at bt;split at bt
    ·rename_i hh;have:=asb hh;subst this;simpa using je .normal V' μ K' R' aL E' ao _ hf rfl bt
    ·rename_i hh;have aZ:i≠id:=by rintro rfl;simp at hh
     simpa[aZ]using je (.exit i) V' μ K' R' aL E' ao _ hf rfl bt)
  exact⟨b,λN hN=>.block (hb N hN)⟩
 |scope x=>
  simp only[nC]at hs
  obtain⟨b,hb⟩:=bf d f x V k ν K R φ E σ (λN ex e1 aq=>(∀l,ex≠.goto l)/\CW N ex e1 aq) rd df hs hJ hn hK cn (by
   intro ex V' μ K' R' aL E' ao x0 hf hx bt;obtain⟨b,hb⟩:=je ex V' μ K' R' aL E' ao x0 hf hx bt;exact⟨b,λN hN=>⟨(hb N hN).1,hx.goto,(hb N hN).2⟩⟩)
  exact⟨b,λN hN=>.scope (hb N hN)⟩
 |loop x=>
  simp only[nC]at hs;split at hs
  ·rename_i nn _;obtain⟨b,hb⟩:=Mp (rd:=rd) (df:=df) bf nn V ν K R φ E σ hs hJ hn hK cn je;exact⟨b,λN hN=>.loop (hb N hN)⟩
  split at hs
  ·rename_i es dU hi
   obtain⟨Q',K0,hQ,hK,je,bf,hs⟩:∃(Q':IV->Prop) (K0:List (List IV->Prop)),True/\K0.length=V.lv/\KW P C Q' d E K0 ν V.nt k CW/\oY P C Q' self/\(ak.loop (dT es) _).sat P C Q' K0 ν:=by
    split at hs
    ·obtain⟨z,hz,hs⟩:=hs;exact⟨_,_,trivial,by simpa using hK,je.uniq (λz' h=>by rw[show z'=z from h];exact hz),YR _,hs⟩
    ·exact⟨Q,K,trivial,hK,je,bf,hs⟩
   obtain⟨vs,h1,m,h2⟩:=hs;obtain⟨R2,eU,xX,_⟩:=PS _ hJ;obtain⟨hlen,ux⟩:=KQ (qC:=ν) eU (by rw[xX];exact hn) ⟨[],by simp⟩ hi (HB h1);obtain⟨b,hb⟩:=Mo (rd:=rd) (df:=df) (CW:=CW) (E:=E) (bad:=λW=>.bad _ _ _ _ _ _ _ W.g W.l) hK bf (λ_ _ _ h=>h) (by exact congrArg Nat.succ hK) (by rfl) (hn.trans xX.symm) (by exact je) m ux hlen (λ_ _=>rfl) rfl (by exact cn) h2;exact⟨b,λN hN=>.loop (hb N hN)⟩
  ·exact hs.elim
 |_=>exact hs.elim
theorem P1(eW:P.follows .mixedOrders=ab)(hC:jb P C):∀n Q,oY P C Q (exec P cfg n)
 |0,_=>λ_ _ _ _ _ _ _ _ _ _ _ _ _ _ hs _ _ _ _ _=>hs.elim
 |n+1,_=>SG eW hC (P1 eW hC n)
theorem uQ(eW:P.follows .mixedOrders=ab)(hC:jb P C)(n:Nat):oY P C Q (exec P cfg n):=P1 eW hC n Q
end Go.Ev
namespace Go.Ev
variable{P:Program}{N:Nat}{σ ao:St}{R R':Rs}{φ aL:Ph}{E:Nat->Env}{ν:List IV}{ro:Nat}{ι:Io}{w:World}{cfg:bg}{self:nB}
variable{C:Cr}{Q:IV->Prop}{K:List (List IV->Prop)}{V:SS}{d f0:Nat}{L:List (LO SE)}{Γ:Gm SE}{rd:Option Nat}{df:List Df}
theorem ji.vr1{V V1:SS}{R1:Rs}(h:ji P ν R φ V σ R1 V1){x:IV}{p:Bool×List (Cl SE)}(hx:tq (au P ν) R φ V.l σ x p):tq (au P ν) R1 φ V1.l σ x p:=by
 unfold tq at hx⊢;split
 ·rename_i hp;rw[if_pos hp]at hx;obtain⟨xs,h1,h2⟩:=hx;exact⟨xs,h1,h2.mono λ_ _ bR=>h.LQ bR⟩
 ·rename_i hp;rw[if_neg hp]at hx;obtain⟨c,h1,h2⟩:=hx;exact⟨c,h1,h.LQ h2⟩
theorem TH:∀{vs:List (Bool×List (Cl SE))} {V V':SS} {R:Rs} {fr:Bool} {zs:List SE},J (au P ν) R φ V.g V.l E σ->tA.OW V vs=aa (fr,zs,V')->
 ∃R',ji P ν R φ V σ R' V'/\J (au P ν) R' φ V'.g V'.l E σ/\∀xs,All2 (tq (au P ν) R φ V.l σ) xs vs->∃ys,All2 (λ(z:SE) y=>z.den P ν=aa y) zs ys/\All2 (bn fr R' σ) xs ys
 |[],V,V',R,fr,zs,h,hr=>by
  simp only[tA.OW,ar6,asu]at hr;obtain⟨rfl,rfl,rfl⟩:=hr;refine⟨R,.refl h,h,λxs hx=>?_⟩;cases xs with
  |nil=>exact⟨[],trivial,trivial⟩
  |cons=>exact hx.elim
 |(a,cs)::vs,V,V',R,fr,zs,h,hr=>by
  simp only[tA.OW]at hr;split at hr
  ·rename_i f1 z1 V1 h1;split at hr
   ·rename_i f2 ys2 V2 h2;obtain⟨R1,a1,a2,_,a3⟩:=uL h h1;obtain⟨R2,b1,b2,b3⟩:=TH a2 h2
    have key:∀z,(a=ab->z=dT z1)->(a=af->z1=[z])->(f1||f2,z::ys2,V2)=(fr,zs,V')->∃R',ji P ν R φ V σ R' V'/\J (au P ν) R' φ V'.g V'.l E σ/\∀xs,All2 (tq (au P ν) R φ V.l σ) xs ((a,cs)::vs)->∃ys,All2 (λ(z:SE) y=>z.den P ν=aa y) zs ys/\All2 (bn fr R' σ) xs ys:=by
     intro z mP IT he;simp only[asu]at he;obtain⟨rfl,rfl,rfl⟩:=he;refine⟨R2,a1.trans b1,b2,λxs hx=>?_⟩;cases xs with
     |nil=>exact hx.elim
     |cons x xs=>
      obtain⟨ys,d1,d2⟩:=b3 xs (hx.2.mono λ_ _ bR=>a1.vr1 bR);have y7:=hx.1;unfold tq at y7;cases a with
      |true=>
       simp only[if_true]at y7;obtain⟨us,rfl,h5⟩:=y7;obtain⟨ws,e1,e2,_⟩:=a3 us h5;refine⟨.agg ws::ys,⟨by rw[mP rfl];exact eB e1,d1⟩,⟨?_,d2.mono λ_ _ bR=>bR.wide (λh=>by simp[h])⟩⟩;exact .agg us ws e2.len λi c e g1 g2=>((e2.get g1 g2).mono b1.2.2.2.grow).wide (λh=>by simp[h])
      |false=>
       simp only[asA,if_false]at y7;obtain⟨c,hc,h5⟩:=y7;obtain⟨ws,e1,e2,_⟩:=a3 [x] (by rw[hc];exact⟨h5,trivial⟩);rw[IT rfl]at e1;cases ws with
       |nil=>exact e1.elim
       |cons y ws=>
        exact⟨y::ys,⟨e1.1,d1⟩,⟨(e2.1.mono b1.2.2.2.grow).wide (λh=>by simp[h]),d2.mono λ_ _ bR=>bR.wide (λh=>by simp[h])⟩⟩
    cases a with
    |true=>
     simp only[ar6]at hr;exact key _ (λ_=>rfl) (λh=>by cases h) hr
    |false=>
     split at hr<;>first|(cases hr;done)|skip
     ·exact absurd ‹af=ab› (by simp)
     ·simp only[ar6]at hr;exact key _ (λh=>by cases h) (λ_=>rfl) hr
   ·cases hr
  ·cases hr
theorem P2{V':SS}{pv:PV SE}{fr:Bool}{z:SE}(h:J (au P ν) R φ V.g V.l E σ)(hr:tA V pv=aa (fr,z,V')){x:IV}(hx:VR (au P ν) R φ V.l σ x pv):
 ∃R' y,z.den P ν=aa y/\bn fr R' σ x y:=by
 cases pv with
 |one c=>
  obtain⟨R',_,_,h3⟩:=KM h hr (λ_ h=>by cases h);obtain⟨y,h4,h5⟩:=h3 x hx;exact⟨R',y,h4,h5⟩
 |ag cs=>
  obtain⟨R',_,_,h3⟩:=KM h hr (λ_ h=>by cases h);obtain⟨y,h4,h5⟩:=h3 x hx;exact⟨R',y,h4,h5⟩
 |tu vs=>
  simp only[tA]at hr;split at hr
  ·rename_i f zs V1 qA;simp only[ar6,asu]at hr;obtain⟨rfl,rfl,rfl⟩:=hr;obtain⟨R',_,_,h3⟩:=TH h qA;obtain⟨xs,rfl,wA⟩:=hx;obtain⟨ys,a,b⟩:=h3 xs wA;exact⟨R',.az ys,by simp[SE.den,eB a],.az xs ys b.len λi c e h1 h2=>b.get h1 h2⟩
  ·cases hr
theorem v_{args:List IV}{f:ak}(hp:∀v∈args,Pure v):∀{ts:List TypeId} {j:Nat},(pz P j ts f).sat P C Q K args->j+ts.length=args.length->f.sat P C Q K args/\All2 (VR (au P args) R φ L σ) (args.drop j) (du P j ts)
 |[],j,hs,hl=>by
  simp at hl;rw[asJ (by omega)];exact⟨hs,trivial⟩
 |t::ts,j,hs,hl=>by
  simp at hl;have hj:j<args.length:=by omega
  have hd:(SE.var j).den P args=aa args[j]:=by simp[SE.den,hj]
  obtain⟨h1,h2,_⟩:=Eu (R:=R) (φ:=φ) (L:=L) (σ:=σ) hd (hp _ (List.getElem_mem hj)) hs;obtain⟨h4,h5⟩:=v_ hp h1 (by omega);refine⟨h4,?_⟩;rw[asH hj];exact⟨h2,h5⟩
theorem Ji{x z:IV}{fr:Bool}(h:aA z=ab)(hc:bn fr R σ x z):bn af R σ x z:=by
 cases z<;>simp only[aA]at h<;>first|(cases h;done)|skip
 rw[bZ hc];exact .raw _
theorem eZ.nN(eW:P.follows .mixedOrders=ab)(hC:jb P C){n:Nat}{new:Bool}{f:FuncId}{cF:ak}{args:List IV}{z:IV}(he:aK P cfg n new f=cF)(hl:(P.funcs[f]?).map (·.params.size)=aa args.length)(hp:∀x∈args,Pure x)
 (hs:cF.sat P C (·=z) [] args):eZ P af new f args z:=by
 subst he;unfold aK at hs;split at hs<;>first|(exact hs.elim)|skip
 rename_i fn bT;split at hs<;>first|(exact hs.elim)|skip
 rename_i c hb;split at hs<;>first|(exact hs.elim)|skip
 rename_i hle;have JY:fn.params.size<=fn.ntmps:=by simpa using hle
 rw[bT]at hl;simp only[asy,ar6]at hl;obtain⟨hs,bz⟩:=v_ (R:=λ_=>ah) (φ:=λ_=>ah) (L:=[]) (σ:=⟨0,.lf⟩) hp hs (by simpa using hl);have hlen:args.length<=fn.ntmps:=by omega
 have hJ:J (au P args) (λ_=>ah) (λ_=>ah) (setArgs 0 0 (du P 0 fn.params.toList)) [] (λ_=>cJ args fn.ntmps) ⟨0,.lf⟩:=by
  refine⟨λd t pv hg=>?_,λk ob h=>(by simp at h),λk k' id h=>(by cases h),λk id h=>(by cases h),λid m h=>(by cases h),λid m cs ay mn h=>(by cases h),T.WF.lf,λid _=>rfl⟩;obtain⟨rfl,_,h3⟩:=fw (α:=IV) hg;rw[aup]at bz;have ht:t<args.length:=by rw[bz.len];have:=(ar3.1 h3).1;simpa using this
  show VR _ _ _ _ _ ((cJ args fn.ntmps).at t) pv;rw[(cP hlen).2 ht,ar2 ht];exact bz.get (ar2 ht) (by simpa using h3)
 obtain⟨b,nO⟩:=uQ eW hC n 0 f c ⟨setArgs 0 0 (du P 0 fn.params.toList),[],fn.params.size,0,fn.ntmps⟩ _ args [] _ _ _ _
  (λN ex e1 aq=>(ex=.normal\/ex=.ret)/\aq.n<=N/\∃v,bJ P fn e1 aq=aa v/\Can (!new) aq v z) ah [] hs hJ hl.symm rfl (cP (t:=0) hlen).1 (by
   intro ex V' μ K' R' aL E' ao x0 hf iu bt
   have main:∀ju,lx P 0 V' fn.results.toList=aa ju->(match tA V' (Ee ju)with|some (fr,z,_)=>ak.ret (if new&&fr then .rw z else z)|none=>.fail 142).sat P C (·=z) K' (args++μ)->∃b,∀N,b<=N->ao.n<=N/\ao.n<=N/\∃v,bJ P fn (E' 0) ao=aa v/\Can (!new) ao v z:=by
    intro ju hr dK;obtain⟨vs,h1,h2⟩:=lA hf.hJ hr;have hv:=KN h2;split at dK<;>first|(exact dK.elim)|skip
    rename_i fr e _ jC;obtain⟨R2,y,h3,h4⟩:=P2 hf.hJ jC hv;obtain⟨z',h5,rfl⟩:=dK;refine⟨ao.n,λN hN=>⟨hN,hN,EA vs,kB h1,?_⟩⟩;cases new with
    |false=>
     simp only[Bool.false_and,asA,if_false]at h5;rw[h3]at h5;cases h5;exact h4.cH.can
    |true=>
     cases fr with
     |false=>
      simp only[Bool.and_false,asA,if_false]at h5;rw[h3]at h5;cases h5;exact h4.can
     |true=>
      simp only[Bool.and_self,if_true,SE.den,h3,asa]at h5;split at h5
      ·rename_i dO;cases h5;exact(Ji dO h4).can
      ·cases h5
   cases ex with
   |exit i=>exact bt.elim
   |bY t pv=>exact bt.elim
   |normal=>
    obtain rfl:=iu;simp only at bt;split at bt
    ·rename_i ju hr;obtain⟨b,hb⟩:=main ju hr bt;exact⟨b,λN hN=>⟨(hb N hN).1,.inl rfl,(hb N hN).2⟩⟩
    ·exact bt.elim
   |ret=>
    obtain rfl:=iu;simp only at bt;split at bt
    ·rename_i ju hr;obtain⟨b,hb⟩:=main ju hr bt;exact⟨b,λN hN=>⟨(hb N hN).1,.inr rfl,(hb N hN).2⟩⟩
    ·exact bt.elim)
 exact eZ.Da (dL.body (RW:=λv aq=>Can (!new) aq v z) bT hb hlen (nO b (ar8 _))) λv ao h=>h
end Go.Ev
namespace Go.Ev
section run
variable(P:Program)(cfg:bg)
def xG(n s:Nat)(f:FuncId):ak:=
 match P.funcs[f]? with
 |some fn=>match fn.body,fn.params.toList with
  |some c,_::ts=>
   if as5 fn.params.size fn.ntmps then
    pz P 1 ts<|exec P cfg n 0 f c ⟨setArgs 0 0 (.one (.sr 0)::du P 1 ts),[.row s af af ab (.var 0)],fn.params.size,0,fn.ntmps⟩ λex V=>match ex with
     |.exit _=>.fail 141
     |.bY _ _=>.fail 146
     |_=>match lx P 0 V fn.results.toList with
      |some [.one (.sr k)]=>match V.l[k]? with
       |some (.row s' af af fr z)=>if asc s s' then .ret (if fr then .rws z else z)else .fail 146
       |_=>.fail 147
      |_=>.fail 148
   else .fail 143
  |_,_=>.fail 144
 |none=>.fail 145
end run
variable{P:Program}{N:Nat}{σ ao:St}{R R':Rs}{φ aL:Ph}{E:Nat->Env}{ν:List IV}{cfg:bg}{self:nB}
variable{C:Cr}{Q:IV->Prop}{K:List (List IV->Prop)}{V:SS}{d f0:Nat}{L:List (LO SE)}{Γ:Gm SE}
theorem Jj{xs args:List IV}{x z:IV}{f:ak}(hp:All2 iD args xs):∀{ts:List TypeId} {j:Nat},(pz P (j+1) ts f).sat P C Q K (z::xs)->j+ts.length=xs.length->f.sat P C Q K (z::xs)/\All2 (VR (au P (z::xs)) R φ L σ) (args.drop j) (du P (j+1) ts)
 |[],j,hs,hl=>by
  simp at hl;rw[asJ (by have:=hp.len;omega)];exact⟨hs,trivial⟩
 |t::ts,j,hs,hl=>by
  simp at hl;have hj:j<xs.length:=by omega
  have fO:j<args.length:=by have:=hp.len;omega
  have hd:(SE.var (j+1)).den P (z::xs)=aa xs[j]:=by simp[SE.den,hj]
  obtain⟨h1,h2⟩:=Cz (R:=R) (φ:=φ) (L:=L) (σ:=σ) hd (hp.get (ar2 fO) (ar2 hj)) hs;obtain⟨h4,h5⟩:=Jj (x:=x) hp h1 (by omega);refine⟨h4,?_⟩;rw[asH fO];exact⟨h2,h5⟩
theorem Cq.nN(eW:P.follows .mixedOrders=ab)(hC:jb P C){n s:Nat}{f:FuncId}{cF:ak}{es aF xs:List IV}(he:xG P cfg n s f=cF)(hl:(P.funcs[f]?).map (·.params.size)=aa (xs.length+1))
 (hs:cF.sat P C (·=.tree s aF) [] (.tree s es::xs)):Cq P s f es xs aF:=by
 subst he;unfold xG at hs;split at hs<;>first|(exact hs.elim)|skip
 rename_i fn bT;split at hs<;>first|(exact hs.elim)|skip
 rename_i c t0 ts hb qD;split at hs<;>first|(exact hs.elim)|skip
 rename_i hle;have JY:fn.params.size<=fn.ntmps:=by simpa using hle
 rw[bT]at hl;simp only[asy,ar6]at hl
 have aT:ts.length=xs.length:=by
  have:fn.params.toList.length=fn.params.size:=by simp
  rw[qD]at this;simp at this;omega
 intro R φ E σ x args kA hX0 br KW PH;have Ml:args.length=xs.length:=br.len;obtain⟨bE,iQ,k1,k2,k3⟩:=kA.obj 0 _ rfl;have Mf:aa (IV.tree s es)=aa (.tree s iQ):=k1;cases Mf;obtain⟨dC,bz⟩:=Jj (x:=x) (j:=0) (R:=R) (φ:=φ) (L:=[.row s af af ab (.var 0)]) (σ:=σ) br hs (by omega);rw[aup]at bz;have ig:(SE.var 0).den P (.tree s es::xs)=aa (.tree s es):=by simp[SE.den]
 have hX:cD (au P (.tree s es::xs)) R φ [.row s af af ab (.var 0)] σ x (.sr 0):=by
  obtain⟨s1,sE,r6,sF,z1,eT,b1,b2,b3⟩:=hX0;have wG:aa (LO.row s af af af ())=aa (.row s1 sE r6 sF z1):=b1;cases wG;have pJ:aa (IV.tree s es)=aa (.tree s eT):=b2;cases pJ;exact⟨s,af,af,ab,.var 0,es,rfl,ig,b3⟩
 have zY:All2 (VR (au P (.tree s es::xs)) R φ [.row s af af ab (.var 0)] σ) (x::args) (.one (.sr 0)::du P 1 ts):=⟨hX,bz⟩;have hlen:(x::args).length<=fn.ntmps:=by simp;omega
 have hJ:J (au P (.tree s es::xs)) R φ (setArgs 0 0 (.one (.sr 0)::du P 1 ts)) [.row s af af ab (.var 0)] (λ_=>cJ (x::args) fn.ntmps) σ:=by
  refine⟨λd t pv hg=>?_,λj ob hj=>?_,kA.inj,λj id hj=>?_,kA.qw,kA.fits,kA.wf,kA.top⟩
  ·obtain⟨rfl,_,h3⟩:=fw (α:=IV) hg;have ht:t<(x::args).length:=by rw[zY.len];have:=(ar3.1 h3).1;simpa using this
   show VR _ _ _ _ _ ((cJ (x::args) fn.ntmps).at t) pv;rw[(cP hlen).2 ht,ar2 ht];exact zY.get (ar2 ht) (by simpa using h3)
  ·cases j with
   |succ j=>simp at hj
   |zero=>
    simp at hj;subst hj;refine⟨bE,es,ig,k2,?_⟩;rcases k3 with⟨a,b⟩|⟨id,cs,ay,mn,a1,a2,a3,a4,a5,a6,a7⟩
    ·exact .inl ⟨a,b⟩
    ·exact .inr ⟨id,cs,ay,mn,a1,a2,a3,a4,a5,a6,λq u v hu hv=>(a7 q u v hu hv).wide (λh=>by cases h)⟩
  ·have:=kA.lt j id hj;simpa using this
 obtain⟨b,nO⟩:=uQ eW hC n 0 f c ⟨setArgs 0 0 (.one (.sr 0)::du P 1 ts),[.row s af af ab (.var 0)],fn.params.size,0,fn.ntmps⟩ _ (.tree s es::xs) [] _ _ _ _
  (λN ex e1 aq=>(ex=.normal\/ex=.ret)/\aq.n<=N/\∃v,bJ P fn e1 aq=aa v/\KW N v aq) ah [] dC hJ (by simp;omega) rfl (cP (t:=0) hlen).1 (by
   intro ex V' μ K' R' aL E' ao x0 hf iu bt
   have main:(match lx P 0 V' fn.results.toList with
    |some [.one (.sr k)]=>match V'.l[k]? with
     |some (.row s' af af fr z)=>if asc s s' then ak.ret (if fr then .rws z else z)else .fail 146
     |_=>.fail 147
    |_=>.fail 148).sat P C (·=IV.tree s aF) K' (IV.tree s es::xs++μ)->∃b,∀N,b<=N->ao.n<=N/\ao.n<=N/\∃v,bJ P fn (E' 0) ao=aa v/\KW N v ao:=by
    intro dK;split at dK<;>first|(exact dK.elim)|skip
    rename_i k hr;obtain⟨vs,h1,h2⟩:=lA hf.hJ hr;split at dK<;>first|(exact dK.elim)|skip
    rename_i s' fr z hk;split at dK<;>first|(exact dK.elim)|skip
    rename_i ir;have uP:=asb ir;subst uP;obtain⟨z',h5,rfl⟩:=dK;obtain⟨v,rfl,hv⟩:=kQ h2;have er:bJ P fn (E' 0) ao=aa v:=kB h1;obtain⟨m0,GP,m1,m2,m3⟩:=hf.hJ.obj k _ hk;have Jk:z.den P (IV.tree s es::xs++μ)=aa (.tree s GP):=m1
    have uj:GP=aF/\(fr=ab->∀e∈GP,∀c∈cellsOf e,aA c=ab):=by
     cases fr with
     |false=>
      simp only[asA,if_false]at h5;rw[Jk]at h5;cases h5;exact⟨rfl,λh=>by cases h⟩
     |true=>
      simp only[if_true]at h5;obtain⟨s1,eT,c1,c2,c3⟩:=F0 h5;rw[Jk]at c1;cases c1;cases c2;exact⟨rfl,λ_=>c3⟩
    obtain⟨rfl,dO⟩:=uj
    have aoi:∀{u w:IV} {q:Nat},(flat GP)[q]?=aa w->bn fr R' ao u w->bn af R' ao u w:=by
     intro u w q hw hc;cases fr with
     |false=>exact hc
     |true=>
      obtain⟨e,he,qW⟩:=List.mem_flatMap.1 (ash hw);exact Ji (dO rfl e he w qW) hc
    obtain⟨b,hb⟩:=PH R' (λj=>if j=0 then aL k else ah) ao v (by
     refine⟨λd t pv hg=>(by cases hg),λj ob hj=>?_,λj j' id h1 h2=>?_,λj id hj=>?_,hf.hJ.qw,hf.hJ.fits,hf.hJ.wf,hf.hJ.top⟩
     ·cases j with
      |succ j=>simp at hj
      |zero=>
       simp at hj;subst hj;refine⟨m0,GP,rfl,m2,?_⟩;rcases m3 with⟨a,b⟩|⟨id,cs,ay,mn,a1,a2,a3,a4,a5,a6,a7⟩
       ·exact .inl ⟨by simp[a],b⟩
       ·exact .inr ⟨id,cs,ay,mn,by simp[a1],a2,a3,a4,a5,a6,λq u w hu hw=>aoi hw (a7 q u w hu hw)⟩
     ·split at h1<;>first|(cases h1;done)|skip
      split at h2<;>first|(cases h2;done)|skip
      omega
     ·split at hj<;>first|(cases hj;done)|skip
      rename_i YC;subst YC;exact⟨by simp,(hf.hJ.lt k id hj).2⟩) (by
     obtain⟨s1,sE,r6,sF,z1,eT,b1,b2,b3⟩:=hv;rw[hk]at b1;cases b1;have pJ:z.den P (IV.tree s es::xs++μ)=aa (.tree s eT):=b2;rw[Jk]at pJ;cases pJ;refine⟨s,af,af,af,(),GP,rfl,rfl,?_⟩;rcases b3 with⟨c1,c2,c3⟩|⟨id,cs,ay,mn,cap,c1,c2,c3,c4,c5,c6⟩
     ·exact .inl ⟨by simp[c1],c2,c3⟩
     ·exact .inr ⟨id,cs,ay,mn,cap,by simp[c1],c2,c3,c4,c5,c6⟩)
    exact⟨max b ao.n,λN hN=>⟨by omega,by omega,v,er,hb N (by omega)⟩⟩
   cases ex with
   |exit i=>exact bt.elim
   |bY t pv=>exact bt.elim
   |normal=>
    obtain rfl:=iu;obtain⟨b,hb⟩:=main bt;exact⟨b,λN hN=>⟨(hb N hN).1,.inl rfl,(hb N hN).2⟩⟩
   |ret=>
    obtain rfl:=iu;obtain⟨b,hb⟩:=main bt;exact⟨b,λN hN=>⟨(hb N hN).1,.inr rfl,(hb N hN).2⟩⟩)
 exact⟨b,λN hN=>dL.body (RW:=KW N) bT hb hlen (nO N hN)⟩
end Go.Ev
namespace Go.Ev
def KU:List Nat->Nat
 |[]=>0
 |n::ns=>n+KU ns
def lR:Nat->List Nat->List (LO SE)
 |_,[]=>[]
 |j,n::ns=>.var ((List.range n).map λq=>.v (.var (j+q)))::lR (j+n) ns
def j9:Nat->List Nat->List (PV SE)
 |_,[]=>[]
 |k,n::ns=>.one (.pt k 0 n)::j9 (k+1) ns
def Bh(V:SS):Nat->List Nat->Option (List SE)
 |_,[]=>aa []
 |k,n::ns=>match V.l[k]?,cy 0 k V.g with
  |some (.var ds),aa (.one (.pt k' 0 n'))=>if asc k' k&&asc n' n&&asc ds.length n then(match FA ds,Bh V (k+1) ns with
    |some es,aa r=>aa (dT es::r)
    |_,_=>ah)else ah
  |_,_=>ah
section run
variable(P:Program)(cfg:bg)
def xH(n:Nat)(ns:List Nat)(f:FuncId):ak:=
 match P.funcs[f]? with
 |some fn=>match fn.body with
  |some c=>
   if as5 fn.params.size fn.ntmps&&as5 ns.length fn.params.size then
    pz P (KU ns) (fn.params.toList.drop ns.length)<|exec P cfg n 1 f c
     ⟨setArgs 1 0 (j9 0 ns++du P (KU ns) (fn.params.toList.drop ns.length))++setArgs 0 0 (j9 0 ns),lR 0 ns,KU ns+(fn.params.size- ns.length),0,fn.ntmps⟩ λex V=>match ex with
     |.exit _=>.fail 151
     |.bY _ _=>.fail 146
     |_=>match lx P 1 V fn.results.toList with
      |some da=>match tA V (Ee da),Bh V 0 ns with
       |some (_,z,_),aa os=>.ret (.tp (.ac (.rw z) (dT os)))
       |_,_=>.fail 152
      |none=>.fail 153
   else .fail 154
  |none=>.fail 155
 |none=>.fail 156
end run
variable{P:Program}{N:Nat}{σ ao:St}{R R':Rs}{φ aL:Ph}{E:Nat->Env}{ν:List IV}{cfg:bg}
variable{C:Cr}{Q:IV->Prop}{K:List (List IV->Prop)}{V:SS}{L:List (LO SE)}
theorem Mq:∀{ns:List Nat} {k:Nat} {os:List SE},Bh V k ns=aa os->os.length=ns.length/\∀(i n:Nat),ns[i]?=aa n->
 ∃es:List SE,V.l[k+i]?=aa (.var (es.map .v))/\cy 0 (k+i) V.g=aa (.one (.pt (k+i) 0 n))/\es.length=n/\os[i]?=aa (dT es)
 |[],k,os,h=>by
  simp only[Bh,ar6]at h;subst h;exact⟨rfl,λi n hi=>by simp at hi⟩
 |m::ns,k,os,h=>by
  simp only[Bh]at h;split at h<;>first|(cases h;done)|skip
  rename_i ds k' n' hk hg;split at h<;>first|(cases h;done)|skip
  rename_i hc;simp only[ar4]at hc;have e1:=asb hc.1.1;have e2:=asb hc.1.2;have e3:=asb hc.2;subst e1 e2;split at h<;>first|(cases h;done)|skip
  rename_i es r gx hr;simp only[ar6]at h;subst h;have I2:=Hx gx;subst I2;obtain⟨h1,h2⟩:=Mq hr;refine⟨by simp[h1],λi n hi=>?_⟩;cases i with
  |zero=>
   simp at hi;subst hi;exact⟨es,hk,hg,by simpa using e3,rfl⟩
  |succ i=>
   obtain⟨aF,a1,a2,a3,a4⟩:=h2 i n (by simpa using hi);have:k'+1+i=k'+(i+1):=by omega
   rw[this]at a1 a2;exact⟨aF,a1,a2,a3,by simpa using a4⟩
theorem Jl:∀{ns:List Nat} {k i:Nat} {pv:PV SE},(j9 k ns)[i]?=aa pv->∃n,ns[i]?=aa n/\pv=.one (.pt (k+i) 0 n)
 |[],k,i,pv,h=>by simp[j9]at h
 |n::ns,k,0,pv,h=>by
  simp[j9]at h;exact⟨n,rfl,by simp[h]⟩
 |n::ns,k,i+1,pv,h=>by
  simp only[j9,aur]at h;obtain⟨m,h1,h2⟩:=Jl h;exact⟨m,by simpa using h1,by rw[h2];congr 2;omega⟩
theorem CB:∀{ns:List Nat} {k:Nat},(j9 k ns).length=ns.length
 |[],_=>rfl
 |_::ns,k=>by simp[j9,CB (ns:=ns)]
theorem P3:∀ins:List (List IV),KU (ins.map asI)=ins.flatten.length
 |[]=>rfl
 |c::ins=>by simp[KU,P3 ins]
theorem Jm:∀{ins:List (List IV)} {pre post:List IV} {i:Nat} {o:LO SE},(lR pre.length (ins.map asI))[i]?=aa o->
 ∃(cs:List IV) (ds:List (Cl SE)),ins[i]?=aa cs/\o=.var ds/\xF (au P (pre++ins.flatten++post)) ds cs
 |[],pre,post,i,o,h=>by simp[lR]at h
 |c::ins,pre,post,0,o,h=>by
  simp only[asZ,lR,atC,ar6]at h;refine⟨c,_,rfl,h.symm,.mk (by simp) λq d u hd hu=>?_⟩;have hq:=(ar3.1 hu).1;rw[asi,List.getElem?_range hq]at hd;simp only[asy,ar6]at hd;subst hd;refine⟨_,rfl,?_⟩;show(SE.var _).den P _=_;simp only[SE.den];rw[ast,asz (by omega),List.flatten_cons,ast,asd (by omega)];rw[show pre.length+q- pre.length=q by omega];exact hu
 |c::ins,pre,post,i+1,o,h=>by
  simp only[asZ,lR,aur]at h;have hl:pre.length+c.length=(pre++c).length:=by simp
  rw[hl]at h;obtain⟨cs,ds,h1,h2,h3⟩:=Jm (pre:=pre++c) (post:=post) h;refine⟨cs,ds,by simpa using h1,h2,?_⟩;have:pre++c++ins.flatten++post=pre++(c::ins).flatten++post:=by simp
  rw[<-this];exact h3
theorem HC{α:Type}{d t:Nat}{pv:PV α}:∀{a b:List (Nat×Nat×PV α)},cy d t (a++b)=aa pv->cy d t a=aa pv\/cy d t b=aa pv
 |[],b,h=>.inr h
 |(d',t',p)::a,b,h=>by
  simp only[List.cons_append,cy]at h⊢;split at h
  ·rename_i hc;rw[if_pos hc];exact .inl h
  ·rename_i hc;rw[if_neg hc];exact HC h
theorem CE{xs args pre:List IV}{f:ak}(hp:All2 iD args xs):∀{ts:List TypeId} {j:Nat},(pz P (pre.length+j) ts f).sat P C Q K (pre++xs)->j+ts.length=xs.length->f.sat P C Q K (pre++xs)/\All2 (VR (au P (pre++xs)) R φ L σ) (args.drop j) (du P (pre.length+j) ts)
 |[],j,hs,hl=>by
  simp at hl;rw[asJ (by have:=hp.len;omega)];exact⟨hs,trivial⟩
 |t::ts,j,hs,hl=>by
  simp at hl;have hj:j<xs.length:=by omega
  have fO:j<args.length:=by have:=hp.len;omega
  have hd:(SE.var (pre.length+j)).den P (pre++xs)=aa xs[j]:=by simp[SE.den,hj]
  obtain⟨h1,h2⟩:=Cz (R:=R) (φ:=φ) (L:=L) (σ:=σ) hd (hp.get (ar2 fO) (ar2 hj)) hs;obtain⟨h4,h5⟩:=CE (j:=j+1) hp h1 (by omega);refine⟨h4,?_⟩;rw[asH fO];exact⟨h2,h5⟩
end Go.Ev
namespace Go.Ev
variable{P:Program}{N:Nat}{σ ao:St}{R R':Rs}{φ aL:Ph}{E:Nat->Env}{ν:List IV}{cfg:bg}
variable{C:Cr}{Q:IV->Prop}{K:List (List IV->Prop)}{V:SS}{L:List (LO SE)}
theorem xm:∀{ns:List Nat} {j:Nat},(lR j ns).length=ns.length
 |[],_=>rfl
 |_::ns,j=>by simp[lR,xm (ns:=ns)]
theorem SH{x z:IV}{fr:Bool}(h:aA z=ab)(hc:bn fr R σ x z):iD x z:=by
 cases z<;>simp only[aA]at h<;>first|(cases h;done)|skip
 rw[bZ hc];exact .raw _
theorem P4{ins:List (List IV)}{ps:List IV}{ev:SE->Option IV}(hP:Es φ ins ps)(hL:∀(i:Nat) (cs:List IV),ins[i]?=aa cs->∃ds:List (Cl SE),L[i]?=aa (LO.var ds)):
 All2 (VR ev R φ L σ) ps (j9 0 (ins.map asI)):=by
 refine .mk (by rw[CB,aty,hP.1]) λi p pv hp qy=>?_;obtain⟨n,h1,rfl⟩:=Jl qy;rw[asi]at h1;obtain⟨cs,bH,rfl⟩:=ar9.1 h1;obtain⟨id,h2,rfl⟩:=hP.2 i cs p bH hp;obtain⟨ds,I2⟩:=hL i cs bH;rw[atv];exact⟨id,ds,h2,I2,rfl⟩
theorem Ct.nN(eW:P.follows .mixedOrders=ab)(hC:jb P C){n:Nat}{f:FuncId}{cF:ak}{ins outs:List (List IV)}{xs:List IV}{z:IV}(he:xH P cfg n (ins.map asI) f=cF)
 (hl:(P.funcs[f]?).map (·.params.size)=aa (ins.length+xs.length))(hs:cF.sat P C (·=.az (z::outs.map .agg)) [] (ins.flatten++xs)):Ct P f ins xs outs z:=by
 subst he;unfold xH at hs;split at hs<;>first|(exact hs.elim)|skip
 rename_i fn bT;split at hs<;>first|(exact hs.elim)|skip
 rename_i c hb;split at hs<;>first|(exact hs.elim)|skip
 rename_i hle;simp only[ar4]at hle;have Hh:fn.params.size<=fn.ntmps:=by simpa using hle.1
 rw[bT]at hl;simp only[asy,ar6]at hl;have Ib:(ins.map asI).length=ins.length:=by simp
 have aoj:=P3 ins;intro R φ E σ ps args kA hP br KW PH;have Ml:args.length=xs.length:=br.len;have htl:(fn.params.toList.drop (ins.map asI).length).length=xs.length:=by simp;omega
 have nW:ps.length=ins.length:=hP.1;rw[aoj]at hs
 have hLV:∀(i:Nat) (cs:List IV),ins[i]?=aa cs->∃ds:List (Cl SE),(lR 0 (ins.map asI))[i]?=aa (LO.var ds)/\xF (au P (ins.flatten++xs)) ds cs:=λi cs hi=>by
  have ai:=(ar3.1 hi).1;have fX:i<(lR 0 (ins.map asI)).length:=by rw[xm];simpa using ai
  have hg:=ar2 fX;obtain⟨cx,ds,h1,h2,h3⟩:=Jm (P:=P) (pre:=[]) (post:=xs) hg;rw[hi]at h1;cases h1;exact⟨ds,by rw[hg,h2],by simpa using h3⟩
 obtain⟨dC,bz⟩:=CE (j:=0) (pre:=ins.flatten) (R:=R) (φ:=φ) (L:=lR 0 (ins.map asI)) (σ:=σ) br (by rw[axy];exact hs) (by rw[atv];exact htl);rw[aup,axy]at bz
 have zY:All2 (VR (au P (ins.flatten++xs)) R φ (lR 0 (ins.map asI)) σ) (ps++args) (j9 0 (ins.map asI)++du P ins.flatten.length (fn.params.toList.drop (ins.map asI).length)):=
  All2.app (P4 hP λi cs hi=>by obtain⟨ds,h1,_⟩:=hLV i cs hi;exact⟨ds,h1⟩) bz
 have hlen:(ps++args).length<=fn.ntmps:=by simp;omega
 let E1:Nat->Env:=λj=>if j=0 then cJ ps ps.length else cJ (ps++args) fn.ntmps
 have hJ:J (au P (ins.flatten++xs)) R φ (setArgs 1 0 (j9 0 (ins.map asI)++du P ins.flatten.length (fn.params.toList.drop (ins.map asI).length))++setArgs 0 0 (j9 0 (ins.map asI))) (lR 0 (ins.map asI)) E1 σ:=by
  refine⟨λd t pv hg=>?_,λj ob hj=>?_,kA.inj,λj id hj=>?_,kA.qw,kA.fits,kA.wf,kA.top⟩
  ·rcases HC hg with hg|hg
   ·obtain⟨rfl,_,h3⟩:=fw (α:=IV) hg;have ht:t<(ps++args).length:=by rw[zY.len];have:=(ar3.1 h3).1;simpa using this
    show VR _ _ _ _ _ ((cJ (ps++args) fn.ntmps).at t) pv;rw[(cP hlen).2 ht,ar2 ht];exact zY.get (ar2 ht) (by simpa using h3)
   ·obtain⟨rfl,_,h3⟩:=fw (α:=IV) hg;have IP:(j9 0 (ins.map asI))[t]?=aa pv:=by simpa using h3
    have ht:t<ps.length:=by have:=(ar3.1 IP).1;rw[CB]at this;simp at this;omega
    show VR _ _ _ _ _ ((cJ ps ps.length).at t) pv;rw[(cP (ar8 _)).2 ht,ar2 ht];exact(P4 hP λi cs hi=>by obtain⟨ds,h1,_⟩:=hLV i cs hi;exact⟨ds,h1⟩).get (ar2 ht) IP
  ·have ai:j<ins.length:=by have:=(ar3.1 hj).1;rw[xm]at this;simpa using this
   have bH:=ar2 ai;obtain⟨ds,h1,h2⟩:=hLV j _ bH;rw[hj]at h1;cases h1;have dz:(Wx ins)[j]?=aa (.var (ins[j].map .v)):=by rw[asi,bH];rfl
   obtain⟨id,cE,o1,o2,o3,o4⟩:=kA.obj j _ dz;refine⟨id,cE,o1,o2,o3,.mk (by rw[o4.len,aty,h2.len]) λq x d hx hd=>?_⟩;have hq:q<ins[j].length:=by rw[<-h2.len];exact(ar3.1 hd).1
   obtain⟨e,rfl,he⟩:=h2.get hd (ar2 hq);have YE:(ins[j].map Cl.v)[q]?=aa (.v ins[j][q]):=by rw[asi,ar2 hq];rfl
   obtain⟨y,y1,y2,y3⟩:=o4.get hx YE;cases y1;exact⟨_,he,y2,y3⟩
  ·have:=kA.lt j id hj;exact⟨by rw[xm];simpa using this.1,this.2⟩
 obtain⟨b,nO⟩:=uQ eW hC n 1 f c ⟨setArgs 1 0 (j9 0 (ins.map asI)++du P ins.flatten.length (fn.params.toList.drop (ins.map asI).length))++setArgs 0 0 (j9 0 (ins.map asI)),lR 0 (ins.map asI),ins.flatten.length+(fn.params.size-(ins.map asI).length),0,fn.ntmps⟩ _ (ins.flatten++xs) [] R φ E1 σ
  (λN ex e1 aq=>(ex=.normal\/ex=.ret)/\aq.n<=N/\∃v,bJ P fn e1 aq=aa v/\KW N v aq) ah [] dC hJ (by simp;omega) rfl (cP (t:=0) hlen).1 (by
   intro ex V' μ K' R' aL E' ao x0 hf iu bt
   have main:∀ju,lx P 1 V' fn.results.toList=aa ju->(match tA V' (Ee ju),Bh V' 0 (ins.map asI)with
    |some (_,z,_),aa os=>ak.ret (.tp (.ac (.rw z) (dT os)))
    |_,_=>.fail 152).sat P C (·=IV.az (z::outs.map IV.agg)) K' (ins.flatten++xs++μ)->∃b,∀N,b<=N->ao.n<=N/\ao.n<=N/\∃v,bJ P fn (E' 1) ao=aa v/\KW N v ao:=by
    intro ju hr dK;obtain⟨vs,h1,h2⟩:=lA hf.hJ hr;have hv:=KN h2;split at dK<;>first|(exact dK.elim)|skip
    rename_i fr e _ os jC vJ;obtain⟨R2,y,h3,h4⟩:=P2 hf.hJ jC hv;obtain⟨w,h5,rfl⟩:=dK;simp only[SE.den,h3,asa]at h5;obtain⟨cs,h6,h7⟩:=aso.1 h5;obtain⟨y',h8,h6⟩:=aso.1 h6;obtain⟨os',h9,h6⟩:=aso.1 h6;obtain⟨ys,rfl,qB⟩:=KT h9;split at h8<;>first|(cases h8;done)|skip
    rename_i dO;cases h8;cases h6;simp only[ar6,IV.az.injEq,as4]at h7;obtain⟨rfl,rfl⟩:=h7;obtain⟨L5,ho2⟩:=Mq vJ;have zd:outs.length=ins.length:=by have:=qB.len;rw[L5]at this;simp at this;omega
    have ac3:∀(i:Nat) (cs:List IV),outs[i]?=aa cs->∃es:List SE,V'.l[i]?=aa (.var (es.map .v))/\All2 (λ(z:SE) y=>z.den P (ins.flatten++xs++μ)=aa y) es cs/\∃id,aL i=aa id/\ps[i]?=aa (.ptr id 0 0 cs.length):=λi cs hi=>by
     have ai:=(ar3.1 hi).1;have fX:i<ins.length:=by omega
     obtain⟨es,a1,a2,a3,a4⟩:=ho2 i _ (by rw[asi,ar2 fX];rfl);rw[atv]at a1 a2;have hiy:(outs.map IV.agg)[i]?=aa (.agg cs):=by rw[asi,hi];rfl
     have hd:=qB.get a4 hiy;obtain⟨us,xU,agC⟩:=KT hd;cases xU;have oH:=hf.hJ.slot 0 i _ a2;obtain⟨id,ds,s1,s2,s3⟩:=oH;rw[hf.hE 0 (by omega)]at s3;have hlp:i<ps.length:=by omega
     have:(E1 0).at i=ps[i]:=by
      show(cJ ps ps.length).at i=_;rw[(cP (ar8 _)).2 hlp,ar2 hlp];rfl
     rw[this]at s3;refine⟨es,a1,agC,id,s1,?_⟩;rw[ar2 hlp,s3,<-agC.len,a3]
    obtain⟨b,hb⟩:=PH (λ_=>ah) (λj=>if j<outs.length then aL j else ah) ao (EA vs) (by
     refine⟨λd t pv hg=>(by cases hg),λj ob hj=>?_,λj j' id h1 h2=>?_,λj id hj=>?_,λid m hm=>(by cases hm),λid m cs ay mn hm=>(by cases hm),hf.hJ.wf,hf.hJ.top⟩
     ·rw[asi]at hj;obtain⟨cs,bH,rfl⟩:=ar9.1 hj;have ai:=(ar3.1 bH).1;obtain⟨es,a1,a2,id,a3,_⟩:=ac3 j cs bH;obtain⟨bA,cE,o1,o2,o3,o4⟩:=hf.hJ.obj j _ a1;refine⟨bA,cE,by simp[ai,o1],rfl,o3,.mk (by rw[o4.len,aty,aty,a2.len]) λq x c hx hc=>?_⟩;rw[asi]at hc;obtain⟨u,hu,rfl⟩:=ar9.1 hc;have hq:q<es.length:=by rw[a2.len];exact(ar3.1 hu).1
      have YE:(es.map Cl.v)[q]?=aa (.v es[q]):=by rw[asi,ar2 hq];rfl
      obtain⟨y,y1,y2,y3⟩:=o4.get hx YE;have L7:es[q].den P (ins.flatten++xs++μ)=aa y:=y1;rw[a2.get (ar2 hq) hu]at L7;cases L7;exact⟨u,rfl,y2,y3⟩
     ·split at h1<;>first|(cases h1;done)|skip
      split at h2<;>first|(cases h2;done)|skip
      exact hf.hJ.inj j j' id h1 h2
     ·split at hj<;>first|(cases hj;done)|skip
      rename_i ai
      exact⟨by simpa using ai,(hf.hJ.lt j id hj).2⟩) ⟨by omega,λi cs p hi hp=>by
       have ai:=(ar3.1 hi).1;obtain⟨_,_,_,id,a3,a4⟩:=ac3 i cs hi;rw[hp]at a4;cases a4;exact⟨id,by simp[ai,a3],rfl⟩⟩ (SH dO h4)
    exact⟨max b ao.n,λN hN=>⟨by omega,by omega,EA vs,kB h1,hb N (by omega)⟩⟩
   cases ex with
   |exit i=>exact bt.elim
   |bY t pv=>exact bt.elim
   |normal=>
    obtain rfl:=iu;simp only at bt;split at bt
    ·rename_i ju hr;obtain⟨b,hb⟩:=main ju hr bt;exact⟨b,λN hN=>⟨(hb N hN).1,.inl rfl,(hb N hN).2⟩⟩
    ·exact bt.elim
   |ret=>
    obtain rfl:=iu;simp only at bt;split at bt
    ·rename_i ju hr;obtain⟨b,hb⟩:=main ju hr bt;exact⟨b,λN hN=>⟨(hb N hN).1,.inr rfl,(hb N hN).2⟩⟩
    ·exact bt.elim)
 exact⟨b,λN hN=>(dL.body (RW:=KW N) bT hb hlen (nO N hN))⟩
end Go.Ev
namespace Go.Ev
section run
variable(P:Program)(cfg:bg)
def pK(n:Nat)(nm:Bool)(f:FuncId):ak:=
 match P.funcs[f]? with
 |some fn=>match fn.body with
  |some c=>
   if as5 fn.params.size fn.ntmps&&Nat.blt 0 (cK P f)then
    pz P 0 fn.params.toList<|exec P cfg n 0 f c ⟨setArgs 0 0 (du P 0 fn.params.toList),[],fn.params.size,0,fn.ntmps⟩ λex V=>match ex with
     |.exit _=>.fail 141
     |.bY _ _=>.fail 146
     |_=>match lx P 0 V fn.results.toList with
      |some [.one (.sr k)]=>match V.l[k]? with
       |some (.row s' af af _ z)=>if !nm&&asc (cK P f) s' then .ret (.rws z)else .fail 146
       |_=>.fail 147
      |some [.one (.nl ab s')]=>if asc (cK P f) s' then .ret (.tr s' .an)else .fail 146
      |_=>.fail 148
   else .fail 143
  |none=>.fail 144
 |none=>.fail 145
end run
variable{P:Program}{N:Nat}{σ ao:St}{R R':Rs}{φ aL:Ph}{E:Nat->Env}{ν:List IV}{cfg:bg}{self:nB}
variable{C:Cr}{Q:IV->Prop}{K:List (List IV->Prop)}{V:SS}{d f0:Nat}{L:List (LO SE)}{Γ:Gm SE}
theorem jR.nN(eW:P.follows .mixedOrders=ab)(hC:jb P C){n:Nat}{nm:Bool}{f:FuncId}{cF:ak}{args es:List IV}(he:pK P cfg n nm f=cF)(hl:(P.funcs[f]?).map (·.params.size)=aa args.length)(hp:∀x∈args,Pure x)
 (bH:∀e∈es,(cellsOf e).length=cK P f)(bp:∀c∈flat es,(∃v,c=.raw v)/\aj c=ab)(aZ:nm=af->es≠[])
 (hs:cF.sat P C (·=.tree (cK P f) es) [] args):jR P (cK P f) f args es:=by
 subst he;unfold pK at hs;split at hs<;>first|(exact hs.elim)|skip
 rename_i fn bT;split at hs<;>first|(exact hs.elim)|skip
 rename_i c hb;split at hs<;>first|(exact hs.elim)|skip
 rename_i hle;simp only[ar4]at hle;have JY:fn.params.size<=fn.ntmps:=by simpa using hle.1
 have bE:0<cK P f:=by simpa using hle.2
 rw[bT]at hl;simp only[asy,ar6]at hl;obtain⟨hs,bz⟩:=v_ (R:=λ_=>ah) (φ:=λ_=>ah) (L:=[]) (σ:=⟨0,.lf⟩) hp hs (by simpa using hl);have hlen:args.length<=fn.ntmps:=by omega
 have hJ:J (au P args) (λ_=>ah) (λ_=>ah) (setArgs 0 0 (du P 0 fn.params.toList)) [] (λ_=>cJ args fn.ntmps) ⟨0,.lf⟩:=by
  refine⟨λd t pv hg=>?_,λk ob h=>(by simp at h),λk k' id h=>(by cases h),λk id h=>(by cases h),λid m h=>(by cases h),λid m cs ay mn h=>(by cases h),T.WF.lf,λid _=>rfl⟩;obtain⟨rfl,_,h3⟩:=fw (α:=IV) hg;rw[aup]at bz;have ht:t<args.length:=by rw[bz.len];have:=(ar3.1 h3).1;simpa using this
  show VR _ _ _ _ _ ((cJ args fn.ntmps).at t) pv;rw[(cP hlen).2 ht,ar2 ht];exact bz.get (ar2 ht) (by simpa using h3)
 obtain⟨b,nO⟩:=uQ eW hC n 0 f c ⟨setArgs 0 0 (du P 0 fn.params.toList),[],fn.params.size,0,fn.ntmps⟩ _ args [] _ _ _ _
  (λN ex e1 aq=>(ex=.normal\/ex=.ret)/\aq.n<=N/\∃v,bJ P fn e1 aq=aa v/\HA (cK P f) es v aq) ah [] hs hJ hl.symm rfl (cP (t:=0) hlen).1 (by
   intro ex V' μ K' R' aL E' ao x0 hf iu bt
   have main:(match lx P 0 V' fn.results.toList with
    |some [.one (.sr k)]=>match V'.l[k]? with
     |some (.row s' af af _ z)=>if !nm&&asc (cK P f) s' then ak.ret (.rws z)else .fail 146
     |_=>.fail 147
    |some [.one (.nl ab s')]=>if asc (cK P f) s' then .ret (.tr s' .an)else .fail 146
    |_=>.fail 148).sat P C (·=IV.tree (cK P f) es) K' (args++μ)->∃b,∀N,b<=N->ao.n<=N/\ao.n<=N/\∃v,bJ P fn (E' 0) ao=aa v/\HA (cK P f) es v ao:=by
    intro dK;split at dK<;>first|(exact dK.elim)|skip
    ·rename_i k hr;obtain⟨vs,h1,h2⟩:=lA hf.hJ hr;split at dK<;>first|(exact dK.elim)|skip
     rename_i s' fr z hk;split at dK<;>first|(exact dK.elim)|skip
     rename_i ir;simp only[ar4,asR]at ir;obtain⟨mG,ir⟩:=ir;have uP:=asb ir;subst uP;obtain⟨z',h5,rfl⟩:=dK;obtain⟨v,rfl,hv⟩:=kQ h2;have er:bJ P fn (E' 0) ao=aa v:=kB h1;obtain⟨s1,eT,c1,c2,c3⟩:=F0 h5;cases c2;obtain⟨m0,GP,m1,m2,m3⟩:=hf.hJ.obj k _ hk;have Jk:z.den P (args++μ)=aa (.tree (cK P f) GP):=m1;rw[c1]at Jk;cases Jk;refine⟨ao.n,λN hN=>⟨hN,hN,v,er,.inr ⟨aZ mG,?_⟩⟩⟩;obtain⟨s2,sE,r6,sF,z1,gS,b1,b2,b3⟩:=hv;rw[hk]at b1;cases b1;have pJ:z.den P (args++μ)=aa (.tree (cK P f) gS):=b2;rw[c1]at pJ;cases pJ;rcases b3 with⟨_,b4,_⟩|⟨id,cs,ay,mn,cap,d1,d2,d3,d4,d5,d6⟩
     ·exact absurd (List.eq_nil_of_length_eq_zero b4) (aZ mG)
     ·rcases m3 with⟨e1,_⟩|⟨bA,cx,iC,pw,e1,e2,e3,e4,e5,e6,e7⟩
      ·rw[d1]at e1;cases e1
      ·rw[d1]at e1;cases e1;rw[d2]at e2;cases e2;refine⟨id,cs,ay,mn,cap,d2,e3,by simpa using d3,e4,λq x hx=>?_⟩
       have hq:q<cs.length:=by
        have:=(ar3.1 hx).1;rw[sI bH]at this;omega
       obtain⟨u,rfl⟩:=(bp x (ash hx)).1;have:=e7 q _ _ (ar2 hq) hx;exact⟨u,rfl,by rw[ar2 hq,bZ this]⟩
    ·rename_i s' hr;obtain⟨vs,h1,h2⟩:=lA hf.hJ hr;split at dK<;>first|(exact dK.elim)|skip
     rename_i ir;have uP:=asb ir;obtain⟨z',h5,rfl⟩:=dK;obtain⟨v,rfl,hv⟩:=kQ h2;have er:bJ P fn (E' 0) ao=aa v:=kB h1;obtain⟨_,rfl⟩:=hv;simp only[SE.den,asa]at h5;split at h5<;>cases h5;exact⟨ao.n,λN hN=>⟨hN,hN,_,er,.inl ⟨rfl,rfl⟩⟩⟩
   cases ex with
   |exit i=>exact bt.elim
   |bY t pv=>exact bt.elim
   |normal=>
    obtain rfl:=iu;obtain⟨b,hb⟩:=main bt;exact⟨b,λN hN=>⟨(hb N hN).1,.inl rfl,(hb N hN).2⟩⟩
   |ret=>
    obtain rfl:=iu;obtain⟨b,hb⟩:=main bt;exact⟨b,λN hN=>⟨(hb N hN).1,.inr rfl,(hb N hN).2⟩⟩)
 exact jR.Da bE bH bp (dL.body (RW:=λv aq=>HA (cK P f) es v aq) bT hb hlen (nO b (ar8 _))) λv ao h=>h
end Go.Ev
namespace Go.Ev
section run
variable(P:Program)(cfg:bg)
def CF(n:Nat)(f:FuncId):ak:=
 match P.funcs[f]? with
 |some fn=>match fn.body with
  |some c=>
   if as5 fn.params.size fn.ntmps then
    pz P 0 fn.params.toList<|exec P cfg n 0 f c ⟨setArgs 0 0 (du P 0 fn.params.toList),[],fn.params.size,0,fn.ntmps⟩ λex V=>match ex with
     |.exit _=>.fail 141
     |.bY _ _=>.fail 146
     |_=>match lx P 0 V fn.results.toList with
      |some [.one (.mp k)]=>match V.l[k]? with
       |some (.mp kt z)=>if gB kt then .fail 146 else .ret z
       |_=>.fail 147
      |_=>.fail 148
   else .fail 143
  |none=>.fail 144
 |none=>.fail 145
end run
variable{P:Program}{N:Nat}{σ ao:St}{R R':Rs}{φ aL:Ph}{E:Nat->Env}{ν:List IV}{cfg:bg}{self:nB}
variable{C:Cr}{Q:IV->Prop}{K:List (List IV->Prop)}{V:SS}{d f0:Nat}{L:List (LO SE)}{Γ:Gm SE}
theorem lQ.nN(eW:P.follows .mixedOrders=ab)(hC:jb P C){n:Nat}{f:FuncId}{cF:ak}{args ds:List IV}(he:CF P cfg n f=cF)(hl:(P.funcs[f]?).map (·.params.size)=aa args.length)(hp:∀x∈args,Pure x)
 (dO:sJ ds)(hs:cF.sat P C (·=.az ds) [] args):lQ P f args ds:=by
 subst he;unfold CF at hs;split at hs<;>first|(exact hs.elim)|skip
 rename_i fn bT;split at hs<;>first|(exact hs.elim)|skip
 rename_i c hb;split at hs<;>first|(exact hs.elim)|skip
 rename_i hle;have JY:fn.params.size<=fn.ntmps:=by simpa using hle
 rw[bT]at hl;simp only[asy,ar6]at hl;obtain⟨hs,bz⟩:=v_ (R:=λ_=>ah) (φ:=λ_=>ah) (L:=[]) (σ:=⟨0,.lf⟩) hp hs (by simpa using hl);have hlen:args.length<=fn.ntmps:=by omega
 have hJ:J (au P args) (λ_=>ah) (λ_=>ah) (setArgs 0 0 (du P 0 fn.params.toList)) [] (λ_=>cJ args fn.ntmps) ⟨0,.lf⟩:=by
  refine⟨λd t pv hg=>?_,λk ob h=>(by simp at h),λk k' id h=>(by cases h),λk id h=>(by cases h),λid m h=>(by cases h),λid m cs ay mn h=>(by cases h),T.WF.lf,λid _=>rfl⟩;obtain⟨rfl,_,h3⟩:=fw (α:=IV) hg;rw[aup]at bz;have ht:t<args.length:=by rw[bz.len];have:=(ar3.1 h3).1;simpa using this
  show VR _ _ _ _ _ ((cJ args fn.ntmps).at t) pv;rw[(cP hlen).2 ht,ar2 ht];exact bz.get (ar2 ht) (by simpa using h3)
 obtain⟨b,nO⟩:=uQ eW hC n 0 f c ⟨setArgs 0 0 (du P 0 fn.params.toList),[],fn.params.size,0,fn.ntmps⟩ _ args [] _ _ _ _
  (λN ex e1 aq=>(ex=.normal\/ex=.ret)/\aq.n<=N/\∃v,bJ P fn e1 aq=aa v/\Wz ds v aq) ah [] hs hJ hl.symm rfl (cP (t:=0) hlen).1 (by
   intro ex V' μ K' R' aL E' ao x0 hf iu bt
   have main:(match lx P 0 V' fn.results.toList with
    |some [.one (.mp k)]=>match V'.l[k]? with
     |some (.mp kt z)=>if gB kt then ak.fail 146 else .ret z
     |_=>.fail 147
    |_=>.fail 148).sat P C (·=IV.az ds) K' (args++μ)->∃b,∀N,b<=N->ao.n<=N/\ao.n<=N/\∃v,bJ P fn (E' 0) ao=aa v/\Wz ds v ao:=by
    intro dK;split at dK<;>first|(exact dK.elim)|skip
    rename_i k hr;obtain⟨vs,h1,h2⟩:=lA hf.hJ hr;split at dK<;>first|(exact dK.elim)|skip
    rename_i kt z hk;split at dK
    ·exact dK.elim
    rename_i dW;have dW:¬gB kt=ab:=dW;obtain⟨z',h5,rfl⟩:=dK;obtain⟨v,rfl,hv⟩:=kQ h2;have er:bJ P fn (E' 0) ao=aa v:=kB h1;obtain⟨id,lL,gS,g1,g2,g3⟩:=hv;rw[hk]at g2;cases g2;rw[if_neg dW]at g3;have dz:=hf.hJ.obj k _ hk;rw[gL,if_neg dW]at dz;obtain⟨bA,es,clock,mj,c1,c2,c3,c4,c5,c6⟩:=dz;rw[g1]at c2;cases c2;have kz:z.den P (args++μ)=aa (.az mj):=c1;rw[h5]at kz;cases kz;refine⟨ao.n,λN hN=>⟨hN,hN,v,er,id,es,g3,?_,All2.len c5,λi e d he hd=>?_⟩⟩
    ·rw[c4,c6.1,All2.len c5]
    ·obtain⟨kk,vv,Ly⟩:=dO d (ash hd);obtain⟨zv,h8,h9⟩:=All2.get c5 he hd;rw[Ly]at h8;simp only[IV.az.injEq,as4,and_true]at h8;obtain⟨h8a,rfl⟩:=h8;exact⟨c6.2 i e he,vv,TA h9,by rw[Ly,h8a]⟩
   cases ex with
   |exit i=>exact bt.elim
   |bY t pv=>exact bt.elim
   |normal=>
    obtain rfl:=iu;obtain⟨b,hb⟩:=main bt;exact⟨b,λN hN=>⟨(hb N hN).1,.inl rfl,(hb N hN).2⟩⟩
   |ret=>
    obtain rfl:=iu;obtain⟨b,hb⟩:=main bt;exact⟨b,λN hN=>⟨(hb N hN).1,.inr rfl,(hb N hN).2⟩⟩)
 exact lQ.Da dO (dL.body (RW:=λv aq=>Wz ds v aq) bT hb hlen (nO b (ar8 _))) λv ao h=>h
end Go.Ev
namespace Go.Ev
section run
variable(P:Program)(cfg:bg)
def HD(n:Nat)(f:FuncId):ak:=
 match P.funcs[f]? with
 |some fn=>match fn.body,fn.params.toList with
  |some c,t::ts=>match P.underlying t with
   |some (.map kt _)=>
    if as5 fn.params.size fn.ntmps&& !gB kt then
     pz P 1 ts<|exec P cfg n 1 f c ⟨setArgs 1 0 (.one (.mp 0)::du P 1 ts)++setArgs 0 0 [.one (.mp 0)],[.mp kt (.var 0)],fn.params.size,0,fn.ntmps⟩ λex V=>match ex with
      |.exit _=>.fail 151
      |.bY _ _=>.fail 146
      |_=>match lx P 1 V fn.results.toList,cy 0 0 V.g with
       |some [pv],aa (.one (.mp k))=>match V.l[k]?,uG pv with
        |some (.mp lJ (.var 0)),aa e=>if gB lJ then .fail 152 else .ret (.rw e)
        |_,_=>.fail 152
       |_,_=>.fail 153
    else .fail 154
   |_=>.fail 155
  |_,_=>.fail 155
 |none=>.fail 156
end run
variable{P:Program}{N:Nat}{σ ao:St}{R R':Rs}{φ aL:Ph}{E:Nat->Env}{ν:List IV}{cfg:bg}
variable{C:Cr}{Q:IV->Prop}{K:List (List IV->Prop)}{V:SS}{L:List (LO SE)}
theorem rN.nN(eW:P.follows .mixedOrders=ab)(hC:jb P C){n:Nat}{f:FuncId}{cF:ak}{ds xs:List IV}{z:IV}(he:HD P cfg n f=cF)(hl:(P.funcs[f]?).map (·.params.size)=aa (xs.length+1))(hp:∀x∈xs,Pure x)
 (dO:sJ ds)(hz:∃v,z=.raw v/\aj z=ab)(hs:cF.sat P C (·=z) [] (.az ds::xs)):rN P f ds xs z:=by
 subst he;unfold HD at hs;split at hs<;>first|(exact hs.elim)|skip
 rename_i fn bT;split at hs<;>first|(exact hs.elim)|skip
 rename_i c t0 ts hb qD;split at hs<;>first|(exact hs.elim)|skip
 rename_i kt et hu;split at hs<;>first|(exact hs.elim)|skip
 rename_i hle;simp only[ar4,asR]at hle;have JY:fn.params.size<=fn.ntmps:=by simpa using hle.1
 have dW:¬gB kt=ab:=by rw[hle.2];simp
 rw[bT]at hl;simp only[asy,ar6]at hl
 have aT:ts.length=xs.length:=by
  have:fn.params.toList.length=fn.params.size:=by simp
  rw[qD]at this;simp at this;omega
 let σ:St:=(⟨0,.lf⟩:St).add (.map (j8 ds) ds.length)
 let φ:Ph:=λj=>if j=0 then aa 0 else ah
 have br:All2 iD xs xs:=.mk rfl λi a b h1 h2=>by
  rw[h1]at h2;cases h2;exact .pure a rfl (hp a (ash h1))
 obtain⟨dC,bz⟩:=CE (j:=0) (pre:=[.az ds]) (R:=λ_=>ah) (φ:=φ) (L:=[.mp kt (.var 0)]) (σ:=σ) br hs (by omega);rw[aup]at bz;have ig:(SE.var 0).den P (.az ds::xs)=aa (.az ds):=by simp[SE.den]
 have zS:VR (au P (.az ds::xs)) (λ_=>ah) φ [.mp kt (.var 0)] σ (.map 0) (.one (.mp 0)):=⟨0,kt,.var 0,rfl,rfl,(if_neg dW).symm⟩;have zY:All2 (VR (au P (.az ds::xs)) (λ_=>ah) φ [.mp kt (.var 0)] σ) (.map 0::xs) (.one (.mp 0)::du P 1 ts):=⟨zS,bz⟩;have hlen:(IV.map 0::xs).length<=fn.ntmps:=by simp;omega
 let E1:Nat->Env:=λj=>if j=0 then cJ [.map 0] 1 else cJ (.map 0::xs) fn.ntmps
 have hJ:J (au P (.az ds::xs)) (λ_=>ah) φ (setArgs 1 0 (.one (.mp 0)::du P 1 ts)++setArgs 0 0 [.one (.mp 0)]) [.mp kt (.var 0)] E1 σ:=by
  refine⟨λd t pv hg=>?_,λj ob hj=>?_,λj j' id h1 h2=>?_,λj id hj=>?_,λid m h=>(by cases h),λid m cs ay mn h=>(by cases h),(T.WF.lf.set 0 (Ob.map (j8 ds) ds.length):(T.lf.set 0 (Ob.map (j8 ds) ds.length)).WF),λid hid=>?_⟩
  ·rcases HC hg with hg|hg
   ·obtain⟨rfl,_,h3⟩:=fw (α:=IV) hg;have ht:t<(IV.map 0::xs).length:=by rw[zY.len];have:=(ar3.1 h3).1;simpa using this
    show VR _ _ _ _ _ ((cJ (.map 0::xs) fn.ntmps).at t) pv;rw[(cP hlen).2 ht,ar2 ht];exact zY.get (ar2 ht) (by simpa using h3)
   ·obtain⟨rfl,_,h3⟩:=fw (α:=IV) hg;cases t with
    |succ t=>simp at h3
    |zero=>
     simp at h3;subst h3;show VR _ _ _ _ _ ((cJ [.map 0] 1).at 0) _;rw[(cP (by simp)).2 (by simp)];exact zS
  ·cases j with
   |succ j=>simp at hj
   |zero=>
    simp at hj;subst hj;rw[gL,if_neg dW];refine⟨0,j8 ds,ds.length,ds,ig,rfl,rfl,by simp[σ],?_,(qo ds).symm,λi e he=>?_⟩
    ·refine .mk (qo ds) λi e d he hd=>?_;obtain⟨d',vO,rfl⟩:=qn he;rw[hd]at vO;cases vO;obtain⟨kk,v,rfl⟩:=dO d (ash hd);refine⟨lift v,by simp[zR,qj],?_⟩;show bn ab _ _ (lift v) (lift v);unfold lift;split
     ·exact .agg _ _ rfl λi c e h1 h2=>by
       rw[h1]at h2;cases h2;rw[asi]at h1;obtain⟨u,_,rfl⟩:=ar9.1 h1;exact .raw _
     ·exact .raw _
    ·obtain⟨d',vO,rfl⟩:=qn he;obtain⟨kk,v,rfl⟩:=dO d' (ash vO);rfl
  ·simp only[φ]at h1 h2;split at h1<;>first|(cases h1;done)|skip
   split at h2<;>first|(cases h2;done)|skip
   omega
  ·simp only[φ]at hj;split at hj<;>first|(cases hj;done)|skip
   rename_i h0;cases hj;exact⟨by simp[h0],by simp[σ]⟩
  ·have:id≠0:=by simp only[σ,St.kY]at hid;omega
   show((⟨0,.lf⟩:St).add (.map (j8 ds) ds.length)).at id=ah;rw[St.gW,if_neg (by show¬0=id;omega)];rfl
 obtain⟨b,nO⟩:=uQ eW hC n 1 f c ⟨setArgs 1 0 (.one (.mp 0)::du P 1 ts)++setArgs 0 0 [.one (.mp 0)],[.mp kt (.var 0)],fn.params.size,0,fn.ntmps⟩ _ (.az ds::xs) [] _ φ E1 σ
  (λN ex e1 aq=>(ex=.normal\/ex=.ret)/\aq.n<=N/\∃v,bJ P fn e1 aq=aa v/\(v=z/\∃es,aq.at 0=aa (.map es ds.length)/\Ba es ds)) ah [] dC hJ (by simp;omega) rfl (cP (t:=0) hlen).1 (by
   intro ex V' μ K' R' aL E' ao x0 hf iu bt
   have main:(match lx P 1 V' fn.results.toList,cy 0 0 V'.g with
    |some [pv],aa (.one (.mp k))=>match V'.l[k]?,uG pv with
     |some (.mp lJ (.var 0)),aa e=>if gB lJ then ak.fail 152 else .ret (.rw e)
     |_,_=>.fail 152
    |_,_=>.fail 153).sat P C (·=z) K' (IV.az ds::xs++μ)->∃b,∀N,b<=N->ao.n<=N/\ao.n<=N/\∃v,bJ P fn (E' 1) ao=aa v/\(v=z/\∃es,ao.at 0=aa (.map es ds.length)/\Ba es ds):=by
    intro dK;split at dK<;>first|(exact dK.elim)|skip
    rename_i pv k hr hg;obtain⟨vs,h1,h2⟩:=lA hf.hJ hr;split at dK<;>first|(exact dK.elim)|skip
    rename_i lJ e hk hse;split at dK
    ·exact dK.elim
    rename_i yD;have agD:¬gB lJ=ab:=yD;obtain⟨z',h5,rfl⟩:=dK;obtain⟨v,rfl,hv⟩:=kQ h2;have er:bJ P fn (E' 1) ao=aa v:=kB h1;obtain⟨y,c1,c2⟩:=PG hf.hJ hv hse;simp only[SE.den,c1,asa]at h5;split at h5<;>first|(cases h5;done)|skip
    rename_i qA;cases h5
    have hvy:v=z':=by
     cases z'<;>simp only[aA]at qA<;>first|(cases qA;done)|skip
     exact bZ c2
    have WG:=hf.hJ.slot 0 0 _ hg;have hE0:E' 0=E1 0:=hf.hE 0 (by omega);rw[hE0]at WG
    have P5:(E1 0).at 0=.map 0:=by
     show(cJ [.map 0] 1).at 0=_;rw[(cP (by simp)).2 (by simp)];rfl
    rw[P5]at WG;obtain⟨id,lL,gS,g1,g2,g3⟩:=WG;rw[hk]at g2;cases g2;rw[if_neg agD]at g3;cases g3;have dz:=hf.hJ.obj k _ hk;rw[gL,if_neg agD]at dz;obtain⟨bA,es,clock,mj,d1,d2,d3,d4,d5,d6⟩:=dz;rw[g1]at d2;cases d2;have Yz:(SE.var 0).den P (IV.az ds::xs++μ)=aa (.az mj):=d1;simp[SE.den]at Yz;subst Yz;obtain⟨rfl,xP⟩:=Mk d5 d6 dO;exact⟨ao.n,λN hN=>⟨hN,hN,v,er,hvy,es,d4,xP⟩⟩
   cases ex with
   |exit i=>exact bt.elim
   |bY t pv=>exact bt.elim
   |normal=>
    obtain rfl:=iu;obtain⟨b,hb⟩:=main bt;exact⟨b,λN hN=>⟨(hb N hN).1,.inl rfl,(hb N hN).2⟩⟩
   |ret=>
    obtain rfl:=iu;obtain⟨b,hb⟩:=main bt;exact⟨b,λN hN=>⟨(hb N hN).1,.inr rfl,(hb N hN).2⟩⟩)
 exact rN.Da dO hz (dL.body (RW:=λv aq=>v=z/\∃es,aq.at 0=aa (.map es ds.length)/\Ba es ds) bT hb hlen (nO b (ar8 _))) λv ao h=>h
end Go.Ev
namespace Go.Ev
variable{P:Program}{C:Cr}{Q:IV->Prop}{K K':List (List IV->Prop)}{ν:List IV}
theorem ak.HE(f:ak){K K':List (List IV->Prop)}{ν:List IV}(hk:sD K K')(h:f.sat P C Q K ν):f.sat P C Q K' ν:=ak.eA P f (λ_ h=>h) hk h
theorem EF{A:Type}{init:SE}{body:ak}(e:A->List IV)(I:A->Prop)(μ:A->Nat)(a0:A)(CG:iE P ν init=aa (e a0))(h0:I a0)
 (h:∀a,I a->body.sat P C Q (K++[λvs=>∃a',vs=e a'/\I a'/\μ a'<μ a]) (ν++e a)):(ak.loop init body).sat P C Q K ν:=by
 refine⟨e a0,CG,μ a0+1,?_⟩
 have key:∀m a,I a->μ a<m->(avm (motive:=λ_=>List IV->Prop) (λ_=>False) (λ_ ih vs=>body.sat P C Q (K++[ih]) (ν++vs)) m) (e a):=by
  intro m;induction m with
  |zero=>intro a _ h;omega
  |succ m ih=>
   intro a ha hm;refine body.HE ((sD.refl K).snoc ?_) (h a ha);rintro vs ⟨a',rfl,h1,h2⟩;exact ih a' h1 (by omega)
 exact key (μ a0+1) a0 h0 (Nat.lt_succ_self _)
theorem dE{A:Type}{init:SE}{body:ak}(n:Nat)(e:Nat->A->List IV)(I:Nat->A->Prop)(a0:A)(CG:iE P ν init=aa (e 0 a0))(h0:I 0 a0)
 (h:∀i a,i<=n->I i a->body.sat P C Q (K++[λvs=>∃a',vs=e (i+1) a'/\i+1<=n/\I (i+1) a']) (ν++e i a)):(ak.loop init body).sat P C Q K ν:=by
 refine EF (A:=Nat×A) (λp=>e p.1 p.2) (λp=>p.1<=n/\I p.1 p.2) (λp=>n- p.1) (0,a0) CG ⟨asT _,h0⟩ λ⟨i,a⟩ ⟨hi,hI⟩=>?_;refine body.HE ((sD.refl K).snoc ?_) (h i a hi hI);rintro vs ⟨a',rfl,h1,h2⟩;exact⟨(i+1,a'),rfl,⟨h1,h2⟩,by simp;omega⟩
theorem aeF{a b:ak}{m:Nat}(p:List IV->Prop)(h:a.sat P C Q (K++[p]) ν)(hb:∀vs,p vs->vs.length=m/\b.sat P C Q K (ν++vs)):(ak.q8 a m b).sat P C Q K ν:=
 a.HE ((sD.refl K).snoc hb) h
@[simp] theorem aok{w:Nat}:(ak.fail w).sat P C Q K ν↔False:=auZ
@[simp] theorem TI{e:SE}:(ak.ret e).sat P C Q K ν↔∃z,e.den P ν=aa z/\Q z:=auZ
@[simp] theorem nP{e:SE}{k:ak}:(ak.bj e k).sat P C Q K ν↔(∃z,e.den P ν=aa z)/\k.sat P C Q K ν:=auZ
@[simp] theorem P6{e:SE}{k:ak}:(ak.bind e k).sat P C Q K ν↔∃z,e.den P ν=aa z/\k.sat P C Q K (ν++[z]):=auZ
@[simp] theorem P7{f:FuncId}{new:Bool}{e:SE}{k:ak}:(ak.call f new e k).sat P C Q K ν↔∃xs z,iE P ν e=aa xs/\C f new xs z/\k.sat P C Q K (ν++[z]):=auZ
@[simp] theorem P8{e:SE}{a b:ak}:(ak.test e a b).sat P C Q K ν↔(e.den P ν=aa (.raw (.bool ab))/\a.sat P C Q K ν)\/(e.den P ν=aa (.raw (.bool af))/\b.sat P C Q K ν):=auZ
@[simp] theorem aqV{e:SE}{a b:ak}:(ak.two e a b).sat P C Q K ν↔∃q es,e.den P ν=aa (.tree q es)/\b.sat P C Q K ν/\(es=[]->a.sat P C Q K ν):=auZ
@[simp] theorem P9{lv:Nat}{e:SE}:(ak.next lv e).sat P C Q K ν↔∃vs p,iE P ν e=aa vs/\K[lv]?=aa p/\p vs:=auZ
@[simp] theorem aol{es x:SE}{k:ak}:(ak.same es x k).sat P C Q K ν↔∃ds r,es.den P ν=aa (.az ds)/\x.den P ν=aa (.az (.az ds::r))/\k.sat P C Q K ν:=auZ
@[simp] theorem aqW:iE P ν .an=aa []:=rfl
@[simp] theorem aom{a r:SE}:iE P ν (.ac a r)=(a.den P ν).bind λx=>(iE P ν r).map λxs=>x::xs:=by
  unfold iE;simp only[SE.den];cases a.den P ν with
  |none=>rfl
  |some x=>
   cases r.den P ν with
   |none=>rfl
   |some y=>cases y<;>rfl
abbrev iB(b:Bool):IV:=.raw (.bool b)
abbrev iI(n:Int):IV:=.raw (.int .i64 n)
abbrev iS(l:List UInt8):IV:=.raw (.string ⟨l.toArray⟩)
abbrev iL(l:List Int):IV:=.tree 1 (l.map iI)
@[simp] theorem ai7(q:IntKind)(n:Int):yo (.raw (.int q n))=aa (.raw (.int q n)):=rfl
@[simp] theorem agE(n:Bool):yo (.raw (.bool n))=aa (.raw (.bool n)):=rfl
@[simp] theorem ai8(n:ByteArray):yo (.raw (.string n))=aa (.raw (.string n)):=rfl
@[simp] theorem r8(s:Nat)(es:List IV):yo (.tree s es)=aa (.tree s es):=rfl
@[simp] theorem ai9(s:Nat)(es:List IV):IF (.tree s es)=aa (.raw (.int .i64 es.length)):=rfl
theorem gj{s:Nat}{es:List IV}{i:Nat}{q:IntKind}{x:IV}(h:es[i]?=aa x)(hx:(cellsOf x).length=s):dD s (.tree s es) (.raw (.int q (i:Nat)))=aa x:=by
 simp[dD,gh,h,hx]
@[simp] theorem arh(P:Program)(t:TypeId)(a b:Int):dc P .lss t (iI a) (iI b)=aa (iB (decide (a<b))):=rfl
@[simp] theorem ari(P:Program)(t:TypeId)(a b:Int):dc P .gtr t (iI a) (iI b)=aa (iB (decide (a>b))):=rfl
@[simp] theorem arj(P:Program)(t:TypeId)(a b:Int):dc P .leq t (iI a) (iI b)=aa (iB (decide (a<=b))):=rfl
@[simp] theorem ark(P:Program)(t:TypeId)(a b:Int):dc P .geq t (iI a) (iI b)=aa (iB (decide (a≥b))):=rfl
@[simp] theorem arl(P:Program)(t:TypeId)(a b:Int):dc P .eql t (iI a) (iI b)=aa (iB (a==b)):=rfl
@[simp] theorem arn(P:Program)(t:TypeId)(a b:Int):dc P .neq t (iI a) (iI b)=aa (iB (a !=b)):=rfl
@[simp] theorem aro(P:Program)(t:TypeId)(a b:Int):dc P .add t (iI a) (iI b)=aa (iI (asC.wrap (a+b))):=rfl
@[simp] theorem arp(P:Program)(t:TypeId)(a b:Int):dc P .sub t (iI a) (iI b)=aa (iI (asC.wrap (a- b))):=rfl
@[simp] theorem arq(P:Program)(t:TypeId)(a b:Int):dc P .mul t (iI a) (iI b)=aa (iI (asC.wrap (a*b))):=rfl
@[simp] theorem ars(P:Program)(t:TypeId)(a b:List UInt8):dc P .lss t (iS a) (iS b)=aa (iB (auy a b)):=by
  show aa (IV.bool (auy a.toArray.toList b.toArray.toList))=_;simp
@[simp] theorem art(P:Program)(t:TypeId)(a b:List UInt8):dc P .gtr t (iS a) (iS b)=aa (iB (!(auy a b||a==b))):=by
  show aa (IV.bool (!(auy a.toArray.toList b.toArray.toList||a.toArray.toList==b.toArray.toList)))=_;simp
@[simp] theorem aru(P:Program)(t:TypeId)(a b:List UInt8):dc P .neq t (iS a) (iS b)=aa (iB (!(a==b))):=by
  show aa (IV.bool (!(a.toArray.toList==b.toArray.toList)))=_;simp
theorem ac4(P:Program)(t:TypeId)(hu:P.underlying t=aa .bool)(a b:Bool):dc P .eql t (iB a) (iB b)=aa (iB (a==b)):=by
 show(aS P (do eqGuard .eql t _ _ _ _;Go.binOp .eql t _ _)).map lift=_;rw[bx];show(aS P (do pure (.bool (<-atu (9999+1) t (.bool a) (.bool b))))).map lift=_;unfold atu;rw[bx,bx,Go.Ev.run_underlying hu,asa];rfl
theorem aj2(P:Program)(t:TypeId)(hu:P.underlying t=aa .bool)(a b:Bool):dc P .neq t (iB a) (iB b)=aa (iB (!(a==b))):=by
 show(aS P (do eqGuard .neq t _ _ _ _;Go.binOp .neq t _ _)).map lift=_;rw[bx];show(aS P (do pure (.bool (!(<-atu (9999+1) t (.bool a) (.bool b)))))).map lift=_;unfold atu;rw[bx,bx,Go.Ev.run_underlying hu,asa];rfl
@[simp] theorem arv(P:Program)(a:Bool):VY P .not (iB a)=aa (iB (!a)):=rfl
theorem dQ{a:Int}(h1: -9223372036854775808<=a)(h2:a<=9223372036854775807):asC.wrap a=a:=by
 simp only[IntKind.wrap,IntKind.bits,IntKind.signed];simp;omega
end Go.Ev
namespace Go.Ev
variable{P:Program}{C:Cr}{Q:IV->Prop}{K K':List (List IV->Prop)}{ν:List IV}
def P_{A:Type}(n:Nat)(e:Nat->A->List IV)(I:Nat->A->Prop)(i:Nat)(vs:List IV):Prop:=∃a',vs=e (i+1) a'/\i+1<=n/\I (i+1) a'
theorem P_.mk{A:Type}{n:Nat}{e:Nat->A->List IV}{I:Nat->A->Prop}{i:Nat}{vs:List IV}(a':A)(h1:vs=e (i+1) a')(h2:i+1<=n)(h3:I (i+1) a'):P_ n e I i vs:=⟨a',h1,h2,h3⟩
theorem aw{A:Type}{init:SE}{body:ak}(n:Nat)(e:Nat->A->List IV)(I:Nat->A->Prop)(a0:A)(CG:iE P ν init=aa (e 0 a0))(h0:I 0 a0)
 (h:∀i a,i<=n->I i a->body.sat P C Q (K++[P_ n e I i]) (ν++e i a)):(ak.loop init body).sat P C Q K ν:=
 dE n e I a0 CG h0 h
def abS{A:Type}(e:A->List IV)(I:A->Prop)(μ:A->Nat)(a:A)(vs:List IV):Prop:=∃a',vs=e a'/\I a'/\μ a'<μ a
theorem abS.mk{A:Type}{e:A->List IV}{I:A->Prop}{μ:A->Nat}{a:A}{vs:List IV}(a':A)(h1:vs=e a')(h2:I a')(h3:μ a'<μ a):abS e I μ a vs:=⟨a',h1,h2,h3⟩
theorem xn{A:Type}{init:SE}{body:ak}(e:A->List IV)(I:A->Prop)(μ:A->Nat)(a0:A)(CG:iE P ν init=aa (e a0))(h0:I a0)
 (h:∀a,I a->body.sat P C Q (K++[abS e I μ a]) (ν++e a)):(ak.loop init body).sat P C Q K ν:=
 EF e I μ a0 CG h0 h
def Qa(p:List IV->Prop)(vs:List IV):Prop:=p vs
theorem gr{a b:ak}{m:Nat}(p:List IV->Prop)(h:a.sat P C Q (K++[Qa p]) ν)(hb:∀vs,p vs->vs.length=m/\b.sat P C Q K (ν++vs)):(ak.q8 a m b).sat P C Q K ν:=
 aeF p h hb
end Go.Ev
namespace Go.Ev
variable{P:Program}{C:Cr}{Q:IV->Prop}{K:List (List IV->Prop)}{ν:List IV}
def noTwo:ak->Bool
 |.two .. |.pick .. =>af
 |.test _ a b|.q8 a _ b=>noTwo a&&noTwo b
 |.bind _ k|.bj _ k|.call _ _ _ k|.loop _ k|.same _ _ k=>noTwo k
 |_=>ab
def ExK(Q:IV->Prop)(K:List (List IV->Prop))(Kz:IV->List (List IV->Prop)):Prop:=
 (∀z,(Kz z).length=K.length)/\∀(lv:Nat) (p:List IV->Prop) (vs:List IV),K[lv]?=aa p->p vs->∃z,Q z/\∃p':List IV->Prop,(Kz z)[lv]?=aa p'/\p' vs
theorem ExK.snoc{Kz:IV->List (List IV->Prop)}{p:List IV->Prop}{q:IV->List IV->Prop}(h:ExK Q K Kz)(hp:∀vs,p vs->∃z,Q z/\q z vs):ExK Q (K++[p]) (λz=>Kz z++[q z]):=by
 refine⟨λz=>by simp[h.1 z],λlv r vs hr gY=>?_⟩;by_cases hl:lv<K.length
 ·rw[asd hl]at hr;obtain⟨z,h1,p',h2,h3⟩:=h.2 lv r vs hr gY;exact⟨z,h1,p',by rw[asd (by rw[h.1 z];exact hl)];exact h2,h3⟩
 ·have ai:=(ar3.1 hr).1;simp at ai;have:lv=K.length:=by omega
  subst this;simp at hr;subst hr;obtain⟨z,h1,h2⟩:=hp vs gY;exact⟨z,h1,q z,by simp[<-h.1 z],h2⟩
theorem q9:∀(cF:ak),noTwo cF=ab->∀{K:List (List IV->Prop)} {Kz:IV->List (List IV->Prop)} {ν:List IV},ExK Q K Kz->cF.sat P C Q K ν->∃z,Q z/\cF.sat P C (·=z) (Kz z) ν
 |.fail _,_,_,_,_,_,h=>h.elim
 |.bad ..,_,_,_,_,_,h=>h.elim
 |.two ..,hn,_,_,_,_,_=>by cases hn
 |.pick ..,hn,_,_,_,_,_=>by cases hn
 |.uniq k,_,K,Kz,_,hK,h=>by
  obtain⟨z,h1,h2⟩:=h;refine⟨z,h1,z,rfl,ak.eA P k (λ_ h=>h) ?_ h2⟩;refine .mk (by simp[hK.1 z]) λi a b ha hb vs hv=>?_;simp only[asi,ar9]at ha;obtain⟨_,_,rfl⟩:=ha;exact hv.elim
 |.same es x k,hn,_,_,_,hK,h=>by
  obtain⟨ds,r,h1,h2,h3⟩:=h;obtain⟨z,g1,g2⟩:=q9 k hn hK h3;exact⟨z,g1,ds,r,h1,h2,g2⟩
 |.ret e,_,_,_,_,_,h=>by
  obtain⟨z,h1,h2⟩:=h;exact⟨z,h2,z,h1,rfl⟩
 |.test e a b,hn,_,_,_,hK,h=>by
  simp only[noTwo,ar4]at hn;rcases h with⟨h1,h2⟩|⟨h1,h2⟩
  ·obtain⟨z,g1,g2⟩:=q9 a hn.1 hK h2;exact⟨z,g1,.inl ⟨h1,g2⟩⟩
  ·obtain⟨z,g1,g2⟩:=q9 b hn.2 hK h2;exact⟨z,g1,.inr ⟨h1,g2⟩⟩
 |.bind e k,hn,_,_,_,hK,h=>by
  obtain⟨y,h1,h2⟩:=h;obtain⟨z,g1,g2⟩:=q9 k hn hK h2;exact⟨z,g1,y,h1,g2⟩
 |.bj e k,hn,_,_,_,hK,h=>by
  obtain⟨z,g1,g2⟩:=q9 k hn hK h.2;exact⟨z,g1,h.1,g2⟩
 |.call f new e k,hn,_,_,_,hK,h=>by
  obtain⟨xs,y,h1,h2,h3⟩:=h;obtain⟨z,g1,g2⟩:=q9 k hn hK h3;exact⟨z,g1,xs,y,h1,h2,g2⟩
 |.next lv e,_,K,Kz,_,hK,h=>by
  obtain⟨vs,p,h1,h2,h3⟩:=h;obtain⟨z,g1,p',g2,g3⟩:=hK.2 lv p vs h2 h3;exact⟨z,g1,vs,p',h1,g2,g3⟩
 |.q8 a m b,hn,K,Kz,ν,hK,h=>by
  simp only[noTwo,ar4]at hn
  exact q9 a hn.1 (Kz:=λz=>Kz z++[λvs=>vs.length=m/\b.sat P C (·=z) (Kz z) (ν++vs)]) (hK.snoc λvs gY=>by
   obtain⟨z,g1,g2⟩:=q9 b hn.2 hK gY.2;exact⟨z,g1,gY.1,g2⟩) h
 |.loop i b,hn,K,Kz,ν,hK,h=>by
  obtain⟨vs,h1,m,hm⟩:=h
  have key:∀(m:Nat) (vs:List IV),(avm (motive:=λ_=>List IV->Prop) (λ_=>False) (λ_ ih vs=>b.sat P C Q (K++[ih]) (ν++vs)) m) vs->
   ∃z,Q z/\(avm (motive:=λ_=>List IV->Prop) (λ_=>False) (λ_ ih vs=>b.sat P C (·=z) (Kz z++[ih]) (ν++vs)) m) vs:=by
   intro m;induction m with
   |zero=>intro vs h;exact h.elim
   |succ m ih=>
    intro vs h;exact q9 b hn (Kz:=λz=>Kz z++[avm (motive:=λ_=>List IV->Prop) (λ_=>False) (λ_ ih vs=>b.sat P C (·=z) (Kz z++[ih]) (ν++vs)) m]) (hK.snoc ih) h
  obtain⟨z,g1,g2⟩:=key m vs hm;exact⟨z,g1,vs,h1,m,g2⟩
theorem yJ{cF:ak}(hn:noTwo cF=ab)(h:cF.sat P C Q [] ν):∃z,Q z/\cF.sat P C (·=z) [] ν:=
 q9 cF hn (Kz:=λ_=>[]) ⟨λ_=>rfl,λ_ _ _ h=>by simp at h⟩ h
end Go.Ev
namespace Go.Ev
open Go
variable{H:Type}{enc:TypeId×Value->H}{P:Program}{w:World}{sp:Nat->Bool}{held:Bool}
theorem kC{a:Addr}{n:Nat}{us:List Value}(h:w.cells? 0 a n=aa us):us.length=n/\∀j,j<n->w.cell? (a.add j)=us[j]? :=by
 unfold World.cells? at h;rw[if_pos (asT _)]at h;exact⟨by simpa using mapM_some_length h,λj hj=>mapM_some_get h j j (by simp[hj])⟩
theorem Jn{b off:Nat}{v:Value}(h:w.cell? ⟨b,off,ah⟩=aa v):oE (allM w) b off=aa v:=by
 unfold World.cell? at h;simp only at h;split at h
 ·rename_i c e f hb;rw[if_neg (by simp)]at h;unfold oE allM;rw[hb];exact h
 ·cases h
theorem CH(b off n:Nat):(⟨b,off,ah⟩:Addr).add n=⟨b,off+n,ah⟩:=by
 unfold axP;split
 ·rename_i h;subst h;rfl
 ·rfl
theorem CI{α:Type}(f:α->IV){s:Nat}(hs:0<s)(bH:∀a,(cellsOf (f a)).length=s)(Ok:α->Prop){t e:TypeId}(ht:P.underlying t=aa (.slice e))(hP:P.cellsOf e=s){fuel:Nat}{u:Value}{x:DataW H×List MemPlace}
 (oc:∀n us x,n<fuel->asY enc P w 0 sp held n e us=aa x->us.length=s->∃a,Ok a/\aC (ew (allM w)) (cellsOf (f a)) us)
 (h:asY enc P w 0 sp held fuel t [u]=aa x):∃l:List α,l.length<=9223372036854775807/\(∀a∈l,Ok a)/\Rv (ew (allM w)) (.tree s (l.map f)) u:=by
 rcases DataW.trod_slice ht h with⟨h1,_⟩|⟨a,len,cap,elems,rest,n,hfu,h1,_,_,lD,hcm,hlen,aE,_,_⟩
 ·obtain rfl:=(auG h1).1;exact⟨[],by simp,by simp,.dS s ah 0 hs (λ_=>rfl)⟩
 ·obtain rfl:=(auG h1).1;by_cases jn:len=0
  ·subst jn;exact⟨[],by simp,by simp,.dS s (aa a) cap hs (by simp)⟩
  ·have key:∀i:Fin len,∃p:List Value×α,w.cells? 0 (a.add (i.1*s)) s=aa p.1/\Ok p.2/\aC (ew (allM w)) (cellsOf (f p.2)) p.1:=λi=>by
    have hi:=aE i.1 i.2;rw[hP]at hi;have uu:elems[i.1]?=aa elems[i.1]:=ar2 (by omega);rw[uu]at hi;obtain⟨us,x_,q0⟩:=aso.1 hi;obtain⟨b,cI,fg⟩:=oc n us _ (by omega) q0 (kC x_).1;exact⟨(us,b),x_,cI,fg⟩
   obtain⟨g,hg⟩:=axJ key
   have Jo:a.spot=ah:=by
    obtain⟨pj,_,_⟩:=hg ⟨0,by omega⟩;obtain⟨qY,eR⟩:=kC pj;have h0:=eR 0 hs;rw[ar2 (by omega)]at h0;have:=World.cell?_spot h0;simpa[axP]using this
   obtain⟨b,off,spot⟩:=a;simp only at Jo;subst Jo
   have gZ:∀i (hi:i<len) j,j<s->w.cell? ⟨b,off+(i*s+j),ah⟩=(g ⟨i,hi⟩).1[j]? :=λi hi j hj=>by
    have:=(kC (hg ⟨i,hi⟩).1).2 j hj;rw[CH,CH]at this;rw[<-Nat.add_assoc];exact this
   refine⟨avc λi=>(g i).2,by simp;have:maxLen=9223372036854775807:=rfl;omega,?_,?_⟩
   ·intro c hc;obtain⟨i,rfl⟩:=(List.mem_ofFn (f:=λi=>(g i).2)).1 hc;exact(hg i).2.1
   ·have oc:((avc λi=>(g i).2).map f).length=len:=by simp
    have hR:=Rv.tree (ι:=ew (allM w)) s ((avc λi=>(g i).2).map f) b off cap (λk=>(w.cell? ⟨b,off+k,ah⟩).getD Go.undef) hs (by rw[oc];exact lD) ?_ ?_ ?_
    ·rw[oc]at hR;exact hR
    ·intro e' gV;obtain⟨c,_,rfl⟩:=List.mem_map.1 gV;exact bH c
    ·intro k hk;rw[oc]at hk;have hi:k/s<len:=Nat.div_lt_of_lt_mul (by rw[awr];exact hk);have hj:k % s<s:=Nat.mod_lt _ hs;have hc:=gZ (k/s) hi (k % s) hj;have cC:k/s*s+k % s=k:=by rw[awr];exact Nat.div_add_mod k s
     rw[cC]at hc;have qY:=(kC (hg ⟨k/s,hi⟩).1).1;rw[ar2 (by omega)]at hc;rw[Jn hc,hc];rfl
    ·intro i e' j c gV hc;rw[asi,List.getElem?_ofFn]at gV;split at gV
     ·rename_i hi;simp only[asy,ar6]at gV;subst gV;have hj:j<s:=by have:=(ar3.1 hc).1;rw[bH]at this;exact this
      have kK:=gZ i hi j hj;have qY:=(kC (hg ⟨i,hi⟩).1).1;rw[ar2 (by omega)]at kK;simp only[kK,Option.getD_some];exact(hg ⟨i,hi⟩).2.2.2 j c _ hc (ar2 _)
     ·simp at gV
theorem Jp{t:TypeId}{fs:Array Field}{cs:List Value}{fuel:Nat}{x:DataW H×List MemPlace}(ht:P.underlying t=aa (.struct fs))(h:asY enc P w 0 sp held fuel t cs=aa x):
 ∃n,fuel=n+1/\∀(i:Nat) (ty:TypeId) (off k:Nat),(fs[i]?).map (λf:Field=>(f.type,f.offset))=aa (ty,off)->P.cellsOf ty=k->∃y,asY enc P w 0 sp held n ty ((cs.drop off).take k)=aa y:=by
 obtain⟨xs,n,h1,_,_,h4,h5⟩:=DataW.trod_struct ht h;refine⟨n,h1,λi ty off k hi hk=>?_⟩;obtain⟨f,hf,Og⟩:=ar9.1 hi;simp only[asu]at Og;obtain⟨rfl,rfl⟩:=Og
 have yb:i<xs.length:=by
  rw[h4];exact(Array.getElem?_eq_some_iff.1 hf).1
 have:=h5 i f hf;rw[ar2 yb,hk]at this;exact⟨_,this⟩
end Go.Ev
