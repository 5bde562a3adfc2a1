/- Lemmas over the model, without conditions of their own: code on expressions is sound (2); contracts out of functional programs. -/
import Derived.Test.YtggffkaadeagbaaGreatEvO
import Derived.Test.YtggffkaadeagbaaGreatEvN
import Derived.ProofKit
import Derived.OpenShut
open Nat renaming rec->av6,eq_of_beq_eq_true->asV,le_refl->asR,ble->atN,beq->asW,zero_add->auf,add_zero->ayg,zero_le->atE,mul_comm->axb
open List renaming prefix_append->axa,append_assoc->atf,getElem?_append_right->atm,getElem?_cons_zero->auo,drop_of_length_le->atg,drop_eq_getElem_cons->ata,drop_zero->au9,getElem?_eq_some_iff->asM,getElem?_eq_getElem->asL,mem_of_getElem?->asZ,getElem?_cons_succ->ava,length->atu,map_cons->atJ,getElem?_map->as4,getElem?_append_left->asY,length_map->auk,ofFn->avW
open Option.some renaming injEq->asP
open Bool renaming false_eq_true->atn,and_eq_true->asN,not_eq_true'->atD
open Prod.mk renaming injEq->ati
open Option renaming map_some->atl,bind_some->asU,map_eq_some_iff->asS,bind_eq_some_iff->as_
open List.cons renaming injEq->atK,inj->avn
open Iff renaming rfl->avG
open Go.IntKind renaming i64->as7
open Go.Op renaming bytesLess->avg,equalIn->aue
open Go.Addr renaming add->ayw
open Go.DataW renaming trod->atL
open Classical renaming axiomOfChoice->ayr
open Option renaming some->aa,none->ah
open Bool renaming true->ab,false->af
set_option linter.all false
namespace Go.Ev
variable{P:Program}{N:Nat}{σ ao:St}{R R':Rs}{φ aL:Ph}{E:Nat->Env}{ν:List IV}{ro:Nat}{ι:Io}{w:World}{cfg:a_}{self:nX}
variable{C:Cr}{Q:IV->Prop}{K:List (List IV->Prop)}{V:SS}{d f0:Nat}{o:Oper}{k:PV SE->SS->ak}{L:List (LO SE)}{Γ:Gm SE}{rd:Option Nat}{df:List Df}
theorem XR.goto{ex:zC}{x:Ex}(h:XR P ν R φ L σ ex x)(l:Nat):x≠.goto l:=by
 cases ex with
 |b_ t pv=>obtain⟨v,rfl,_⟩:=h;simp
 |_=>rw[show x=_ from h];simp
theorem XR.norm{ex:zC}{x:Ex}(h:XR P ν R φ L σ ex x)(aW:ex≠.normal):x≠.normal:=by
 cases ex with
 |normal=>exact absurd rfl aW
 |b_ t pv=>obtain⟨v,rfl,_⟩:=h;simp
 |_=>rw[show x=_ from h];simp
theorem T4{t:Nat}{c:Cl SE}(hc:c≠.un)(h:bO P d V 0 (.tmp t)=.one c):cA d t V.g=aa (.one c):=by
 simp only[bO]at h;cases hg:cA d t V.g with
 |none=>rw[hg]at h;cases h;exact absurd rfl hc
 |some pv=>rw[hg]at h;simpa using h
theorem KW.ks{kk:zC->SS->ak}{nt:Nat}{CW:Nat->kc}(h:KW P C Q d E K ν nt kk CW):KS P C Q d E K ν nt (kk .normal) (λN e σ=>CW N .normal e σ):=
 λV' μ K' R' aL E' ao hf hs=>h .normal V' μ K' R' aL E' ao _ hf rfl hs
theorem M4{a:Code}{k:zC->SS->ak}{CW:Nat->kc}{H:SS}{n mm f:Nat}{ws:List (Nat×Nat×Nat)}{bad:SS->ak}{lv:Nat}(hKl:K.length=lv)(bj:pI P C Q self)(ahj:∀W K ν,¬(bad W).sat P C Q K ν)
 (hK:K.length+1=H.lv)(hHn:H.n=n+mm)(hn:ν.length=n)(ju:KW P C Q d E K ν H.nt k CW):∀(m:Nat) {vs:List IV} {R:Rs} {φ:Ph} {E1:Nat->Env} {σ:St},J (au P (ν++vs)) R φ H.g H.l E1 σ->vs.length=mm->(∀j,j<d->E1 j=E j)->(E1 d).n=(E d).n->(E d).n=H.nt->
  (av6 (motive:=λ_=>List IV->Prop) (λ_=>False) (λ_ ih vs=>(self d f a H λex W=>match ex with
   |.normal=>match inst n mm H (settle ws W)with
    |some (args,_)=>.next lv (d_ args)
    |none=>bad W
   |ex=>k ex W).sat P C Q (K++[ih]) (ν++vs)) m) vs->∃b,∀N,b<=N->oX P N rd m a (E1 d) df σ (CW N)
 |0,_,_,_,_,_,_,_,_,_,_,h=>h.elim
 |m+1,vs,R,φ,E1,σ,hJ,ij,hE,Qr,hE2,h=>by
  obtain⟨b,hb⟩:=bj d f a H _ (ν++vs) _ R φ E1 σ (λN=>wm N (λe1 aq=>oX P N rd m a e1 df aq (CW N)) (CW N)) rd df h hJ (by rw[List.length_append,hn,ij,hHn]) (by simp[hK]) (by rw[Qr,hE2]) (by
   intro ex V' μ K' R' aL E' ao x hf hx hs
   have other:∀wz,wz≠.normal->XR P (ν++vs++μ) R' aL V'.l ao wz x->(k wz V').sat P C Q K' (ν++vs++μ)->∃b,∀N,b<=N->ao.n<=N/\wm N (λe1 aq=>oX P N rd m a e1 df aq (CW N)) (CW N) x (E' d) ao:=by
    intro wz aW hx hs;have apc:∀x,KW P C Q d E1 (K++[x]) (ν++vs) H.nt k CW:=λx=>ju.fwd (axa K [x]) hE Qr;obtain⟨b,hb⟩:=apc _ wz V' μ K' R' aL E' ao x hf hx hs;exact⟨b,λN hN=>⟨(hb N hN).1,(hb N hN).1,λh=>absurd h (hx.norm aW),λ_=>(hb N hN).2⟩⟩
   cases ex with
   |normal=>
    obtain rfl:=hx;simp only at hs;split at hs
    ·rename_i es eg hi;obtain⟨R2,ff,yl,_⟩:=z8 ws hf.hJ;obtain⟨us,p,h1,h2,h3⟩:=hs;obtain⟨hlen,uU⟩:=Lu (q0:=ν) ff hn ⟨vs++μ,by rw[atf]⟩ hi (H4 h1);obtain⟨t,ht⟩:=hf.hK;rw[<-ht,atf,atm (by omega),hKl,Nat.sub_self]at h2;simp only[List.singleton_append,auo,asP]at h2;subst h2;obtain⟨b,hb⟩:=M4 hKl bj ahj hK hHn hn ju m uU hlen (λj hj=>by rw[hf.hE j hj,hE j hj]) (by rw[hf.Jz,Qr]) hE2 h3;exact⟨max b ao.n,λN hN=>⟨by omega,by omega,λ_=>hb N (by omega),λh=>absurd rfl h⟩⟩
    ·exact(ahj _ _ _ hs).elim
   |exit i=>exact other (.exit i) (by simp) hx hs
   |ret=>exact other .ret (by simp) hx hs
   |b_ t pv=>exact other (.b_ t pv) (by simp) hx hs)
  exact⟨b,λN hN=>.succ (hb N hN)⟩
theorem M5{a:Code}{k:zC->SS->ak}{CW:Nat->kc}{f:Nat}(bj:pI P C Q self):∀(n:Nat) (V:SS) ν K R φ E σ,(K4 self d f a k n V).sat P C Q K ν->J (au P ν) R φ V.g V.l E σ->ν.length=V.n->K.length=V.lv->(E d).n=V.nt->KW P C Q d E K ν V.nt k CW->
 ∃b,∀N,b<=N->oX P N rd n a (E d) df σ (CW N)
 |0,_,_,_,_,_,_,_,hs,_,_,_,_,_=>hs.elim
 |n+1,V,ν,K,R,φ,E,σ,hs,hJ,hn,hK,ct,ju=>by
  obtain⟨b,hb⟩:=bj d f a V _ ν K R φ E σ (λN=>wm N (λe1 aq=>oX P N rd n a e1 df aq (CW N)) (CW N)) rd df hs hJ hn hK ct (by
   intro ex V' μ K' R' aL E' ao x0 hf hx bt
   have other:∀wz,wz≠.normal->XR P (ν++μ) R' aL V'.l ao wz x0->(k wz V').sat P C Q K' (ν++μ)->∃b,∀N,b<=N->ao.n<=N/\wm N (λe1 aq=>oX P N rd n a e1 df aq (CW N)) (CW N) x0 (E' d) ao:=by
    intro wz aW hx hs;obtain⟨b,hb⟩:=ju wz V' μ K' R' aL E' ao x0 hf hx hs;exact⟨b,λN hN=>⟨(hb N hN).1,(hb N hN).1,λh=>absurd h (hx.norm aW),λ_=>(hb N hN).2⟩⟩
   cases ex with
   |normal=>
    obtain rfl:=hx
    obtain⟨b,hb⟩:=M5 bj n V' (ν++μ) K' R' aL E' ao bt hf.hJ hf.hn hf.f_ (by rw[hf.Jz,ct,hf.ct]) (by
     rw[hf.ct];exact ju.fwd hf.hK hf.hE hf.Jz)
    exact⟨max b ao.n,λN hN=>⟨by omega,by omega,λ_=>hb N (by omega),λh=>absurd rfl h⟩⟩
   |exit i=>exact other (.exit i) (by simp) hx bt
   |ret=>exact other .ret (by simp) hx bt
   |b_ t pv=>exact other (.b_ t pv) (by simp) hx bt)
  exact⟨b,λN hN=>.succ (hb N hN)⟩
theorem KW.uniq{k:zC->SS->ak}{CW:Nat->kc}{nt:Nat}{Q':IV->Prop}(hq:∀z,Q' z->Q z)(h:KW P C Q d E K ν nt k CW):KW P C Q' d E (K.map λ_ _=>False) ν nt k CW:=by
 intro ex V' μ K' R' aL E' ao x hf hx hs;obtain⟨t,ht⟩:=hf.hK;refine h ex V' μ (K++t) R' aL E' ao x ⟨axa K t,?_,hf.ct,hf.hJ,hf.hn,hf.hE,hf.Jz⟩ hx (ak.eJ P _ hq ?_ hs)
 ·have:=hf.f_;rw[<-ht]at this;simpa using this
 ·rw[<-ht];exact(sW.no K).app (sW.refl t)
theorem S6(fi:P.follows .mixedOrders=ab)(hC:jr P C)(ZB:∀Q,pI P C Q self):pI P C Q (nY P cfg self):=by
 have bj:=ZB Q;intro d f c V k ν K R φ E σ CW rd df hs hJ hn hK ct ju;cases c with
 |skip=>
  obtain⟨b,hb⟩:=ju.now hJ hn hK (ex:=.normal) rfl hs;exact⟨b,λN hN=>.skip (hb N hN).2⟩
 |label l=>
  obtain⟨b,hb⟩:=ju.now hJ hn hK (ex:=.normal) rfl hs;exact⟨b,λN hN=>.label (hb N hN).2⟩
 |exit id=>
  obtain⟨b,hb⟩:=ju.now hJ hn hK (ex:=.exit id) rfl hs;exact⟨b,λN hN=>.exit (hb N hN).2⟩
 |ret=>
  obtain⟨b,hb⟩:=ju.now hJ hn hK (ex:=.ret) rfl hs;exact⟨b,λN hN=>.ret (hb N hN).2⟩
 |region id ops draw=>
  cases draw with
  |true=>
   simp only[nY,if_true]at hs;split at hs
   ·rename_i mZ;exact acF (fn:=0) fi hC mZ hs hJ hn hK ct ju.ks
   ·exact hs.elim
  |false=>
   simp only[nY,atn,if_false]at hs;obtain⟨b,hb⟩:=T3 (CX:=CW) (rd:=rd) (df:=df) hC bj ops.toList [] V ν K R φ E σ (mG.nil _) hs hJ hn hK ct ju.ks ju.kp;exact⟨b,λN hN=>.region (hb N hN)⟩
 |seq x y=>
  simp only[nY]at hs
  obtain⟨b,hb⟩:=bj d f x V _ ν K R φ E σ (λN=>wm N (λe1 aq=>dL P N rd y e1 df aq (CW N)) (CW N)) rd df hs hJ hn hK ct (by
   intro ex V' μ K' R' aL E' ao x0 hf hx bt
   have other:∀wz,wz≠.normal->XR P (ν++μ) R' aL V'.l ao wz x0->(k wz V').sat P C Q K' (ν++μ)->∃b,∀N,b<=N->ao.n<=N/\wm N (λe1 aq=>dL P N rd y e1 df aq (CW N)) (CW N) x0 (E' d) ao:=by
    intro wz aW hx hs;obtain⟨b,hb⟩:=ju wz V' μ K' R' aL E' ao x0 hf hx hs;exact⟨b,λN hN=>⟨(hb N hN).1,(hb N hN).1,λh=>absurd h (hx.norm aW),λ_=>(hb N hN).2⟩⟩
   cases ex with
   |normal=>
    obtain rfl:=hx
    obtain⟨b,hb⟩:=bj d f y V' k (ν++μ) K' R' aL E' ao CW rd df bt hf.hJ hf.hn hf.f_ (by rw[hf.Jz,ct,hf.ct]) (by
     rw[hf.ct];exact ju.fwd hf.hK hf.hE hf.Jz)
    exact⟨max b ao.n,λN hN=>⟨by omega,by omega,λ_=>hb N (by omega),λh=>absurd rfl h⟩⟩
   |exit i=>exact other (.exit i) (by simp) hx bt
   |ret=>exact other .ret (by simp) hx bt
   |b_ t pv=>exact other (.b_ t pv) (by simp) hx bt)
  exact⟨b,λN hN=>.seq (hb N hN)⟩
 |cond c x y=>
  simp only[nY]at hs;have hc:=bo hJ d 0 c;split at hs
  ·rename_i hh;rw[hh]at hc;obtain⟨u,h1,h2,_⟩:=hc;simp only[au,SE.den,asP]at h1;subst h1;obtain⟨b,hb⟩:=bj d f x V k ν K R φ E σ CW rd df hs hJ hn hK ct ju;exact⟨b,λN hN=>.cond (cb h2) (by rw[if_pos rfl];exact hb N hN)⟩
  ·rename_i hh;rw[hh]at hc;obtain⟨u,h1,h2,_⟩:=hc;simp only[au,SE.den,asP]at h1;subst h1;obtain⟨b,hb⟩:=bj d f y V k ν K R φ E σ CW rd df hs hJ hn hK ct ju;exact⟨b,λN hN=>.cond (cb h2) (by rw[if_neg (by simp)];exact hb N hN)⟩
  ·rename_i e _ _ hh;split at hs
   ·rename_i t;split at hs
    ·exact hs.elim
    ·have hg:=T4 (by simp) hh;rcases hs with⟨h1,hs⟩|⟨h1,hs⟩
     ·obtain⟨aE,bD⟩:=J.refine hJ (.inl hg) h1;obtain⟨b,hb⟩:=bj d f x _ k ν K R φ E σ CW rd df hs bD hn hK ct ju;exact⟨b,λN hN=>.cond (t:=ab) aE (by rw[if_pos rfl];exact hb N hN)⟩
     ·obtain⟨aE,bD⟩:=J.refine hJ (.inl hg) h1;obtain⟨b,hb⟩:=bj d f y _ k ν K R φ E σ CW rd df hs bD hn hK ct ju;exact⟨b,λN hN=>.cond (t:=af) aE (by rw[if_neg (by simp)];exact hb N hN)⟩
   ·exact hs.elim
  ·rename_i e hh;split at hs
   ·rename_i t;split at hs
    ·exact hs.elim
    ·have hg:=T4 (by simp) hh;rcases hs with⟨h1,hs⟩|⟨h1,hs⟩
     ·obtain⟨aE,bD⟩:=J.refine hJ (.inr ⟨_,hg⟩) h1;obtain⟨b,hb⟩:=bj d f x _ k ν K R φ E σ CW rd df hs bD hn hK ct ju;exact⟨b,λN hN=>.cond (t:=ab) aE (by rw[if_pos rfl];exact hb N hN)⟩
     ·obtain⟨aE,bD⟩:=J.refine hJ (.inr ⟨_,hg⟩) h1;obtain⟨b,hb⟩:=bj d f y _ k ν K R φ E σ CW rd df hs bD hn hK ct ju;exact⟨b,λN hN=>.cond (t:=af) aE (by rw[if_neg (by simp)];exact hb N hN)⟩
   ·exact hs.elim
  ·exact hs.elim
 |block id x=>
  simp only[nY]at hs
  obtain⟨b,hb⟩:=bj d f x V _ ν K R φ E σ (λN ex e1 aq=>CW N (match ex with|.exit i=>if i=id then .normal else .exit i|ex=>ex) e1 aq) rd df hs hJ hn hK ct (by
   intro ex V' μ K' R' aL E' ao x0 hf hx bt;cases ex with
   |normal=>obtain rfl:=hx;exact ju .normal V' μ K' R' aL E' ao _ hf rfl bt
   |ret=>obtain rfl:=hx;exact ju .ret V' μ K' R' aL E' ao _ hf rfl bt
   |b_ t pv=>obtain⟨v,rfl,hv⟩:=hx;exact ju (.b_ t pv) V' μ K' R' aL E' ao _ hf ⟨v,rfl,hv⟩ bt
   |exit i=>
    obtain rfl:=hx;simp only at bt;split at bt
    ·rename_i hh;have:=asV hh;subst this;simpa using ju .normal V' μ K' R' aL E' ao _ hf rfl bt
    ·rename_i hh;have aW:i≠id:=by rintro rfl;simp at hh
     simpa[aW]using ju (.exit i) V' μ K' R' aL E' ao _ hf rfl bt)
  exact⟨b,λN hN=>.block (hb N hN)⟩
 |scope x=>
  simp only[nY]at hs
  obtain⟨b,hb⟩:=bj d f x V k ν K R φ E σ (λN ex e1 aq=>(∀l,ex≠.goto l)/\CW N ex e1 aq) rd df hs hJ hn hK ct (by
   intro ex V' μ K' R' aL E' ao x0 hf hx bt;obtain⟨b,hb⟩:=ju ex V' μ K' R' aL E' ao x0 hf hx bt;exact⟨b,λN hN=>⟨(hb N hN).1,hx.goto,(hb N hN).2⟩⟩)
  exact⟨b,λN hN=>.scope (hb N hN)⟩
 |loop x=>
  simp only[nY]at hs;split at hs
  ·rename_i nn _;obtain⟨b,hb⟩:=M5 (rd:=rd) (df:=df) bj nn V ν K R φ E σ hs hJ hn hK ct ju;exact⟨b,λN hN=>.loop (hb N hN)⟩
  split at hs
  ·rename_i es eg hi
   obtain⟨Q',K0,hQ,hK,ju,bj,hs⟩:∃(Q':IV->Prop) (K0:List (List IV->Prop)),True/\K0.length=V.lv/\KW P C Q' d E K0 ν V.nt k CW/\pI P C Q' self/\(ak.loop (d_ es) _).sat P C Q' K0 ν:=by
    split at hs
    ·obtain⟨z,hz,hs⟩:=hs;exact⟨_,_,trivial,by simpa using hK,ju.uniq (λz' h=>by rw[show z'=z from h];exact hz),ZB _,hs⟩
    ·exact⟨Q,K,trivial,hK,ju,bj,hs⟩
   obtain⟨vs,h1,m,h2⟩:=hs;obtain⟨R2,ff,yl,_⟩:=Qp _ hJ;obtain⟨hlen,uU⟩:=Lu (q0:=ν) ff (by rw[yl];exact hn) ⟨[],by simp⟩ hi (H4 h1);obtain⟨b,hb⟩:=M4 (rd:=rd) (df:=df) (CW:=CW) (E:=E) (bad:=λW=>.bad _ _ _ _ _ _ _ W.g W.l) hK bj (λ_ _ _ h=>h) (by exact congrArg Nat.succ hK) (by rfl) (hn.trans yl.symm) (by exact ju) m uU hlen (λ_ _=>rfl) rfl (by exact ct) h2;exact⟨b,λN hN=>.loop (hb N hN)⟩
  ·exact hs.elim
 |_=>exact hs.elim
theorem Qw(fi:P.follows .mixedOrders=ab)(hC:jr P C):∀n Q,pI P C Q (exec P cfg n)
 |0,_=>λ_ _ _ _ _ _ _ _ _ _ _ _ _ _ hs _ _ _ _ _=>hs.elim
 |n+1,_=>S6 fi hC (Qw fi hC n)
theorem vh(fi:P.follows .mixedOrders=ab)(hC:jr P C)(n:Nat):pI P C Q (exec P cfg n):=Qw fi hC n Q
end Go.Ev
namespace Go.Ev
variable{P:Program}{N:Nat}{σ ao:St}{R R':Rs}{φ aL:Ph}{E:Nat->Env}{ν:List IV}{ro:Nat}{ι:Io}{w:World}{cfg:a_}{self:nX}
variable{C:Cr}{Q:IV->Prop}{K:List (List IV->Prop)}{V:SS}{d f0:Nat}{L:List (LO SE)}{Γ:Gm SE}{rd:Option Nat}{df:List Df}
theorem jz.vr1{V V1:SS}{R1:Rs}(h:jz P ν R φ V σ R1 V1){x:IV}{p:Bool×List (Cl SE)}(hx:tP (au P ν) R φ V.l σ x p):tP (au P ν) R1 φ V1.l σ x p:=by
 unfold tP at hx⊢;split
 ·rename_i hp;rw[if_pos hp]at hx;obtain⟨xs,h1,h2⟩:=hx;exact⟨xs,h1,h2.mono λ_ _ bS=>h.My bS⟩
 ·rename_i hp;rw[if_neg hp]at hx;obtain⟨c,h1,h2⟩:=hx;exact⟨c,h1,h.My h2⟩
theorem T5:∀{vs:List (Bool×List (Cl SE))} {V V':SS} {R:Rs} {fr:Bool} {zs:List SE},J (au P ν) R φ V.g V.l E σ->tT.Pz V vs=aa (fr,zs,V')->
 ∃R',jz P ν R φ V σ R' V'/\J (au P ν) R' φ V'.g V'.l E σ/\∀xs,All2 (tP (au P ν) R φ V.l σ) xs vs->∃ys,All2 (λ(z:SE) y=>z.den P ν=aa y) zs ys/\All2 (bn fr R' σ) xs ys
 |[],V,V',R,fr,zs,h,hr=>by
  simp only[tT.Pz,asP,ati]at hr;obtain⟨rfl,rfl,rfl⟩:=hr;refine⟨R,.refl h,h,λxs hx=>?_⟩;cases xs with
  |nil=>exact⟨[],trivial,trivial⟩
  |cons=>exact hx.elim
 |(a,cs)::vs,V,V',R,fr,zs,h,hr=>by
  simp only[tT.Pz]at hr;split at hr
  ·rename_i f1 z1 V1 h1;split at hr
   ·rename_i f2 ys2 V2 h2;obtain⟨R1,a1,a2,_,a3⟩:=ve h h1;obtain⟨R2,b1,b2,b3⟩:=T5 a2 h2
    have key:∀z,(a=ab->z=d_ z1)->(a=af->z1=[z])->(f1||f2,z::ys2,V2)=(fr,zs,V')->∃R',jz P ν R φ V σ R' V'/\J (au P ν) R' φ V'.g V'.l E σ/\∀xs,All2 (tP (au P ν) R φ V.l σ) xs ((a,cs)::vs)->∃ys,All2 (λ(z:SE) y=>z.den P ν=aa y) zs ys/\All2 (bn fr R' σ) xs ys:=by
     intro z nu Jk he;simp only[ati]at he;obtain⟨rfl,rfl,rfl⟩:=he;refine⟨R2,a1.trans b1,b2,λxs hx=>?_⟩;cases xs with
     |nil=>exact hx.elim
     |cons x xs=>
      obtain⟨ys,d1,d2⟩:=b3 xs (hx.2.mono λ_ _ bS=>a1.vr1 bS);have zd:=hx.1;unfold tP at zd;cases a with
      |true=>
       simp only[if_true]at zd;obtain⟨us,rfl,h5⟩:=zd;obtain⟨ws,e1,e2,_⟩:=a3 us h5;refine⟨.agg ws::ys,⟨by rw[nu rfl];exact eL e1,d1⟩,⟨?_,d2.mono λ_ _ bS=>bS.wide (λh=>by simp[h])⟩⟩;exact .agg us ws e2.len λi c e g1 g2=>((e2.get g1 g2).mono b1.2.2.2.grow).wide (λh=>by simp[h])
      |false=>
       simp only[atn,if_false]at zd;obtain⟨c,hc,h5⟩:=zd;obtain⟨ws,e1,e2,_⟩:=a3 [x] (by rw[hc];exact⟨h5,trivial⟩);rw[Jk rfl]at e1;cases ws with
       |nil=>exact e1.elim
       |cons y ws=>
        exact⟨y::ys,⟨e1.1,d1⟩,⟨(e2.1.mono b1.2.2.2.grow).wide (λh=>by simp[h]),d2.mono λ_ _ bS=>bS.wide (λh=>by simp[h])⟩⟩
    cases a with
    |true=>
     simp only[asP]at hr;exact key _ (λ_=>rfl) (λh=>by cases h) hr
    |false=>
     split at hr<;>first|(cases hr;done)|skip
     ·exact absurd ‹af=ab› (by simp)
     ·simp only[asP]at hr;exact key _ (λh=>by cases h) (λ_=>rfl) hr
   ·cases hr
  ·cases hr
theorem Qx{V':SS}{pv:PV SE}{fr:Bool}{z:SE}(h:J (au P ν) R φ V.g V.l E σ)(hr:tT V pv=aa (fr,z,V')){x:IV}(hx:VR (au P ν) R φ V.l σ x pv):
 ∃R' y,z.den P ν=aa y/\bn fr R' σ x y:=by
 cases pv with
 |one c=>
  obtain⟨R',_,_,h3⟩:=Lr h hr (λ_ h=>by cases h);obtain⟨y,h4,h5⟩:=h3 x hx;exact⟨R',y,h4,h5⟩
 |ag cs=>
  obtain⟨R',_,_,h3⟩:=Lr h hr (λ_ h=>by cases h);obtain⟨y,h4,h5⟩:=h3 x hx;exact⟨R',y,h4,h5⟩
 |tu vs=>
  simp only[tT]at hr;split at hr
  ·rename_i f zs V1 qY;simp only[asP,ati]at hr;obtain⟨rfl,rfl,rfl⟩:=hr;obtain⟨R',_,_,h3⟩:=T5 h qY;obtain⟨xs,rfl,wS⟩:=hx;obtain⟨ys,a,b⟩:=h3 xs wS;exact⟨R',.az ys,by simp[SE.den,eL a],.az xs ys b.len λi c e h1 h2=>b.get h1 h2⟩
  ·cases hr
theorem wA{args:List IV}{f:ak}(hp:∀v∈args,Pure v):∀{ts:List TypeId} {j:Nat},(p4 P j ts f).sat P C Q K args->j+ts.length=args.length->f.sat P C Q K args/\All2 (VR (au P args) R φ L σ) (args.drop j) (dC P j ts)
 |[],j,hs,hl=>by
  simp at hl;rw[atg (by omega)];exact⟨hs,trivial⟩
 |t::ts,j,hs,hl=>by
  simp at hl;have hj:j<args.length:=by omega
  have hd:(SE.var j).den P args=aa args[j]:=by simp[SE.den,hj]
  obtain⟨h1,h2,_⟩:=EY (R:=R) (φ:=φ) (L:=L) (σ:=σ) hd (hp _ (List.getElem_mem hj)) hs;obtain⟨h4,h5⟩:=wA hp h1 (by omega);refine⟨h4,?_⟩;rw[ata hj];exact⟨h2,h5⟩
theorem JK{x z:IV}{fr:Bool}(h:aA z=ab)(hc:bn fr R σ x z):bn af R σ x z:=by
 cases z<;>simp only[aA]at h<;>first|(cases h;done)|skip
 rw[cb hc];exact .raw _
theorem fm.oj(fi:P.follows .mixedOrders=ab)(hC:jr P C){n:Nat}{new:Bool}{f:FuncId}{cK:ak}{args:List IV}{z:IV}(he:aH P cfg n new f=cK)(hl:(P.funcs[f]?).map (·.params.size)=aa args.length)(hp:∀x∈args,Pure x)
 (hs:cK.sat P C (·=z) [] args):fm P af new f args z:=by
 subst he;unfold aH at hs;split at hs<;>first|(exact hs.elim)|skip
 rename_i fn bV;split at hs<;>first|(exact hs.elim)|skip
 rename_i c hb;split at hs<;>first|(exact hs.elim)|skip
 rename_i hle;have Kr:fn.params.size<=fn.ntmps:=by simpa using hle
 rw[bV]at hl;simp only[atl,asP]at hl;obtain⟨hs,bg⟩:=wA (R:=λ_=>ah) (φ:=λ_=>ah) (L:=[]) (σ:=⟨0,.lf⟩) hp hs (by simpa using hl);have hlen:args.length<=fn.ntmps:=by omega
 have hJ:J (au P args) (λ_=>ah) (λ_=>ah) (setArgs 0 0 (dC P 0 fn.params.toList)) [] (λ_=>cO args fn.ntmps) ⟨0,.lf⟩:=by
  refine⟨λd t pv hg=>?_,λk ob h=>(by simp at h),λk k' id h=>(by cases h),λk id h=>(by cases h),λid m h=>(by cases h),λid m cs ay mn h=>(by cases h),T.WF.lf,λid _=>rfl⟩;obtain⟨rfl,_,h3⟩:=fK (α:=IV) hg;rw[au9]at bg;have ht:t<args.length:=by rw[bg.len];have:=(asM.1 h3).1;simpa using this
  show VR _ _ _ _ _ ((cO args fn.ntmps).at t) pv;rw[(cT hlen).2 ht,asL ht];exact bg.get (asL ht) (by simpa using h3)
 obtain⟨b,om⟩:=vh fi hC n 0 f c ⟨setArgs 0 0 (dC P 0 fn.params.toList),[],fn.params.size,0,fn.ntmps⟩ _ args [] _ _ _ _
  (λN ex e1 aq=>(ex=.normal\/ex=.ret)/\aq.n<=N/\∃v,bJ P fn e1 aq=aa v/\Can (!new) aq v z) ah [] hs hJ hl.symm rfl (cT (t:=0) hlen).1 (by
   intro ex V' μ K' R' aL E' ao x0 hf iP bt
   have main:∀jJ,lR P 0 V' fn.results.toList=aa jJ->(match tT V' (EC jJ)with|some (fr,z,_)=>ak.ret (if new&&fr then .rw z else z)|none=>.fail 142).sat P C (·=z) K' (args++μ)->∃b,∀N,b<=N->ao.n<=N/\ao.n<=N/\∃v,bJ P fn (E' 0) ao=aa v/\Can (!new) ao v z:=by
    intro jJ hr dP;obtain⟨vs,h1,h2⟩:=lX hf.hJ hr;have hv:=Ls h2;split at dP<;>first|(exact dP.elim)|skip
    rename_i fr e _ jR;obtain⟨R2,y,h3,h4⟩:=Qx hf.hJ jR hv;obtain⟨z',h5,rfl⟩:=dP;refine⟨ao.n,λN hN=>⟨hN,hN,E5 vs,kS h1,?_⟩⟩;cases new with
    |false=>
     simp only[Bool.false_and,atn,if_false]at h5;rw[h3]at h5;cases h5;exact h4.cL.can
    |true=>
     cases fr with
     |false=>
      simp only[Bool.and_false,atn,if_false]at h5;rw[h3]at h5;cases h5;exact h4.can
     |true=>
      simp only[Bool.and_self,if_true,SE.den,h3,asU]at h5;split at h5
      ·rename_i dV;cases h5;exact(JK dV h4).can
      ·cases h5
   cases ex with
   |exit i=>exact bt.elim
   |b_ t pv=>exact bt.elim
   |normal=>
    obtain rfl:=iP;simp only at bt;split at bt
    ·rename_i jJ hr;obtain⟨b,hb⟩:=main jJ hr bt;exact⟨b,λN hN=>⟨(hb N hN).1,.inl rfl,(hb N hN).2⟩⟩
    ·exact bt.elim
   |ret=>
    obtain rfl:=iP;simp only at bt;split at bt
    ·rename_i jJ hr;obtain⟨b,hb⟩:=main jJ hr bt;exact⟨b,λN hN=>⟨(hb N hN).1,.inr rfl,(hb N hN).2⟩⟩
    ·exact bt.elim)
 exact fm.Dz (dQ.body (RW:=λv aq=>Can (!new) aq v z) bV hb hlen (om b (asR _))) λv ao h=>h
end Go.Ev
namespace Go.Ev
section run
variable(P:Program)(cfg:a_)
def xU(n s:Nat)(f:FuncId):ak:=
 match P.funcs[f]? with
 |some fn=>match fn.body,fn.params.toList with
  |some c,_::ts=>
   if atN fn.params.size fn.ntmps then
    p4 P 1 ts<|exec P cfg n 0 f c ⟨setArgs 0 0 (.one (.sr 0)::dC P 1 ts),[.row s af af ab (.var 0)],fn.params.size,0,fn.ntmps⟩ λex V=>match ex with
     |.exit _=>.fail 141
     |.b_ _ _=>.fail 146
     |_=>match lR P 0 V fn.results.toList with
      |some [.one (.sr k)]=>match V.l[k]? with
       |some (.row s' af af fr z)=>if asW s s' then .ret (if fr then .rws z else z)else .fail 146
       |_=>.fail 147
      |_=>.fail 148
   else .fail 143
  |_,_=>.fail 144
 |none=>.fail 145
end run
variable{P:Program}{N:Nat}{σ ao:St}{R R':Rs}{φ aL:Ph}{E:Nat->Env}{ν:List IV}{cfg:a_}{self:nX}
variable{C:Cr}{Q:IV->Prop}{K:List (List IV->Prop)}{V:SS}{d f0:Nat}{L:List (LO SE)}{Γ:Gm SE}
theorem JL{xs args:List IV}{x z:IV}{f:ak}(hp:All2 iX args xs):∀{ts:List TypeId} {j:Nat},(p4 P (j+1) ts f).sat P C Q K (z::xs)->j+ts.length=xs.length->f.sat P C Q K (z::xs)/\All2 (VR (au P (z::xs)) R φ L σ) (args.drop j) (dC P (j+1) ts)
 |[],j,hs,hl=>by
  simp at hl;rw[atg (by have:=hp.len;omega)];exact⟨hs,trivial⟩
 |t::ts,j,hs,hl=>by
  simp at hl;have hj:j<xs.length:=by omega
  have fZ:j<args.length:=by have:=hp.len;omega
  have hd:(SE.var (j+1)).den P (z::xs)=aa xs[j]:=by simp[SE.den,hj]
  obtain⟨h1,h2⟩:=CT (R:=R) (φ:=φ) (L:=L) (σ:=σ) hd (hp.get (asL fZ) (asL hj)) hs;obtain⟨h4,h5⟩:=JL (x:=x) hp h1 (by omega);refine⟨h4,?_⟩;rw[ata fZ];exact⟨h2,h5⟩
theorem CK.oj(fi:P.follows .mixedOrders=ab)(hC:jr P C){n s:Nat}{f:FuncId}{cK:ak}{es aF xs:List IV}(he:xU P cfg n s f=cK)(hl:(P.funcs[f]?).map (·.params.size)=aa (xs.length+1))
 (hs:cK.sat P C (·=.tree s aF) [] (.tree s es::xs)):CK P s f es xs aF:=by
 subst he;unfold xU at hs;split at hs<;>first|(exact hs.elim)|skip
 rename_i fn bV;split at hs<;>first|(exact hs.elim)|skip
 rename_i c t0 ts hb q7;split at hs<;>first|(exact hs.elim)|skip
 rename_i hle;have Kr:fn.params.size<=fn.ntmps:=by simpa using hle
 rw[bV]at hl;simp only[atl,asP]at hl
 have aU:ts.length=xs.length:=by
  have:fn.params.toList.length=fn.params.size:=by simp
  rw[q7]at this;simp at this;omega
 intro R φ E σ x args kR hX0 bp KW Qf;have M0:args.length=xs.length:=bp.len;obtain⟨bE,je,k1,k2,k3⟩:=kR.obj 0 _ rfl;have MU:aa (IV.tree s es)=aa (.tree s je):=k1;cases MU;obtain⟨dK,bg⟩:=JL (x:=x) (j:=0) (R:=R) (φ:=φ) (L:=[.row s af af ab (.var 0)]) (σ:=σ) bp hs (by omega);rw[au9]at bg;have iG:(SE.var 0).den P (.tree s es::xs)=aa (.tree s es):=by simp[SE.den]
 have hX:cI (au P (.tree s es::xs)) R φ [.row s af af ab (.var 0)] σ x (.sr 0):=by
  obtain⟨s1,sX,sB,sY,z1,fe,b1,b2,b3⟩:=hX0;have w6:aa (LO.row s af af af ())=aa (.row s1 sX sB sY z1):=b1;cases w6;have qa:aa (IV.tree s es)=aa (.tree s fe):=b2;cases qa;exact⟨s,af,af,ab,.var 0,es,rfl,iG,b3⟩
 have z_:All2 (VR (au P (.tree s es::xs)) R φ [.row s af af ab (.var 0)] σ) (x::args) (.one (.sr 0)::dC P 1 ts):=⟨hX,bg⟩;have hlen:(x::args).length<=fn.ntmps:=by simp;omega
 have hJ:J (au P (.tree s es::xs)) R φ (setArgs 0 0 (.one (.sr 0)::dC P 1 ts)) [.row s af af ab (.var 0)] (λ_=>cO (x::args) fn.ntmps) σ:=by
  refine⟨λd t pv hg=>?_,λj ob hj=>?_,kR.inj,λj id hj=>?_,kR.qU,kR.fits,kR.wf,kR.top⟩
  ·obtain⟨rfl,_,h3⟩:=fK (α:=IV) hg;have ht:t<(x::args).length:=by rw[z_.len];have:=(asM.1 h3).1;simpa using this
   show VR _ _ _ _ _ ((cO (x::args) fn.ntmps).at t) pv;rw[(cT hlen).2 ht,asL ht];exact z_.get (asL ht) (by simpa using h3)
  ·cases j with
   |succ j=>simp at hj
   |zero=>
    simp at hj;subst hj;refine⟨bE,es,iG,k2,?_⟩;rcases k3 with⟨a,b⟩|⟨id,cs,ay,mn,a1,a2,a3,a4,a5,a6,a7⟩
    ·exact .inl ⟨a,b⟩
    ·exact .inr ⟨id,cs,ay,mn,a1,a2,a3,a4,a5,a6,λq u v hu hv=>(a7 q u v hu hv).wide (λh=>by cases h)⟩
  ·have:=kR.lt j id hj;simpa using this
 obtain⟨b,om⟩:=vh fi hC n 0 f c ⟨setArgs 0 0 (.one (.sr 0)::dC P 1 ts),[.row s af af ab (.var 0)],fn.params.size,0,fn.ntmps⟩ _ (.tree s es::xs) [] _ _ _ _
  (λN ex e1 aq=>(ex=.normal\/ex=.ret)/\aq.n<=N/\∃v,bJ P fn e1 aq=aa v/\KW N v aq) ah [] dK hJ (by simp;omega) rfl (cT (t:=0) hlen).1 (by
   intro ex V' μ K' R' aL E' ao x0 hf iP bt
   have main:(match lR P 0 V' fn.results.toList with
    |some [.one (.sr k)]=>match V'.l[k]? with
     |some (.row s' af af fr z)=>if asW s s' then ak.ret (if fr then .rws z else z)else .fail 146
     |_=>.fail 147
    |_=>.fail 148).sat P C (·=IV.tree s aF) K' (IV.tree s es::xs++μ)->∃b,∀N,b<=N->ao.n<=N/\ao.n<=N/\∃v,bJ P fn (E' 0) ao=aa v/\KW N v ao:=by
    intro dP;split at dP<;>first|(exact dP.elim)|skip
    rename_i k hr;obtain⟨vs,h1,h2⟩:=lX hf.hJ hr;split at dP<;>first|(exact dP.elim)|skip
    rename_i s' fr z hk;split at dP<;>first|(exact dP.elim)|skip
    rename_i iO;have vg:=asV iO;subst vg;obtain⟨z',h5,rfl⟩:=dP;obtain⟨v,rfl,hv⟩:=lr h2;have eE:bJ P fn (E' 0) ao=aa v:=kS h1;obtain⟨m0,Hb,m1,m2,m3⟩:=hf.hJ.obj k _ hk;have JM:z.den P (IV.tree s es::xs++μ)=aa (.tree s Hb):=m1
    have uP:Hb=aF/\(fr=ab->∀e∈Hb,∀c∈cellsOf e,aA c=ab):=by
     cases fr with
     |false=>
      simp only[atn,if_false]at h5;rw[JM]at h5;cases h5;exact⟨rfl,λh=>by cases h⟩
     |true=>
      simp only[if_true]at h5;obtain⟨s1,fe,c1,c2,c3⟩:=Gs h5;rw[JM]at c1;cases c1;cases c2;exact⟨rfl,λ_=>c3⟩
    obtain⟨rfl,dV⟩:=uP
    have apd:∀{u w:IV} {q:Nat},(flat Hb)[q]?=aa w->bn fr R' ao u w->bn af R' ao u w:=by
     intro u w q hw hc;cases fr with
     |false=>exact hc
     |true=>
      obtain⟨e,he,rB⟩:=List.mem_flatMap.1 (asZ hw);exact JK (dV rfl e he w rB) hc
    obtain⟨b,hb⟩:=Qf R' (λj=>if j=0 then aL k else ah) ao v (by
     refine⟨λd t pv hg=>(by cases hg),λj ob hj=>?_,λj j' id h1 h2=>?_,λj id hj=>?_,hf.hJ.qU,hf.hJ.fits,hf.hJ.wf,hf.hJ.top⟩
     ·cases j with
      |succ j=>simp at hj
      |zero=>
       simp at hj;subst hj;refine⟨m0,Hb,rfl,m2,?_⟩;rcases m3 with⟨a,b⟩|⟨id,cs,ay,mn,a1,a2,a3,a4,a5,a6,a7⟩
       ·exact .inl ⟨by simp[a],b⟩
       ·exact .inr ⟨id,cs,ay,mn,by simp[a1],a2,a3,a4,a5,a6,λq u w hu hw=>apd hw (a7 q u w hu hw)⟩
     ·split at h1<;>first|(cases h1;done)|skip
      split at h2<;>first|(cases h2;done)|skip
      omega
     ·split at hj<;>first|(cases hj;done)|skip
      rename_i Zl;subst Zl;exact⟨by simp,(hf.hJ.lt k id hj).2⟩) (by
     obtain⟨s1,sX,sB,sY,z1,fe,b1,b2,b3⟩:=hv;rw[hk]at b1;cases b1;have qa:z.den P (IV.tree s es::xs++μ)=aa (.tree s fe):=b2;rw[JM]at qa;cases qa;refine⟨s,af,af,af,(),Hb,rfl,rfl,?_⟩;rcases b3 with⟨c1,c2,c3⟩|⟨id,cs,ay,mn,cap,c1,c2,c3,c4,c5,c6⟩
     ·exact .inl ⟨by simp[c1],c2,c3⟩
     ·exact .inr ⟨id,cs,ay,mn,cap,by simp[c1],c2,c3,c4,c5,c6⟩)
    exact⟨max b ao.n,λN hN=>⟨by omega,by omega,v,eE,hb N (by omega)⟩⟩
   cases ex with
   |exit i=>exact bt.elim
   |b_ t pv=>exact bt.elim
   |normal=>
    obtain rfl:=iP;obtain⟨b,hb⟩:=main bt;exact⟨b,λN hN=>⟨(hb N hN).1,.inl rfl,(hb N hN).2⟩⟩
   |ret=>
    obtain rfl:=iP;obtain⟨b,hb⟩:=main bt;exact⟨b,λN hN=>⟨(hb N hN).1,.inr rfl,(hb N hN).2⟩⟩)
 exact⟨b,λN hN=>dQ.body (RW:=KW N) bV hb hlen (om N hN)⟩
end Go.Ev
namespace Go.Ev
def Lx:List Nat->Nat
 |[]=>0
 |n::ns=>n+Lx ns
def mu:Nat->List Nat->List (LO SE)
 |_,[]=>[]
 |j,n::ns=>.var ((List.range n).map λq=>.v (.var (j+q)))::mu (j+n) ns
def ku:Nat->List Nat->List (PV SE)
 |_,[]=>[]
 |k,n::ns=>.one (.pt k 0 n)::ku (k+1) ns
def Bo(V:SS):Nat->List Nat->Option (List SE)
 |_,[]=>aa []
 |k,n::ns=>match V.l[k]?,cA 0 k V.g with
  |some (.var ds),aa (.one (.pt k' 0 n'))=>if asW k' k&&asW n' n&&asW ds.length n then(match FX ds,Bo V (k+1) ns with
    |some es,aa r=>aa (d_ es::r)
    |_,_=>ah)else ah
  |_,_=>ah
section run
variable(P:Program)(cfg:a_)
def xV(n:Nat)(ns:List Nat)(f:FuncId):ak:=
 match P.funcs[f]? with
 |some fn=>match fn.body with
  |some c=>
   if atN fn.params.size fn.ntmps&&atN ns.length fn.params.size then
    p4 P (Lx ns) (fn.params.toList.drop ns.length)<|exec P cfg n 1 f c
     ⟨setArgs 1 0 (ku 0 ns++dC P (Lx ns) (fn.params.toList.drop ns.length))++setArgs 0 0 (ku 0 ns),mu 0 ns,Lx ns+(fn.params.size- ns.length),0,fn.ntmps⟩ λex V=>match ex with
     |.exit _=>.fail 151
     |.b_ _ _=>.fail 146
     |_=>match lR P 1 V fn.results.toList with
      |some dp=>match tT V (EC dp),Bo V 0 ns with
       |some (_,z,_),aa os=>.ret (.tp (.ac (.rw z) (d_ os)))
       |_,_=>.fail 152
      |none=>.fail 153
   else .fail 154
  |none=>.fail 155
 |none=>.fail 156
end run
variable{P:Program}{N:Nat}{σ ao:St}{R R':Rs}{φ aL:Ph}{E:Nat->Env}{ν:List IV}{cfg:a_}
variable{C:Cr}{Q:IV->Prop}{K:List (List IV->Prop)}{V:SS}{L:List (LO SE)}
theorem M6:∀{ns:List Nat} {k:Nat} {os:List SE},Bo V k ns=aa os->os.length=ns.length/\∀(i n:Nat),ns[i]?=aa n->
 ∃es:List SE,V.l[k+i]?=aa (.var (es.map .v))/\cA 0 (k+i) V.g=aa (.one (.pt (k+i) 0 n))/\es.length=n/\os[i]?=aa (d_ es)
 |[],k,os,h=>by
  simp only[Bo,asP]at h;subst h;exact⟨rfl,λi n hi=>by simp at hi⟩
 |m::ns,k,os,h=>by
  simp only[Bo]at h;split at h<;>first|(cases h;done)|skip
  rename_i ds k' n' hk hg;split at h<;>first|(cases h;done)|skip
  rename_i hc;simp only[asN]at hc;have e1:=asV hc.1.1;have e2:=asV hc.1.2;have e3:=asV hc.2;subst e1 e2;split at h<;>first|(cases h;done)|skip
  rename_i es r gF hr;simp only[asP]at h;subst h;have Js:=HZ gF;subst Js;obtain⟨h1,h2⟩:=M6 hr;refine⟨by simp[h1],λi n hi=>?_⟩;cases i with
  |zero=>
   simp at hi;subst hi;exact⟨es,hk,hg,by simpa using e3,rfl⟩
  |succ i=>
   obtain⟨aF,a1,a2,a3,a4⟩:=h2 i n (by simpa using hi);have:k'+1+i=k'+(i+1):=by omega
   rw[this]at a1 a2;exact⟨aF,a1,a2,a3,by simpa using a4⟩
theorem JN:∀{ns:List Nat} {k i:Nat} {pv:PV SE},(ku k ns)[i]?=aa pv->∃n,ns[i]?=aa n/\pv=.one (.pt (k+i) 0 n)
 |[],k,i,pv,h=>by simp[ku]at h
 |n::ns,k,0,pv,h=>by
  simp[ku]at h;exact⟨n,rfl,by simp[h]⟩
 |n::ns,k,i+1,pv,h=>by
  simp only[ku,ava]at h;obtain⟨m,h1,h2⟩:=JN h;exact⟨m,by simpa using h1,by rw[h2];congr 2;omega⟩
theorem CV:∀{ns:List Nat} {k:Nat},(ku k ns).length=ns.length
 |[],_=>rfl
 |_::ns,k=>by simp[ku,CV (ns:=ns)]
theorem Qy:∀ins:List (List IV),Lx (ins.map atu)=ins.flatten.length
 |[]=>rfl
 |c::ins=>by simp[Lx,Qy ins]
theorem JO:∀{ins:List (List IV)} {pre post:List IV} {i:Nat} {o:LO SE},(mu pre.length (ins.map atu))[i]?=aa o->
 ∃(cs:List IV) (ds:List (Cl SE)),ins[i]?=aa cs/\o=.var ds/\xS (au P (pre++ins.flatten++post)) ds cs
 |[],pre,post,i,o,h=>by simp[mu]at h
 |c::ins,pre,post,0,o,h=>by
  simp only[atJ,mu,auo,asP]at h;refine⟨c,_,rfl,h.symm,.mk (by simp) λq d u hd hu=>?_⟩;have hq:=(asM.1 hu).1;rw[as4,List.getElem?_range hq]at hd;simp only[atl,asP]at hd;subst hd;refine⟨_,rfl,?_⟩;show(SE.var _).den P _=_;simp only[SE.den];rw[atf,atm (by omega),List.flatten_cons,atf,asY (by omega)];rw[show pre.length+q- pre.length=q by omega];exact hu
 |c::ins,pre,post,i+1,o,h=>by
  simp only[atJ,mu,ava]at h;have hl:pre.length+c.length=(pre++c).length:=by simp
  rw[hl]at h;obtain⟨cs,ds,h1,h2,h3⟩:=JO (pre:=pre++c) (post:=post) h;refine⟨cs,ds,by simpa using h1,h2,?_⟩;have:pre++c++ins.flatten++post=pre++(c::ins).flatten++post:=by simp
  rw[<-this];exact h3
theorem H5{α:Type}{d t:Nat}{pv:PV α}:∀{a b:List (Nat×Nat×PV α)},cA d t (a++b)=aa pv->cA d t a=aa pv\/cA d t b=aa pv
 |[],b,h=>.inr h
 |(d',t',p)::a,b,h=>by
  simp only[List.cons_append,cA]at h⊢;split at h
  ·rename_i hc;rw[if_pos hc];exact .inl h
  ·rename_i hc;rw[if_neg hc];exact H5 h
theorem CY{xs args pre:List IV}{f:ak}(hp:All2 iX args xs):∀{ts:List TypeId} {j:Nat},(p4 P (pre.length+j) ts f).sat P C Q K (pre++xs)->j+ts.length=xs.length->f.sat P C Q K (pre++xs)/\All2 (VR (au P (pre++xs)) R φ L σ) (args.drop j) (dC P (pre.length+j) ts)
 |[],j,hs,hl=>by
  simp at hl;rw[atg (by have:=hp.len;omega)];exact⟨hs,trivial⟩
 |t::ts,j,hs,hl=>by
  simp at hl;have hj:j<xs.length:=by omega
  have fZ:j<args.length:=by have:=hp.len;omega
  have hd:(SE.var (pre.length+j)).den P (pre++xs)=aa xs[j]:=by simp[SE.den,hj]
  obtain⟨h1,h2⟩:=CT (R:=R) (φ:=φ) (L:=L) (σ:=σ) hd (hp.get (asL fZ) (asL hj)) hs;obtain⟨h4,h5⟩:=CY (j:=j+1) hp h1 (by omega);refine⟨h4,?_⟩;rw[ata fZ];exact⟨h2,h5⟩
end Go.Ev
namespace Go.Ev
variable{P:Program}{N:Nat}{σ ao:St}{R R':Rs}{φ aL:Ph}{E:Nat->Env}{ν:List IV}{cfg:a_}
variable{C:Cr}{Q:IV->Prop}{K:List (List IV->Prop)}{V:SS}{L:List (LO SE)}
theorem xB:∀{ns:List Nat} {j:Nat},(mu j ns).length=ns.length
 |[],_=>rfl
 |_::ns,j=>by simp[mu,xB (ns:=ns)]
theorem S7{x z:IV}{fr:Bool}(h:aA z=ab)(hc:bn fr R σ x z):iX x z:=by
 cases z<;>simp only[aA]at h<;>first|(cases h;done)|skip
 rw[cb hc];exact .raw _
theorem Qz{ins:List (List IV)}{ps:List IV}{ev:SE->Option IV}(hP:EW φ ins ps)(hL:∀(i:Nat) (cs:List IV),ins[i]?=aa cs->∃ds:List (Cl SE),L[i]?=aa (LO.var ds)):
 All2 (VR ev R φ L σ) ps (ku 0 (ins.map atu)):=by
 refine .mk (by rw[CV,auk,hP.1]) λi p pv hp qW=>?_;obtain⟨n,h1,rfl⟩:=JN qW;rw[as4]at h1;obtain⟨cs,bH,rfl⟩:=asS.1 h1;obtain⟨id,h2,rfl⟩:=hP.2 i cs p bH hp;obtain⟨ds,Js⟩:=hL i cs bH;rw[auf];exact⟨id,ds,h2,Js,rfl⟩
theorem CM.oj(fi:P.follows .mixedOrders=ab)(hC:jr P C){n:Nat}{f:FuncId}{cK:ak}{ins outs:List (List IV)}{xs:List IV}{z:IV}(he:xV P cfg n (ins.map atu) f=cK)
 (hl:(P.funcs[f]?).map (·.params.size)=aa (ins.length+xs.length))(hs:cK.sat P C (·=.az (z::outs.map .agg)) [] (ins.flatten++xs)):CM P f ins xs outs z:=by
 subst he;unfold xV at hs;split at hs<;>first|(exact hs.elim)|skip
 rename_i fn bV;split at hs<;>first|(exact hs.elim)|skip
 rename_i c hb;split at hs<;>first|(exact hs.elim)|skip
 rename_i hle;simp only[asN]at hle;have HH:fn.params.size<=fn.ntmps:=by simpa using hle.1
 rw[bV]at hl;simp only[atl,asP]at hl;have IH:(ins.map atu).length=ins.length:=by simp
 have ape:=Qy ins;intro R φ E σ ps args kR hP bp KW Qf;have M0:args.length=xs.length:=bp.len;have htl:(fn.params.toList.drop (ins.map atu).length).length=xs.length:=by simp;omega
 have mZ:ps.length=ins.length:=hP.1;rw[ape]at hs
 have hLV:∀(i:Nat) (cs:List IV),ins[i]?=aa cs->∃ds:List (Cl SE),(mu 0 (ins.map atu))[i]?=aa (LO.var ds)/\xS (au P (ins.flatten++xs)) ds cs:=λi cs hi=>by
  have ai:=(asM.1 hi).1;have gk:i<(mu 0 (ins.map atu)).length:=by rw[xB];simpa using ai
  have hg:=asL gk;obtain⟨cz,ds,h1,h2,h3⟩:=JO (P:=P) (pre:=[]) (post:=xs) hg;rw[hi]at h1;cases h1;exact⟨ds,by rw[hg,h2],by simpa using h3⟩
 obtain⟨dK,bg⟩:=CY (j:=0) (pre:=ins.flatten) (R:=R) (φ:=φ) (L:=mu 0 (ins.map atu)) (σ:=σ) bp (by rw[ayg];exact hs) (by rw[auf];exact htl);rw[au9,ayg]at bg
 have z_:All2 (VR (au P (ins.flatten++xs)) R φ (mu 0 (ins.map atu)) σ) (ps++args) (ku 0 (ins.map atu)++dC P ins.flatten.length (fn.params.toList.drop (ins.map atu).length)):=
  All2.app (Qz hP λi cs hi=>by obtain⟨ds,h1,_⟩:=hLV i cs hi;exact⟨ds,h1⟩) bg
 have hlen:(ps++args).length<=fn.ntmps:=by simp;omega
 let E1:Nat->Env:=λj=>if j=0 then cO ps ps.length else cO (ps++args) fn.ntmps
 have hJ:J (au P (ins.flatten++xs)) R φ (setArgs 1 0 (ku 0 (ins.map atu)++dC P ins.flatten.length (fn.params.toList.drop (ins.map atu).length))++setArgs 0 0 (ku 0 (ins.map atu))) (mu 0 (ins.map atu)) E1 σ:=by
  refine⟨λd t pv hg=>?_,λj ob hj=>?_,kR.inj,λj id hj=>?_,kR.qU,kR.fits,kR.wf,kR.top⟩
  ·rcases H5 hg with hg|hg
   ·obtain⟨rfl,_,h3⟩:=fK (α:=IV) hg;have ht:t<(ps++args).length:=by rw[z_.len];have:=(asM.1 h3).1;simpa using this
    show VR _ _ _ _ _ ((cO (ps++args) fn.ntmps).at t) pv;rw[(cT hlen).2 ht,asL ht];exact z_.get (asL ht) (by simpa using h3)
   ·obtain⟨rfl,_,h3⟩:=fK (α:=IV) hg;have Jh:(ku 0 (ins.map atu))[t]?=aa pv:=by simpa using h3
    have ht:t<ps.length:=by have:=(asM.1 Jh).1;rw[CV]at this;simp at this;omega
    show VR _ _ _ _ _ ((cO ps ps.length).at t) pv;rw[(cT (asR _)).2 ht,asL ht];exact(Qz hP λi cs hi=>by obtain⟨ds,h1,_⟩:=hLV i cs hi;exact⟨ds,h1⟩).get (asL ht) Jh
  ·have ai:j<ins.length:=by have:=(asM.1 hj).1;rw[xB]at this;simpa using this
   have bH:=asL ai;obtain⟨ds,h1,h2⟩:=hLV j _ bH;rw[hj]at h1;cases h1;have dH:(W_ ins)[j]?=aa (.var (ins[j].map .v)):=by rw[as4,bH];rfl
   obtain⟨id,cJ,o1,o2,o3,o4⟩:=kR.obj j _ dH;refine⟨id,cJ,o1,o2,o3,.mk (by rw[o4.len,auk,h2.len]) λq x d hx hd=>?_⟩;have hq:q<ins[j].length:=by rw[<-h2.len];exact(asM.1 hd).1
   obtain⟨e,rfl,he⟩:=h2.get hd (asL hq);have Zn:(ins[j].map Cl.v)[q]?=aa (.v ins[j][q]):=by rw[as4,asL hq];rfl
   obtain⟨y,y1,y2,y3⟩:=o4.get hx Zn;cases y1;exact⟨_,he,y2,y3⟩
  ·have:=kR.lt j id hj;exact⟨by rw[xB];simpa using this.1,this.2⟩
 obtain⟨b,om⟩:=vh fi hC n 1 f c ⟨setArgs 1 0 (ku 0 (ins.map atu)++dC P ins.flatten.length (fn.params.toList.drop (ins.map atu).length))++setArgs 0 0 (ku 0 (ins.map atu)),mu 0 (ins.map atu),ins.flatten.length+(fn.params.size-(ins.map atu).length),0,fn.ntmps⟩ _ (ins.flatten++xs) [] R φ E1 σ
  (λN ex e1 aq=>(ex=.normal\/ex=.ret)/\aq.n<=N/\∃v,bJ P fn e1 aq=aa v/\KW N v aq) ah [] dK hJ (by simp;omega) rfl (cT (t:=0) hlen).1 (by
   intro ex V' μ K' R' aL E' ao x0 hf iP bt
   have main:∀jJ,lR P 1 V' fn.results.toList=aa jJ->(match tT V' (EC jJ),Bo V' 0 (ins.map atu)with
    |some (_,z,_),aa os=>ak.ret (.tp (.ac (.rw z) (d_ os)))
    |_,_=>.fail 152).sat P C (·=IV.az (z::outs.map IV.agg)) K' (ins.flatten++xs++μ)->∃b,∀N,b<=N->ao.n<=N/\ao.n<=N/\∃v,bJ P fn (E' 1) ao=aa v/\KW N v ao:=by
    intro jJ hr dP;obtain⟨vs,h1,h2⟩:=lX hf.hJ hr;have hv:=Ls h2;split at dP<;>first|(exact dP.elim)|skip
    rename_i fr e _ os jR we;obtain⟨R2,y,h3,h4⟩:=Qx hf.hJ jR hv;obtain⟨w,h5,rfl⟩:=dP;simp only[SE.den,h3,asU]at h5;obtain⟨cs,h6,h7⟩:=as_.1 h5;obtain⟨y',h8,h6⟩:=as_.1 h6;obtain⟨os',h9,h6⟩:=as_.1 h6;obtain⟨ys,rfl,qZ⟩:=Lw h9;split at h8<;>first|(cases h8;done)|skip
    rename_i dV;cases h8;cases h6;simp only[asP,IV.az.injEq,atK]at h7;obtain⟨rfl,rfl⟩:=h7;obtain⟨MK,ho2⟩:=M6 we;have zk:outs.length=ins.length:=by have:=qZ.len;rw[MK]at this;simp at this;omega
    have adL:∀(i:Nat) (cs:List IV),outs[i]?=aa cs->∃es:List SE,V'.l[i]?=aa (.var (es.map .v))/\All2 (λ(z:SE) y=>z.den P (ins.flatten++xs++μ)=aa y) es cs/\∃id,aL i=aa id/\ps[i]?=aa (.ptr id 0 0 cs.length):=λi cs hi=>by
     have ai:=(asM.1 hi).1;have gk:i<ins.length:=by omega
     obtain⟨es,a1,a2,a3,a4⟩:=ho2 i _ (by rw[as4,asL gk];rfl);rw[auf]at a1 a2;have hiy:(outs.map IV.agg)[i]?=aa (.agg cs):=by rw[as4,hi];rfl
     have hd:=qZ.get a4 hiy;obtain⟨us,yh,ahk⟩:=Lw hd;cases yh;have nG:=hf.hJ.slot 0 i _ a2;obtain⟨id,ds,s1,s2,s3⟩:=nG;rw[hf.hE 0 (by omega)]at s3;have hlp:i<ps.length:=by omega
     have:(E1 0).at i=ps[i]:=by
      show(cO ps ps.length).at i=_;rw[(cT (asR _)).2 hlp,asL hlp];rfl
     rw[this]at s3;refine⟨es,a1,ahk,id,s1,?_⟩;rw[asL hlp,s3,<-ahk.len,a3]
    obtain⟨b,hb⟩:=Qf (λ_=>ah) (λj=>if j<outs.length then aL j else ah) ao (E5 vs) (by
     refine⟨λd t pv hg=>(by cases hg),λj ob hj=>?_,λj j' id h1 h2=>?_,λj id hj=>?_,λid m hm=>(by cases hm),λid m cs ay mn hm=>(by cases hm),hf.hJ.wf,hf.hJ.top⟩
     ·rw[as4]at hj;obtain⟨cs,bH,rfl⟩:=asS.1 hj;have ai:=(asM.1 bH).1;obtain⟨es,a1,a2,id,a3,_⟩:=adL j cs bH;obtain⟨bB,cJ,o1,o2,o3,o4⟩:=hf.hJ.obj j _ a1;refine⟨bB,cJ,by simp[ai,o1],rfl,o3,.mk (by rw[o4.len,auk,auk,a2.len]) λq x c hx hc=>?_⟩;rw[as4]at hc;obtain⟨u,hu,rfl⟩:=asS.1 hc;have hq:q<es.length:=by rw[a2.len];exact(asM.1 hu).1
      have Zn:(es.map Cl.v)[q]?=aa (.v es[q]):=by rw[as4,asL hq];rfl
      obtain⟨y,y1,y2,y3⟩:=o4.get hx Zn;have MM:es[q].den P (ins.flatten++xs++μ)=aa y:=y1;rw[a2.get (asL hq) hu]at MM;cases MM;exact⟨u,rfl,y2,y3⟩
     ·split at h1<;>first|(cases h1;done)|skip
      split at h2<;>first|(cases h2;done)|skip
      exact hf.hJ.inj j j' id h1 h2
     ·split at hj<;>first|(cases hj;done)|skip
      rename_i ai
      exact⟨by simpa using ai,(hf.hJ.lt j id hj).2⟩) ⟨by omega,λi cs p hi hp=>by
       have ai:=(asM.1 hi).1;obtain⟨_,_,_,id,a3,a4⟩:=adL i cs hi;rw[hp]at a4;cases a4;exact⟨id,by simp[ai,a3],rfl⟩⟩ (S7 dV h4)
    exact⟨max b ao.n,λN hN=>⟨by omega,by omega,E5 vs,kS h1,hb N (by omega)⟩⟩
   cases ex with
   |exit i=>exact bt.elim
   |b_ t pv=>exact bt.elim
   |normal=>
    obtain rfl:=iP;simp only at bt;split at bt
    ·rename_i jJ hr;obtain⟨b,hb⟩:=main jJ hr bt;exact⟨b,λN hN=>⟨(hb N hN).1,.inl rfl,(hb N hN).2⟩⟩
    ·exact bt.elim
   |ret=>
    obtain rfl:=iP;simp only at bt;split at bt
    ·rename_i jJ hr;obtain⟨b,hb⟩:=main jJ hr bt;exact⟨b,λN hN=>⟨(hb N hN).1,.inr rfl,(hb N hN).2⟩⟩
    ·exact bt.elim)
 exact⟨b,λN hN=>(dQ.body (RW:=KW N) bV hb hlen (om N hN))⟩
end Go.Ev
namespace Go.Ev
section run
variable(P:Program)(cfg:a_)
def qb(n:Nat)(nm:Bool)(f:FuncId):ak:=
 match P.funcs[f]? with
 |some fn=>match fn.body with
  |some c=>
   if atN fn.params.size fn.ntmps&&Nat.blt 0 (cP P f)then
    p4 P 0 fn.params.toList<|exec P cfg n 0 f c ⟨setArgs 0 0 (dC P 0 fn.params.toList),[],fn.params.size,0,fn.ntmps⟩ λex V=>match ex with
     |.exit _=>.fail 141
     |.b_ _ _=>.fail 146
     |_=>match lR P 0 V fn.results.toList with
      |some [.one (.sr k)]=>match V.l[k]? with
       |some (.row s' af af _ z)=>if !nm&&asW (cP P f) s' then .ret (.rws z)else .fail 146
       |_=>.fail 147
      |some [.one (.nl ab s')]=>if asW (cP P f) s' then .ret (.tr s' .an)else .fail 146
      |_=>.fail 148
   else .fail 143
  |none=>.fail 144
 |none=>.fail 145
end run
variable{P:Program}{N:Nat}{σ ao:St}{R R':Rs}{φ aL:Ph}{E:Nat->Env}{ν:List IV}{cfg:a_}{self:nX}
variable{C:Cr}{Q:IV->Prop}{K:List (List IV->Prop)}{V:SS}{d f0:Nat}{L:List (LO SE)}{Γ:Gm SE}
theorem kb.oj(fi:P.follows .mixedOrders=ab)(hC:jr P C){n:Nat}{nm:Bool}{f:FuncId}{cK:ak}{args es:List IV}(he:qb P cfg n nm f=cK)(hl:(P.funcs[f]?).map (·.params.size)=aa args.length)(hp:∀x∈args,Pure x)
 (bH:∀e∈es,(cellsOf e).length=cP P f)(bz:∀c∈flat es,(∃v,c=.raw v)/\aj c=ab)(aW:nm=af->es≠[])
 (hs:cK.sat P C (·=.tree (cP P f) es) [] args):kb P (cP P f) f args es:=by
 subst he;unfold qb at hs;split at hs<;>first|(exact hs.elim)|skip
 rename_i fn bV;split at hs<;>first|(exact hs.elim)|skip
 rename_i c hb;split at hs<;>first|(exact hs.elim)|skip
 rename_i hle;simp only[asN]at hle;have Kr:fn.params.size<=fn.ntmps:=by simpa using hle.1
 have bE:0<cP P f:=by simpa using hle.2
 rw[bV]at hl;simp only[atl,asP]at hl;obtain⟨hs,bg⟩:=wA (R:=λ_=>ah) (φ:=λ_=>ah) (L:=[]) (σ:=⟨0,.lf⟩) hp hs (by simpa using hl);have hlen:args.length<=fn.ntmps:=by omega
 have hJ:J (au P args) (λ_=>ah) (λ_=>ah) (setArgs 0 0 (dC P 0 fn.params.toList)) [] (λ_=>cO args fn.ntmps) ⟨0,.lf⟩:=by
  refine⟨λd t pv hg=>?_,λk ob h=>(by simp at h),λk k' id h=>(by cases h),λk id h=>(by cases h),λid m h=>(by cases h),λid m cs ay mn h=>(by cases h),T.WF.lf,λid _=>rfl⟩;obtain⟨rfl,_,h3⟩:=fK (α:=IV) hg;rw[au9]at bg;have ht:t<args.length:=by rw[bg.len];have:=(asM.1 h3).1;simpa using this
  show VR _ _ _ _ _ ((cO args fn.ntmps).at t) pv;rw[(cT hlen).2 ht,asL ht];exact bg.get (asL ht) (by simpa using h3)
 obtain⟨b,om⟩:=vh fi hC n 0 f c ⟨setArgs 0 0 (dC P 0 fn.params.toList),[],fn.params.size,0,fn.ntmps⟩ _ args [] _ _ _ _
  (λN ex e1 aq=>(ex=.normal\/ex=.ret)/\aq.n<=N/\∃v,bJ P fn e1 aq=aa v/\H3 (cP P f) es v aq) ah [] hs hJ hl.symm rfl (cT (t:=0) hlen).1 (by
   intro ex V' μ K' R' aL E' ao x0 hf iP bt
   have main:(match lR P 0 V' fn.results.toList with
    |some [.one (.sr k)]=>match V'.l[k]? with
     |some (.row s' af af _ z)=>if !nm&&asW (cP P f) s' then ak.ret (.rws z)else .fail 146
     |_=>.fail 147
    |some [.one (.nl ab s')]=>if asW (cP P f) s' then .ret (.tr s' .an)else .fail 146
    |_=>.fail 148).sat P C (·=IV.tree (cP P f) es) K' (args++μ)->∃b,∀N,b<=N->ao.n<=N/\ao.n<=N/\∃v,bJ P fn (E' 0) ao=aa v/\H3 (cP P f) es v ao:=by
    intro dP;split at dP<;>first|(exact dP.elim)|skip
    ·rename_i k hr;obtain⟨vs,h1,h2⟩:=lX hf.hJ hr;split at dP<;>first|(exact dP.elim)|skip
     rename_i s' fr z hk;split at dP<;>first|(exact dP.elim)|skip
     rename_i iO;simp only[asN,atD]at iO;obtain⟨nb,iO⟩:=iO;have vg:=asV iO;subst vg;obtain⟨z',h5,rfl⟩:=dP;obtain⟨v,rfl,hv⟩:=lr h2;have eE:bJ P fn (E' 0) ao=aa v:=kS h1;obtain⟨s1,fe,c1,c2,c3⟩:=Gs h5;cases c2;obtain⟨m0,Hb,m1,m2,m3⟩:=hf.hJ.obj k _ hk;have JM:z.den P (args++μ)=aa (.tree (cP P f) Hb):=m1;rw[c1]at JM;cases JM;refine⟨ao.n,λN hN=>⟨hN,hN,v,eE,.inr ⟨aW nb,?_⟩⟩⟩;obtain⟨s2,sX,sB,sY,z1,gZ,b1,b2,b3⟩:=hv;rw[hk]at b1;cases b1;have qa:z.den P (args++μ)=aa (.tree (cP P f) gZ):=b2;rw[c1]at qa;cases qa;rcases b3 with⟨_,b4,_⟩|⟨id,cs,ay,mn,cap,d1,d2,d3,d4,d5,d6⟩
     ·exact absurd (List.eq_nil_of_length_eq_zero b4) (aW nb)
     ·rcases m3 with⟨e1,_⟩|⟨bB,cz,iW,pX,e1,e2,e3,e4,e5,e6,e7⟩
      ·rw[d1]at e1;cases e1
      ·rw[d1]at e1;cases e1;rw[d2]at e2;cases e2;refine⟨id,cs,ay,mn,cap,d2,e3,by simpa using d3,e4,λq x hx=>?_⟩
       have hq:q<cs.length:=by
        have:=(asM.1 hx).1;rw[s7 bH]at this;omega
       obtain⟨u,rfl⟩:=(bz x (asZ hx)).1;have:=e7 q _ _ (asL hq) hx;exact⟨u,rfl,by rw[asL hq,cb this]⟩
    ·rename_i s' hr;obtain⟨vs,h1,h2⟩:=lX hf.hJ hr;split at dP<;>first|(exact dP.elim)|skip
     rename_i iO;have vg:=asV iO;obtain⟨z',h5,rfl⟩:=dP;obtain⟨v,rfl,hv⟩:=lr h2;have eE:bJ P fn (E' 0) ao=aa v:=kS h1;obtain⟨_,rfl⟩:=hv;simp only[SE.den,asU]at h5;split at h5<;>cases h5;exact⟨ao.n,λN hN=>⟨hN,hN,_,eE,.inl ⟨rfl,rfl⟩⟩⟩
   cases ex with
   |exit i=>exact bt.elim
   |b_ t pv=>exact bt.elim
   |normal=>
    obtain rfl:=iP;obtain⟨b,hb⟩:=main bt;exact⟨b,λN hN=>⟨(hb N hN).1,.inl rfl,(hb N hN).2⟩⟩
   |ret=>
    obtain rfl:=iP;obtain⟨b,hb⟩:=main bt;exact⟨b,λN hN=>⟨(hb N hN).1,.inr rfl,(hb N hN).2⟩⟩)
 exact kb.Dz bE bH bz (dQ.body (RW:=λv aq=>H3 (cP P f) es v aq) bV hb hlen (om b (asR _))) λv ao h=>h
end Go.Ev
namespace Go.Ev
section run
variable(P:Program)(cfg:a_)
def CZ(n:Nat)(f:FuncId):ak:=
 match P.funcs[f]? with
 |some fn=>match fn.body with
  |some c=>
   if atN fn.params.size fn.ntmps then
    p4 P 0 fn.params.toList<|exec P cfg n 0 f c ⟨setArgs 0 0 (dC P 0 fn.params.toList),[],fn.params.size,0,fn.ntmps⟩ λex V=>match ex with
     |.exit _=>.fail 141
     |.b_ _ _=>.fail 146
     |_=>match lR P 0 V fn.results.toList with
      |some [.one (.mp k)]=>match V.l[k]? with
       |some (.mp kt z)=>if gI kt then .fail 146 else .ret z
       |_=>.fail 147
      |_=>.fail 148
   else .fail 143
  |none=>.fail 144
 |none=>.fail 145
end run
variable{P:Program}{N:Nat}{σ ao:St}{R R':Rs}{φ aL:Ph}{E:Nat->Env}{ν:List IV}{cfg:a_}{self:nX}
variable{C:Cr}{Q:IV->Prop}{K:List (List IV->Prop)}{V:SS}{d f0:Nat}{L:List (LO SE)}{Γ:Gm SE}
theorem mq.oj(fi:P.follows .mixedOrders=ab)(hC:jr P C){n:Nat}{f:FuncId}{cK:ak}{args ds:List IV}(he:CZ P cfg n f=cK)(hl:(P.funcs[f]?).map (·.params.size)=aa args.length)(hp:∀x∈args,Pure x)
 (dV:s8 ds)(hs:cK.sat P C (·=.az ds) [] args):mq P f args ds:=by
 subst he;unfold CZ at hs;split at hs<;>first|(exact hs.elim)|skip
 rename_i fn bV;split at hs<;>first|(exact hs.elim)|skip
 rename_i c hb;split at hs<;>first|(exact hs.elim)|skip
 rename_i hle;have Kr:fn.params.size<=fn.ntmps:=by simpa using hle
 rw[bV]at hl;simp only[atl,asP]at hl;obtain⟨hs,bg⟩:=wA (R:=λ_=>ah) (φ:=λ_=>ah) (L:=[]) (σ:=⟨0,.lf⟩) hp hs (by simpa using hl);have hlen:args.length<=fn.ntmps:=by omega
 have hJ:J (au P args) (λ_=>ah) (λ_=>ah) (setArgs 0 0 (dC P 0 fn.params.toList)) [] (λ_=>cO args fn.ntmps) ⟨0,.lf⟩:=by
  refine⟨λd t pv hg=>?_,λk ob h=>(by simp at h),λk k' id h=>(by cases h),λk id h=>(by cases h),λid m h=>(by cases h),λid m cs ay mn h=>(by cases h),T.WF.lf,λid _=>rfl⟩;obtain⟨rfl,_,h3⟩:=fK (α:=IV) hg;rw[au9]at bg;have ht:t<args.length:=by rw[bg.len];have:=(asM.1 h3).1;simpa using this
  show VR _ _ _ _ _ ((cO args fn.ntmps).at t) pv;rw[(cT hlen).2 ht,asL ht];exact bg.get (asL ht) (by simpa using h3)
 obtain⟨b,om⟩:=vh fi hC n 0 f c ⟨setArgs 0 0 (dC P 0 fn.params.toList),[],fn.params.size,0,fn.ntmps⟩ _ args [] _ _ _ _
  (λN ex e1 aq=>(ex=.normal\/ex=.ret)/\aq.n<=N/\∃v,bJ P fn e1 aq=aa v/\Xb ds v aq) ah [] hs hJ hl.symm rfl (cT (t:=0) hlen).1 (by
   intro ex V' μ K' R' aL E' ao x0 hf iP bt
   have main:(match lR P 0 V' fn.results.toList with
    |some [.one (.mp k)]=>match V'.l[k]? with
     |some (.mp kt z)=>if gI kt then ak.fail 146 else .ret z
     |_=>.fail 147
    |_=>.fail 148).sat P C (·=IV.az ds) K' (args++μ)->∃b,∀N,b<=N->ao.n<=N/\ao.n<=N/\∃v,bJ P fn (E' 0) ao=aa v/\Xb ds v ao:=by
    intro dP;split at dP<;>first|(exact dP.elim)|skip
    rename_i k hr;obtain⟨vs,h1,h2⟩:=lX hf.hJ hr;split at dP<;>first|(exact dP.elim)|skip
    rename_i kt z hk;split at dP
    ·exact dP.elim
    rename_i eo;have eo:¬gI kt=ab:=eo;obtain⟨z',h5,rfl⟩:=dP;obtain⟨v,rfl,hv⟩:=lr h2;have eE:bJ P fn (E' 0) ao=aa v:=kS h1;obtain⟨id,mc,gZ,g1,g2,g3⟩:=hv;rw[hk]at g2;cases g2;rw[if_neg eo]at g3;have dH:=hf.hJ.obj k _ hk;rw[gR,if_neg eo]at dH;obtain⟨bB,es,clock,mQ,c1,c2,c3,c4,c5,c6⟩:=dH;rw[g1]at c2;cases c2;have kQ:z.den P (args++μ)=aa (.az mQ):=c1;rw[h5]at kQ;cases kQ;refine⟨ao.n,λN hN=>⟨hN,hN,v,eE,id,es,g3,?_,All2.len c5,λi e d he hd=>?_⟩⟩
    ·rw[c4,c6.1,All2.len c5]
    ·obtain⟨kk,vv,Mg⟩:=dV d (asZ hd);obtain⟨zv,h8,h9⟩:=All2.get c5 he hd;rw[Mg]at h8;simp only[IV.az.injEq,atK,and_true]at h8;obtain⟨h8a,rfl⟩:=h8;exact⟨c6.2 i e he,vv,TY h9,by rw[Mg,h8a]⟩
   cases ex with
   |exit i=>exact bt.elim
   |b_ t pv=>exact bt.elim
   |normal=>
    obtain rfl:=iP;obtain⟨b,hb⟩:=main bt;exact⟨b,λN hN=>⟨(hb N hN).1,.inl rfl,(hb N hN).2⟩⟩
   |ret=>
    obtain rfl:=iP;obtain⟨b,hb⟩:=main bt;exact⟨b,λN hN=>⟨(hb N hN).1,.inr rfl,(hb N hN).2⟩⟩)
 exact mq.Dz dV (dQ.body (RW:=λv aq=>Xb ds v aq) bV hb hlen (om b (asR _))) λv ao h=>h
end Go.Ev
namespace Go.Ev
section run
variable(P:Program)(cfg:a_)
def H6(n:Nat)(f:FuncId):ak:=
 match P.funcs[f]? with
 |some fn=>match fn.body,fn.params.toList with
  |some c,t::ts=>match P.underlying t with
   |some (.map kt _)=>
    if atN fn.params.size fn.ntmps&& !gI kt then
     p4 P 1 ts<|exec P cfg n 1 f c ⟨setArgs 1 0 (.one (.mp 0)::dC P 1 ts)++setArgs 0 0 [.one (.mp 0)],[.mp kt (.var 0)],fn.params.size,0,fn.ntmps⟩ λex V=>match ex with
      |.exit _=>.fail 151
      |.b_ _ _=>.fail 146
      |_=>match lR P 1 V fn.results.toList,cA 0 0 V.g with
       |some [pv],aa (.one (.mp k))=>match V.l[k]?,u9 pv with
        |some (.mp ma (.var 0)),aa e=>if gI ma then .fail 152 else .ret (.rw e)
        |_,_=>.fail 152
       |_,_=>.fail 153
    else .fail 154
   |_=>.fail 155
  |_,_=>.fail 155
 |none=>.fail 156
end run
variable{P:Program}{N:Nat}{σ ao:St}{R R':Rs}{φ aL:Ph}{E:Nat->Env}{ν:List IV}{cfg:a_}
variable{C:Cr}{Q:IV->Prop}{K:List (List IV->Prop)}{V:SS}{L:List (LO SE)}
theorem sg.oj(fi:P.follows .mixedOrders=ab)(hC:jr P C){n:Nat}{f:FuncId}{cK:ak}{ds xs:List IV}{z:IV}(he:H6 P cfg n f=cK)(hl:(P.funcs[f]?).map (·.params.size)=aa (xs.length+1))(hp:∀x∈xs,Pure x)
 (dV:s8 ds)(hz:∃v,z=.raw v/\aj z=ab)(hs:cK.sat P C (·=z) [] (.az ds::xs)):sg P f ds xs z:=by
 subst he;unfold H6 at hs;split at hs<;>first|(exact hs.elim)|skip
 rename_i fn bV;split at hs<;>first|(exact hs.elim)|skip
 rename_i c t0 ts hb q7;split at hs<;>first|(exact hs.elim)|skip
 rename_i kt et hu;split at hs<;>first|(exact hs.elim)|skip
 rename_i hle;simp only[asN,atD]at hle;have Kr:fn.params.size<=fn.ntmps:=by simpa using hle.1
 have eo:¬gI kt=ab:=by rw[hle.2];simp
 rw[bV]at hl;simp only[atl,asP]at hl
 have aU:ts.length=xs.length:=by
  have:fn.params.toList.length=fn.params.size:=by simp
  rw[q7]at this;simp at this;omega
 let σ:St:=(⟨0,.lf⟩:St).add (.map (kr ds) ds.length)
 let φ:Ph:=λj=>if j=0 then aa 0 else ah
 have bp:All2 iX xs xs:=.mk rfl λi a b h1 h2=>by
  rw[h1]at h2;cases h2;exact .pure a rfl (hp a (asZ h1))
 obtain⟨dK,bg⟩:=CY (j:=0) (pre:=[.az ds]) (R:=λ_=>ah) (φ:=φ) (L:=[.mp kt (.var 0)]) (σ:=σ) bp hs (by omega);rw[au9]at bg;have iG:(SE.var 0).den P (.az ds::xs)=aa (.az ds):=by simp[SE.den]
 have zW:VR (au P (.az ds::xs)) (λ_=>ah) φ [.mp kt (.var 0)] σ (.map 0) (.one (.mp 0)):=⟨0,kt,.var 0,rfl,rfl,(if_neg eo).symm⟩;have z_:All2 (VR (au P (.az ds::xs)) (λ_=>ah) φ [.mp kt (.var 0)] σ) (.map 0::xs) (.one (.mp 0)::dC P 1 ts):=⟨zW,bg⟩;have hlen:(IV.map 0::xs).length<=fn.ntmps:=by simp;omega
 let E1:Nat->Env:=λj=>if j=0 then cO [.map 0] 1 else cO (.map 0::xs) fn.ntmps
 have hJ:J (au P (.az ds::xs)) (λ_=>ah) φ (setArgs 1 0 (.one (.mp 0)::dC P 1 ts)++setArgs 0 0 [.one (.mp 0)]) [.mp kt (.var 0)] E1 σ:=by
  refine⟨λd t pv hg=>?_,λj ob hj=>?_,λj j' id h1 h2=>?_,λj id hj=>?_,λid m h=>(by cases h),λid m cs ay mn h=>(by cases h),(T.WF.lf.set 0 (Ob.map (kr ds) ds.length):(T.lf.set 0 (Ob.map (kr ds) ds.length)).WF),λid hid=>?_⟩
  ·rcases H5 hg with hg|hg
   ·obtain⟨rfl,_,h3⟩:=fK (α:=IV) hg;have ht:t<(IV.map 0::xs).length:=by rw[z_.len];have:=(asM.1 h3).1;simpa using this
    show VR _ _ _ _ _ ((cO (.map 0::xs) fn.ntmps).at t) pv;rw[(cT hlen).2 ht,asL ht];exact z_.get (asL ht) (by simpa using h3)
   ·obtain⟨rfl,_,h3⟩:=fK (α:=IV) hg;cases t with
    |succ t=>simp at h3
    |zero=>
     simp at h3;subst h3;show VR _ _ _ _ _ ((cO [.map 0] 1).at 0) _;rw[(cT (by simp)).2 (by simp)];exact zW
  ·cases j with
   |succ j=>simp at hj
   |zero=>
    simp at hj;subst hj;rw[gR,if_neg eo];refine⟨0,kr ds,ds.length,ds,iG,rfl,rfl,by simp[σ],?_,(qN ds).symm,λi e he=>?_⟩
    ·refine .mk (qN ds) λi e d he hd=>?_;obtain⟨d',wj,rfl⟩:=qM he;rw[hd]at wj;cases wj;obtain⟨kk,v,rfl⟩:=dV d (asZ hd);refine⟨lift v,by simp[zV,qL],?_⟩;show bn ab _ _ (lift v) (lift v);unfold lift;split
     ·exact .agg _ _ rfl λi c e h1 h2=>by
       rw[h1]at h2;cases h2;rw[as4]at h1;obtain⟨u,_,rfl⟩:=asS.1 h1;exact .raw _
     ·exact .raw _
    ·obtain⟨d',wj,rfl⟩:=qM he;obtain⟨kk,v,rfl⟩:=dV d' (asZ wj);rfl
  ·simp only[φ]at h1 h2;split at h1<;>first|(cases h1;done)|skip
   split at h2<;>first|(cases h2;done)|skip
   omega
  ·simp only[φ]at hj;split at hj<;>first|(cases hj;done)|skip
   rename_i h0;cases hj;exact⟨by simp[h0],by simp[σ]⟩
  ·have:id≠0:=by simp only[σ,St.lC]at hid;omega
   show((⟨0,.lf⟩:St).add (.map (kr ds) ds.length)).at id=ah;rw[St.ie,if_neg (by show¬0=id;omega)];rfl
 obtain⟨b,om⟩:=vh fi hC n 1 f c ⟨setArgs 1 0 (.one (.mp 0)::dC P 1 ts)++setArgs 0 0 [.one (.mp 0)],[.mp kt (.var 0)],fn.params.size,0,fn.ntmps⟩ _ (.az ds::xs) [] _ φ E1 σ
  (λN ex e1 aq=>(ex=.normal\/ex=.ret)/\aq.n<=N/\∃v,bJ P fn e1 aq=aa v/\(v=z/\∃es,aq.at 0=aa (.map es ds.length)/\Bh es ds)) ah [] dK hJ (by simp;omega) rfl (cT (t:=0) hlen).1 (by
   intro ex V' μ K' R' aL E' ao x0 hf iP bt
   have main:(match lR P 1 V' fn.results.toList,cA 0 0 V'.g with
    |some [pv],aa (.one (.mp k))=>match V'.l[k]?,u9 pv with
     |some (.mp ma (.var 0)),aa e=>if gI ma then ak.fail 152 else .ret (.rw e)
     |_,_=>.fail 152
    |_,_=>.fail 153).sat P C (·=z) K' (IV.az ds::xs++μ)->∃b,∀N,b<=N->ao.n<=N/\ao.n<=N/\∃v,bJ P fn (E' 1) ao=aa v/\(v=z/\∃es,ao.at 0=aa (.map es ds.length)/\Bh es ds):=by
    intro dP;split at dP<;>first|(exact dP.elim)|skip
    rename_i pv k hr hg;obtain⟨vs,h1,h2⟩:=lX hf.hJ hr;split at dP<;>first|(exact dP.elim)|skip
    rename_i ma e hk hse;split at dP
    ·exact dP.elim
    rename_i yL;have ahl:¬gI ma=ab:=yL;obtain⟨z',h5,rfl⟩:=dP;obtain⟨v,rfl,hv⟩:=lr h2;have eE:bJ P fn (E' 1) ao=aa v:=kS h1;obtain⟨y,c1,c2⟩:=Qe hf.hJ hv hse;simp only[SE.den,c1,asU]at h5;split at h5<;>first|(cases h5;done)|skip
    rename_i qY;cases h5
    have hvy:v=z':=by
     cases z'<;>simp only[aA]at qY<;>first|(cases qY;done)|skip
     exact cb c2
    have Xh:=hf.hJ.slot 0 0 _ hg;have hE0:E' 0=E1 0:=hf.hE 0 (by omega);rw[hE0]at Xh
    have QA:(E1 0).at 0=.map 0:=by
     show(cO [.map 0] 1).at 0=_;rw[(cT (by simp)).2 (by simp)];rfl
    rw[QA]at Xh;obtain⟨id,mc,gZ,g1,g2,g3⟩:=Xh;rw[hk]at g2;cases g2;rw[if_neg ahl]at g3;cases g3;have dH:=hf.hJ.obj k _ hk;rw[gR,if_neg ahl]at dH;obtain⟨bB,es,clock,mQ,d1,d2,d3,d4,d5,d6⟩:=dH;rw[g1]at d2;cases d2;have Zi:(SE.var 0).den P (IV.az ds::xs++μ)=aa (.az mQ):=d1;simp[SE.den]at Zi;subst Zi;obtain⟨rfl,yc⟩:=MZ d5 d6 dV;exact⟨ao.n,λN hN=>⟨hN,hN,v,eE,hvy,es,d4,yc⟩⟩
   cases ex with
   |exit i=>exact bt.elim
   |b_ t pv=>exact bt.elim
   |normal=>
    obtain rfl:=iP;obtain⟨b,hb⟩:=main bt;exact⟨b,λN hN=>⟨(hb N hN).1,.inl rfl,(hb N hN).2⟩⟩
   |ret=>
    obtain rfl:=iP;obtain⟨b,hb⟩:=main bt;exact⟨b,λN hN=>⟨(hb N hN).1,.inr rfl,(hb N hN).2⟩⟩)
 exact sg.Dz dV hz (dQ.body (RW:=λv aq=>v=z/\∃es,aq.at 0=aa (.map es ds.length)/\Bh es ds) bV hb hlen (om b (asR _))) λv ao h=>h
end Go.Ev
namespace Go.Ev
variable{P:Program}{C:Cr}{Q:IV->Prop}{K K':List (List IV->Prop)}{ν:List IV}
theorem ak.H7(f:ak){K K':List (List IV->Prop)}{ν:List IV}(hk:sW K K')(h:f.sat P C Q K ν):f.sat P C Q K' ν:=ak.eJ P f (λ_ h=>h) hk h
theorem E9{A:Type}{init:SE}{body:ak}(e:A->List IV)(I:A->Prop)(μ:A->Nat)(a0:A)(C0:iY P ν init=aa (e a0))(h0:I a0)
 (h:∀a,I a->body.sat P C Q (K++[λvs=>∃a',vs=e a'/\I a'/\μ a'<μ a]) (ν++e a)):(ak.loop init body).sat P C Q K ν:=by
 refine⟨e a0,C0,μ a0+1,?_⟩
 have key:∀m a,I a->μ a<m->(av6 (motive:=λ_=>List IV->Prop) (λ_=>False) (λ_ ih vs=>body.sat P C Q (K++[ih]) (ν++vs)) m) (e a):=by
  intro m;induction m with
  |zero=>intro a _ h;omega
  |succ m ih=>
   intro a ha hm;refine body.H7 ((sW.refl K).snoc ?_) (h a ha);rintro vs ⟨a',rfl,h1,h2⟩;exact ih a' h1 (by omega)
 exact key (μ a0+1) a0 h0 (Nat.lt_succ_self _)
theorem dD{A:Type}{init:SE}{body:ak}(n:Nat)(e:Nat->A->List IV)(I:Nat->A->Prop)(a0:A)(C0:iY P ν init=aa (e 0 a0))(h0:I 0 a0)
 (h:∀i a,i<=n->I i a->body.sat P C Q (K++[λvs=>∃a',vs=e (i+1) a'/\i+1<=n/\I (i+1) a']) (ν++e i a)):(ak.loop init body).sat P C Q K ν:=by
 refine E9 (A:=Nat×A) (λp=>e p.1 p.2) (λp=>p.1<=n/\I p.1 p.2) (λp=>n- p.1) (0,a0) C0 ⟨atE _,h0⟩ λ⟨i,a⟩ ⟨hi,hI⟩=>?_;refine body.H7 ((sW.refl K).snoc ?_) (h i a hi hI);rintro vs ⟨a',rfl,h1,h2⟩;exact⟨(i+1,a'),rfl,⟨h1,h2⟩,by simp;omega⟩
theorem afn{a b:ak}{m:Nat}(p:List IV->Prop)(h:a.sat P C Q (K++[p]) ν)(hb:∀vs,p vs->vs.length=m/\b.sat P C Q K (ν++vs)):(ak.kP a m b).sat P C Q K ν:=
 a.H7 ((sW.refl K).snoc hb) h
@[simp] theorem apf{w:Nat}:(ak.fail w).sat P C Q K ν↔False:=avG
@[simp] theorem T6{e:SE}:(ak.ret e).sat P C Q K ν↔∃z,e.den P ν=aa z/\Q z:=avG
@[simp] theorem oq{e:SE}{k:ak}:(ak.aS e k).sat P C Q K ν↔(∃z,e.den P ν=aa z)/\k.sat P C Q K ν:=avG
@[simp] theorem QB{e:SE}{k:ak}:(ak.bind e k).sat P C Q K ν↔∃z,e.den P ν=aa z/\k.sat P C Q K (ν++[z]):=avG
@[simp] theorem QC{f:FuncId}{new:Bool}{e:SE}{k:ak}:(ak.call f new e k).sat P C Q K ν↔∃xs z,iY P ν e=aa xs/\C f new xs z/\k.sat P C Q K (ν++[z]):=avG
@[simp] theorem QD{e:SE}{a b:ak}:(ak.test e a b).sat P C Q K ν↔(e.den P ν=aa (.raw (.bool ab))/\a.sat P C Q K ν)\/(e.den P ν=aa (.raw (.bool af))/\b.sat P C Q K ν):=avG
@[simp] theorem arF{e:SE}{a b:ak}:(ak.two e a b).sat P C Q K ν↔∃q es,e.den P ν=aa (.tree q es)/\b.sat P C Q K ν/\(es=[]->a.sat P C Q K ν):=avG
@[simp] theorem QE{lv:Nat}{e:SE}:(ak.next lv e).sat P C Q K ν↔∃vs p,iY P ν e=aa vs/\K[lv]?=aa p/\p vs:=avG
@[simp] theorem apg{es x:SE}{k:ak}:(ak.same es x k).sat P C Q K ν↔∃ds r,es.den P ν=aa (.az ds)/\x.den P ν=aa (.az (.az ds::r))/\k.sat P C Q K ν:=avG
@[simp] theorem arG:iY P ν .an=aa []:=rfl
@[simp] theorem aph{a r:SE}:iY P ν (.ac a r)=(a.den P ν).bind λx=>(iY P ν r).map λxs=>x::xs:=by
  unfold iY;simp only[SE.den];cases a.den P ν with
  |none=>rfl
  |some x=>
   cases r.den P ν with
   |none=>rfl
   |some y=>cases y<;>rfl
abbrev iB(b:Bool):IV:=.raw (.bool b)
abbrev iI(n:Int):IV:=.raw (.int .i64 n)
abbrev iS(l:List UInt8):IV:=.raw (.string ⟨l.toArray⟩)
abbrev iL(l:List Int):IV:=.tree 1 (l.map iI)
@[simp] theorem ajP(q:IntKind)(n:Int):yD (.raw (.int q n))=aa (.raw (.int q n)):=rfl
@[simp] theorem ahm(n:Bool):yD (.raw (.bool n))=aa (.raw (.bool n)):=rfl
@[simp] theorem ajQ(n:ByteArray):yD (.raw (.string n))=aa (.raw (.string n)):=rfl
@[simp] theorem sD(s:Nat)(es:List IV):yD (.tree s es)=aa (.tree s es):=rfl
@[simp] theorem ajR(s:Nat)(es:List IV):I9 (.tree s es)=aa (.raw (.int .i64 es.length)):=rfl
theorem fw{s:Nat}{es:List IV}{i:Nat}{q:IntKind}{x:IV}(h:es[i]?=aa x)(hx:(cellsOf x).length=s):dy s (.tree s es) (.raw (.int q (i:Nat)))=aa x:=by
 simp[dy,gS,h,hx]
@[simp] theorem ar1(P:Program)(t:TypeId)(a b:Int):dt P .lss t (iI a) (iI b)=aa (iB (decide (a<b))):=rfl
@[simp] theorem ar2(P:Program)(t:TypeId)(a b:Int):dt P .gtr t (iI a) (iI b)=aa (iB (decide (a>b))):=rfl
@[simp] theorem ar3(P:Program)(t:TypeId)(a b:Int):dt P .leq t (iI a) (iI b)=aa (iB (decide (a<=b))):=rfl
@[simp] theorem ar4(P:Program)(t:TypeId)(a b:Int):dt P .geq t (iI a) (iI b)=aa (iB (decide (a≥b))):=rfl
@[simp] theorem ar5(P:Program)(t:TypeId)(a b:Int):dt P .eql t (iI a) (iI b)=aa (iB (a==b)):=rfl
@[simp] theorem ar6(P:Program)(t:TypeId)(a b:Int):dt P .neq t (iI a) (iI b)=aa (iB (a !=b)):=rfl
@[simp] theorem ar7(P:Program)(t:TypeId)(a b:Int):dt P .add t (iI a) (iI b)=aa (iI (as7.wrap (a+b))):=rfl
@[simp] theorem ar8(P:Program)(t:TypeId)(a b:Int):dt P .sub t (iI a) (iI b)=aa (iI (as7.wrap (a- b))):=rfl
@[simp] theorem ar9(P:Program)(t:TypeId)(a b:Int):dt P .mul t (iI a) (iI b)=aa (iI (as7.wrap (a*b))):=rfl
@[simp] theorem ar_(P:Program)(t:TypeId)(a b:List UInt8):dt P .lss t (iS a) (iS b)=aa (iB (avg a b)):=by
  show aa (IV.bool (avg a.toArray.toList b.toArray.toList))=_;simp
@[simp] theorem asa(P:Program)(t:TypeId)(a b:List UInt8):dt P .gtr t (iS a) (iS b)=aa (iB (!(avg a b||a==b))):=by
  show aa (IV.bool (!(avg a.toArray.toList b.toArray.toList||a.toArray.toList==b.toArray.toList)))=_;simp
@[simp] theorem asb(P:Program)(t:TypeId)(a b:List UInt8):dt P .neq t (iS a) (iS b)=aa (iB (!(a==b))):=by
  show aa (IV.bool (!(a.toArray.toList==b.toArray.toList)))=_;simp
theorem adM(P:Program)(t:TypeId)(hu:P.underlying t=aa .bool)(a b:Bool):dt P .eql t (iB a) (iB b)=aa (iB (a==b)):=by
 show(aT P (do eqGuard .eql t _ _ _ _;Go.binOp .eql t _ _)).map lift=_;rw[bx];show(aT P (do pure (.bool (<-aue (9999+1) t (.bool a) (.bool b))))).map lift=_;unfold aue;rw[bx,bx,Go.Ev.run_underlying hu,asU];rfl
theorem akP(P:Program)(t:TypeId)(hu:P.underlying t=aa .bool)(a b:Bool):dt P .neq t (iB a) (iB b)=aa (iB (!(a==b))):=by
 show(aT P (do eqGuard .neq t _ _ _ _;Go.binOp .neq t _ _)).map lift=_;rw[bx];show(aT P (do pure (.bool (!(<-aue (9999+1) t (.bool a) (.bool b)))))).map lift=_;unfold aue;rw[bx,bx,Go.Ev.run_underlying hu,asU];rfl
@[simp] theorem asc(P:Program)(a:Bool):Wt P .not (iB a)=aa (iB (!a)):=rfl
theorem cQ{a:Int}(h1: -9223372036854775808<=a)(h2:a<=9223372036854775807):as7.wrap a=a:=by
 simp only[IntKind.wrap,IntKind.bits,IntKind.signed];simp;omega
end Go.Ev
namespace Go.Ev
variable{P:Program}{C:Cr}{Q:IV->Prop}{K K':List (List IV->Prop)}{ν:List IV}
def Hc{A:Type}(n:Nat)(e:Nat->A->List IV)(I:Nat->A->Prop)(i:Nat)(vs:List IV):Prop:=∃a',vs=e (i+1) a'/\i+1<=n/\I (i+1) a'
theorem Hc.mk{A:Type}{n:Nat}{e:Nat->A->List IV}{I:Nat->A->Prop}{i:Nat}{vs:List IV}(a':A)(h1:vs=e (i+1) a')(h2:i+1<=n)(h3:I (i+1) a'):Hc n e I i vs:=⟨a',h1,h2,h3⟩
theorem aw{A:Type}{init:SE}{body:ak}(n:Nat)(e:Nat->A->List IV)(I:Nat->A->Prop)(a0:A)(C0:iY P ν init=aa (e 0 a0))(h0:I 0 a0)
 (h:∀i a,i<=n->I i a->body.sat P C Q (K++[Hc n e I i]) (ν++e i a)):(ak.loop init body).sat P C Q K ν:=
 dD n e I a0 C0 h0 h
def acG{A:Type}(e:A->List IV)(I:A->Prop)(μ:A->Nat)(a:A)(vs:List IV):Prop:=∃a',vs=e a'/\I a'/\μ a'<μ a
theorem acG.mk{A:Type}{e:A->List IV}{I:A->Prop}{μ:A->Nat}{a:A}{vs:List IV}(a':A)(h1:vs=e a')(h2:I a')(h3:μ a'<μ a):acG e I μ a vs:=⟨a',h1,h2,h3⟩
theorem xC{A:Type}{init:SE}{body:ak}(e:A->List IV)(I:A->Prop)(μ:A->Nat)(a0:A)(C0:iY P ν init=aa (e a0))(h0:I a0)
 (h:∀a,I a->body.sat P C Q (K++[acG e I μ a]) (ν++e a)):(ak.loop init body).sat P C Q K ν:=
 E9 e I μ a0 C0 h0 h
def Ly(p:List IV->Prop)(vs:List IV):Prop:=p vs
theorem ot{a b:ak}{m:Nat}(p:List IV->Prop)(h:a.sat P C Q (K++[Ly p]) ν)(hb:∀vs,p vs->vs.length=m/\b.sat P C Q K (ν++vs)):(ak.kP a m b).sat P C Q K ν:=
 afn p h hb
end Go.Ev
namespace Go.Ev
variable{P:Program}{C:Cr}{Q:IV->Prop}{K:List (List IV->Prop)}{ν:List IV}
def noTwo:ak->Bool
 |.two .. |.pick .. =>af
 |.test _ a b|.kP a _ b=>noTwo a&&noTwo b
 |.bind _ k|.aS _ k|.call _ _ _ k|.loop _ k|.same _ _ k=>noTwo k
 |_=>ab
def ExK(Q:IV->Prop)(K:List (List IV->Prop))(Kz:IV->List (List IV->Prop)):Prop:=
 (∀z,(Kz z).length=K.length)/\∀(lv:Nat) (p:List IV->Prop) (vs:List IV),K[lv]?=aa p->p vs->∃z,Q z/\∃p':List IV->Prop,(Kz z)[lv]?=aa p'/\p' vs
theorem ExK.snoc{Kz:IV->List (List IV->Prop)}{p:List IV->Prop}{q:IV->List IV->Prop}(h:ExK Q K Kz)(hp:∀vs,p vs->∃z,Q z/\q z vs):ExK Q (K++[p]) (λz=>Kz z++[q z]):=by
 refine⟨λz=>by simp[h.1 z],λlv r vs hr ij=>?_⟩;by_cases hl:lv<K.length
 ·rw[asY hl]at hr;obtain⟨z,h1,p',h2,h3⟩:=h.2 lv r vs hr ij;exact⟨z,h1,p',by rw[asY (by rw[h.1 z];exact hl)];exact h2,h3⟩
 ·have ai:=(asM.1 hr).1;simp at ai;have:lv=K.length:=by omega
  subst this;simp at hr;subst hr;obtain⟨z,h1,h2⟩:=hp vs ij;exact⟨z,h1,q z,by simp[<-h.1 z],h2⟩
theorem rL:∀(cK:ak),noTwo cK=ab->∀{K:List (List IV->Prop)} {Kz:IV->List (List IV->Prop)} {ν:List IV},ExK Q K Kz->cK.sat P C Q K ν->∃z,Q z/\cK.sat P C (·=z) (Kz z) ν
 |.fail _,_,_,_,_,_,h=>h.elim
 |.bad ..,_,_,_,_,_,h=>h.elim
 |.two ..,hn,_,_,_,_,_=>by cases hn
 |.pick ..,hn,_,_,_,_,_=>by cases hn
 |.uniq k,_,K,Kz,_,hK,h=>by
  obtain⟨z,h1,h2⟩:=h;refine⟨z,h1,z,rfl,ak.eJ P k (λ_ h=>h) ?_ h2⟩;refine .mk (by simp[hK.1 z]) λi a b ha hb vs hv=>?_;simp only[as4,asS]at ha;obtain⟨_,_,rfl⟩:=ha;exact hv.elim
 |.same es x k,hn,_,_,_,hK,h=>by
  obtain⟨ds,r,h1,h2,h3⟩:=h;obtain⟨z,g1,g2⟩:=rL k hn hK h3;exact⟨z,g1,ds,r,h1,h2,g2⟩
 |.ret e,_,_,_,_,_,h=>by
  obtain⟨z,h1,h2⟩:=h;exact⟨z,h2,z,h1,rfl⟩
 |.test e a b,hn,_,_,_,hK,h=>by
  simp only[noTwo,asN]at hn;rcases h with⟨h1,h2⟩|⟨h1,h2⟩
  ·obtain⟨z,g1,g2⟩:=rL a hn.1 hK h2;exact⟨z,g1,.inl ⟨h1,g2⟩⟩
  ·obtain⟨z,g1,g2⟩:=rL b hn.2 hK h2;exact⟨z,g1,.inr ⟨h1,g2⟩⟩
 |.bind e k,hn,_,_,_,hK,h=>by
  obtain⟨y,h1,h2⟩:=h;obtain⟨z,g1,g2⟩:=rL k hn hK h2;exact⟨z,g1,y,h1,g2⟩
 |.aS e k,hn,_,_,_,hK,h=>by
  obtain⟨z,g1,g2⟩:=rL k hn hK h.2;exact⟨z,g1,h.1,g2⟩
 |.call f new e k,hn,_,_,_,hK,h=>by
  obtain⟨xs,y,h1,h2,h3⟩:=h;obtain⟨z,g1,g2⟩:=rL k hn hK h3;exact⟨z,g1,xs,y,h1,h2,g2⟩
 |.next lv e,_,K,Kz,_,hK,h=>by
  obtain⟨vs,p,h1,h2,h3⟩:=h;obtain⟨z,g1,p',g2,g3⟩:=hK.2 lv p vs h2 h3;exact⟨z,g1,vs,p',h1,g2,g3⟩
 |.kP a m b,hn,K,Kz,ν,hK,h=>by
  simp only[noTwo,asN]at hn
  exact rL a hn.1 (Kz:=λz=>Kz z++[λvs=>vs.length=m/\b.sat P C (·=z) (Kz z) (ν++vs)]) (hK.snoc λvs ij=>by
   obtain⟨z,g1,g2⟩:=rL b hn.2 hK ij.2;exact⟨z,g1,ij.1,g2⟩) h
 |.loop i b,hn,K,Kz,ν,hK,h=>by
  obtain⟨vs,h1,m,hm⟩:=h
  have key:∀(m:Nat) (vs:List IV),(av6 (motive:=λ_=>List IV->Prop) (λ_=>False) (λ_ ih vs=>b.sat P C Q (K++[ih]) (ν++vs)) m) vs->
   ∃z,Q z/\(av6 (motive:=λ_=>List IV->Prop) (λ_=>False) (λ_ ih vs=>b.sat P C (·=z) (Kz z++[ih]) (ν++vs)) m) vs:=by
   intro m;induction m with
   |zero=>intro vs h;exact h.elim
   |succ m ih=>
    intro vs h;exact rL b hn (Kz:=λz=>Kz z++[av6 (motive:=λ_=>List IV->Prop) (λ_=>False) (λ_ ih vs=>b.sat P C (·=z) (Kz z++[ih]) (ν++vs)) m]) (hK.snoc ih) h
  obtain⟨z,g1,g2⟩:=key m vs hm;exact⟨z,g1,vs,h1,m,g2⟩
theorem yR{cK:ak}(hn:noTwo cK=ab)(h:cK.sat P C Q [] ν):∃z,Q z/\cK.sat P C (·=z) [] ν:=
 rL cK hn (Kz:=λ_=>[]) ⟨λ_=>rfl,λ_ _ _ h=>by simp at h⟩ h
end Go.Ev
namespace Go.Ev
open Go
variable{H:Type}{enc:TypeId×Value->H}{P:Program}{w:World}{sp:Nat->Bool}{held:Bool}
theorem kT{a:Addr}{n:Nat}{us:List Value}(h:w.cells? 0 a n=aa us):us.length=n/\∀j,j<n->w.cell? (a.add j)=us[j]? :=by
 unfold World.cells? at h;rw[if_pos (atE _)]at h;exact⟨by simpa using mapM_some_length h,λj hj=>mapM_some_get h j j (by simp[hj])⟩
theorem JP{b off:Nat}{v:Value}(h:w.cell? ⟨b,off,ah⟩=aa v):pk (allM w) b off=aa v:=by
 unfold World.cell? at h;simp only at h;split at h
 ·rename_i c e f hb;rw[if_neg (by simp)]at h;unfold pk allM;rw[hb];exact h
 ·cases h
theorem C1(b off n:Nat):(⟨b,off,ah⟩:Addr).add n=⟨b,off+n,ah⟩:=by
 unfold ayw;split
 ·rename_i h;subst h;rfl
 ·rfl
theorem C2{α:Type}(f:α->IV){s:Nat}(hs:0<s)(bH:∀a,(cellsOf (f a)).length=s)(Ok:α->Prop){t e:TypeId}(ht:P.underlying t=aa (.slice e))(hP:P.cellsOf e=s){fuel:Nat}{u:Value}{x:DataW H×List MemPlace}
 (oJ:∀n us x,n<fuel->atL enc P w 0 sp held n e us=aa x->us.length=s->∃a,Ok a/\aB (eH (allM w)) (cellsOf (f a)) us)
 (h:atL enc P w 0 sp held fuel t [u]=aa x):∃l:List α,l.length<=9223372036854775807/\(∀a∈l,Ok a)/\Rv (eH (allM w)) (.tree s (l.map f)) u:=by
 rcases DataW.trod_slice ht h with⟨h1,_⟩|⟨a,len,cap,elems,rest,n,hfu,h1,_,_,l5,hcm,hlen,aE,_,_⟩
 ·obtain rfl:=(avn h1).1;exact⟨[],by simp,by simp,.dY s ah 0 hs (λ_=>rfl)⟩
 ·obtain rfl:=(avn h1).1;by_cases jC:len=0
  ·subst jC;exact⟨[],by simp,by simp,.dY s (aa a) cap hs (by simp)⟩
  ·have key:∀i:Fin len,∃p:List Value×α,w.cells? 0 (a.add (i.1*s)) s=aa p.1/\Ok p.2/\aB (eH (allM w)) (cellsOf (f p.2)) p.1:=λi=>by
    have hi:=aE i.1 i.2;rw[hP]at hi;have uS:elems[i.1]?=aa elems[i.1]:=asL (by omega);rw[uS]at hi;obtain⟨us,yo,rF⟩:=as_.1 hi;obtain⟨b,cN,fk⟩:=oJ n us _ (by omega) rF (kT yo).1;exact⟨(us,b),yo,cN,fk⟩
   obtain⟨g,hg⟩:=ayr key
   have JQ:a.spot=ah:=by
    obtain⟨pR,_,_⟩:=hg ⟨0,by omega⟩;obtain⟨rD,fa⟩:=kT pR;have h0:=fa 0 hs;rw[asL (by omega)]at h0;have:=World.cell?_spot h0;simpa[ayw]using this
   obtain⟨b,off,spot⟩:=a;simp only at JQ;subst JQ
   have ik:∀i (hi:i<len) j,j<s->w.cell? ⟨b,off+(i*s+j),ah⟩=(g ⟨i,hi⟩).1[j]? :=λi hi j hj=>by
    have:=(kT (hg ⟨i,hi⟩).1).2 j hj;rw[C1,C1]at this;rw[<-Nat.add_assoc];exact this
   refine⟨avW λi=>(g i).2,by simp;have:maxLen=9223372036854775807:=rfl;omega,?_,?_⟩
   ·intro c hc;obtain⟨i,rfl⟩:=(List.mem_ofFn (f:=λi=>(g i).2)).1 hc;exact(hg i).2.1
   ·have oJ:((avW λi=>(g i).2).map f).length=len:=by simp
    have hR:=Rv.tree (ι:=eH (allM w)) s ((avW λi=>(g i).2).map f) b off cap (λk=>(w.cell? ⟨b,off+k,ah⟩).getD Go.undef) hs (by rw[oJ];exact l5) ?_ ?_ ?_
    ·rw[oJ]at hR;exact hR
    ·intro e' ic;obtain⟨c,_,rfl⟩:=List.mem_map.1 ic;exact bH c
    ·intro k hk;rw[oJ]at hk;have hi:k/s<len:=Nat.div_lt_of_lt_mul (by rw[axb];exact hk);have hj:k % s<s:=Nat.mod_lt _ hs;have hc:=ik (k/s) hi (k % s) hj;have cH:k/s*s+k % s=k:=by rw[axb];exact Nat.div_add_mod k s
     rw[cH]at hc;have rD:=(kT (hg ⟨k/s,hi⟩).1).1;rw[asL (by omega)]at hc;rw[JP hc,hc];rfl
    ·intro i e' j c ic hc;rw[as4,List.getElem?_ofFn]at ic;split at ic
     ·rename_i hi;simp only[atl,asP]at ic;subst ic;have hj:j<s:=by have:=(asM.1 hc).1;rw[bH]at this;exact this
      have mO:=ik i hi j hj;have rD:=(kT (hg ⟨i,hi⟩).1).1;rw[asL (by omega)]at mO;simp only[mO,Option.getD_some];exact(hg ⟨i,hi⟩).2.2.2 j c _ hc (asL _)
     ·simp at ic
theorem JR{t:TypeId}{fs:Array Field}{cs:List Value}{fuel:Nat}{x:DataW H×List MemPlace}(ht:P.underlying t=aa (.struct fs))(h:atL enc P w 0 sp held fuel t cs=aa x):
 ∃n,fuel=n+1/\∀(i:Nat) (ty:TypeId) (off k:Nat),(fs[i]?).map (λf:Field=>(f.type,f.offset))=aa (ty,off)->P.cellsOf ty=k->∃y,atL enc P w 0 sp held n ty ((cs.drop off).take k)=aa y:=by
 obtain⟨xs,n,h1,_,_,h4,h5⟩:=DataW.trod_struct ht h;refine⟨n,h1,λi ty off k hi hk=>?_⟩;obtain⟨f,hf,OV⟩:=asS.1 hi;simp only[ati]at OV;obtain⟨rfl,rfl⟩:=OV
 have Dp:i<xs.length:=by
  rw[h4];exact(Array.getElem?_eq_some_iff.1 hf).1
 have:=h5 i f hf;rw[asL Dp,hk]at this;exact⟨_,this⟩
end Go.Ev
