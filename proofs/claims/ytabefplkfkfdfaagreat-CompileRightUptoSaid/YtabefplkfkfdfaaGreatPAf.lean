/- Lemmas over the model, without conditions of their own: the ideal machine, and code run on expressions. -/
import Derived.Test.YtabefplkfkfdfaaGreatPAe
import Derived.KernelRfl
import Derived.Test.YtabefplkfkfdfaaGreatProg
import Derived.Test.YtabefplkfkfdfaaGreatPAc
import Derived.Shelf.Strings.Search3
import Derived.Test.YtabefplkfkfdfaaGreatPAb
import Derived.Laws.RangeAny
import Derived.RangeFuncNested
import Derived.RangeFuncBound
import Derived.RangeFuncCalls
import Derived.RangeFuncLeaves
import Derived.RangeFuncBox
import Derived.Shelf.Abstract
import Derived.Shelf.RegionOpen
import Derived.WalkKit
import Derived.OwnWalkIn
import Derived.TacticsInMore
import Derived.LoopNIn
import Derived.LoopIn
import Derived.Maps.OwnIn
import Derived.Maps.AppendAt
open Nat renaming rec->aCc,eq_of_beq_eq_true->ay0,le_refl->ayL,ble->azK,beq->ayQ,zero_add->aAn,add_zero->aD8,le_trans->ay6,reduceAdd->aAO,reduceSub->aAP
open List renaming append_assoc->ay3,getElem?_append_right->aze,getElem?_cons_zero->az8,drop_of_length_le->azf,getElem_mem->ayJ,drop_eq_getElem_cons->ay5,drop_zero->aBF,getElem?_eq_some_iff->ayH,getElem?_eq_getElem->ayG,mem_of_getElem?->ayX,eq_nil_of_length_eq_zero->azb,getElem?_cons_succ->aBz,length->azj,map_cons->azr,getElem?_map->ay1,flatten_cons->aA9,getElem?_append_left->ayZ,cons_append->azO,length_map->azq,mem_map->ay8,sizeOf_lt_of_mem->azG,take_succ_eq_append_getElem->ayN,mem_append->ayS,take_of_length_le->ayV,all_eq_false->aC7,mem_cons->ayW,take_append_drop->azW,mem_singleton->ayU,all_eq_true->ayY,nil_append->azN,map_nil->aAW,mem_append_left->azw,mem_append_right->azH,map_map->aCe,flatten_append->azI,flatten_nil->aB7,append_nil->ay2,length_append->ayP,size_toArray->aAj,length_cons->azh,length_nil->aAm,push_toArray->aAk,append_toArray->az_
open Option.some renaming injEq->ayO
open Prod.mk renaming injEq->aAt
open Bool renaming false_eq_true->azi,and_eq_true->ayI
open Option renaming map_some->azl,bind_some->ayK,map_eq_some_iff->ayR,bind_eq_some_iff->ay4
open List.cons renaming injEq->aBb
open Go.Proofs.Tryz renaming prog->ayF,underlying82->aC9,func245->aD2,ntmps245->aDT
open Iff renaming rfl->aBG
open Go.IntKind renaming i64->azc,wrap->aDk,bits->aDl,signed->aCT,u8->aDS
open Go renaming binOp->aAu,undef->azm
open Go.Op renaming equalIn->azE,equal->aA8
open ByteArray renaming size->aBy,getElem_eq_getElem_data->aD_
open Go.Proofs.Lays renaming n144->aD1
open Go.Lib renaming indexByte->aBP
open Go.Utf8 renaming decode->aAc
open Ne renaming symm->aCy
open Classical renaming em->aC8
open Go.Instr renaming findAsking->azt,findKey->azR,sameBits->aAD
open Array renaming replicate_succ->az4,replicate_zero->az5
open Go.Value renaming slice->aCz
open Go.World renaming grownBy_alloc->aBh
open Go.RowKit.Below renaming refl->aAF
open Go.Value.agg renaming injEq->aCI
open Array.mk renaming injEq->aCU
open Option renaming some->aa,none->ah
open Bool renaming true->ab,false->af
set_option linter.all false
namespace Go.Ev
section
variable{Cx:Cs}
variable{P:Program}{N:Nat}{σ au:St}{R R':Rs}{φ aV:Ph}{E:Nat->Env}{ν:List IV}{ro:Nat}{ι:Io}{w:World}{cfg:fe}{self:nW}
variable{C:Cr}{Q:IV->Prop}{K:List (List IV->Prop)}{V:SS}{d f0:Nat}{o:Oper}{k:PV SE->SS->aq}{L:List (LO SE)}{Γ:Gm SE}{rd:Option Nat}{df:List Df}
theorem XR.goto{ex:zf}{x:Ex}(h:XR P ν R φ L σ ex x)(l:Nat):x≠.goto l:=by
 cases ex with
 |cg t pv=>obtain⟨v,rfl,_⟩:=h;simp
 |_=>rw[show x=_ from h];simp
def XR.norm{ex:zf}{x:Ex}(h:XR P ν R φ L σ ex x)(bA:ex≠.normal):x≠.normal:=by
 cases ex with
 |normal=>grind
 |cg t pv=>obtain⟨v,rfl,_⟩:=h;simp
 |_=>rw[show x=_ from h];simp
def Yq{t:Nat}{c:Cl SE}(hc:c≠.un)(h:bP P d V 0 (.tmp t)=.one c):cz d t V.g=aa (.one c):=by
 simp only[bP]at h;cases hg:cz d t V.g with
 |none=>grind
 |some pv=>grind
def KW.ks{kk:zf->SS->aq}{nt:Nat}{CW:Nat->lz}(h:KW Cx P C Q d E K ν nt kk CW):KS Cx P C Q d E K ν nt (kk .normal) (λN e σ=>CW N .normal e σ):=
 λV' μ K' R' aV E' au hf hs=>h .normal V' μ K' R' aV E' au _ hf rfl hs
theorem Rn{a:Code}{k:zf->SS->aq}{CW:Nat->lz}{H:SS}{n mm f:Nat}{ws:List (Nat×Nat×Nat)}{bad:SS->aq}{lv:Nat}(hKl:K.length=lv){jB:Bool}(fm:jB=af->rd=ah)(bN:oQ Cx P C Q self)(avj:∀W K ν,¬(bad W).sat P C Q K ν)
 (hK:K.length+1=H.lv)(hHn:H.n=n+mm)(hn:ν.length=n)(jU:KW Cx P C Q d E K ν H.nt k CW):∀(m:Nat) {vs:List IV} {R:Rs} {φ:Ph} {E1:Nat->Env} {σ:St},J Cx (ay P (ν++vs)) R φ H.g H.l E1 σ->vs.length=mm->(∀j,j<d->E1 j=E j)->(E1 d).n=(E d).n->(E d).n=H.nt->
  (aCc (motive:=λ_=>List IV->Prop) (λ_=>False) (λ_ ih vs=>(self jB d f a H λex W=>match ex with
   |.normal=>match inst n mm H (Jw ws H W)with
    |some (args,_)=>.next lv (ff args)
    |none=>bad W
   |ex=>k ex W).sat P C Q (K++[ih]) (ν++vs)) m) vs->∃b,∀N,b<=N->qy P N rd m a (E1 d) df σ (CW N)
 |0,_,_,_,_,_,_,_,_,_,_,h=>h.elim
 |m+1,vs,R,φ,E1,σ,hJ,eB,hE,Yj,hE2,h=>by
  obtain⟨b,hb⟩:=bN jB d f a H _ (ν++vs) _ R φ E1 σ (λN=>y_ N (λe1 av=>qy P N rd m a e1 df av (CW N)) (CW N)) rd df fm h hJ bc bc aj (by
   intro ex V' μ K' R' aV E' au x hf hx hs
   have other:∀zo,zo≠.normal->XR P (ν++vs++μ) R' aV V'.l au zo x->(k zo V').sat P C Q K' (ν++vs++μ)->∃b,∀N,b<=N->au.n<=N/\y_ N (λe1 av=>qy P N rd m a e1 df av (CW N)) (CW N) x (E' d) au:=by
    intro zo bA hx hs;have avk:∀x,KW Cx P C Q d E1 (K++[x]) (ν++vs) H.nt k CW:=λx=>jU.fwd (List.prefix_append K [x]) hE Yj;have⟨b,hb⟩:=avk _ zo V' μ K' R' aV E' au x hf hx hs;exact⟨b,λN hN=>⟨(hb N hN).1,(hb N hN).1,λh=>absurd h (hx.norm bA),λ_=>(hb N hN).2⟩⟩
   cases ex with
   |normal=>
    obtain rfl:=hx;simp only at hs;split at hs
    .rename_i es eu hi;have⟨R2,fq,A7,_⟩:=afM ws H hf.hJ;have⟨us,p,h1,h2,h3⟩:=hs;have⟨hlen,wI⟩:=Pj (td:=ν) fq hn ⟨vs++μ,by simp⟩ hi (LM h1);have⟨t,ht⟩:=hf.hK;rw[<-ht,ay3,aze aj,hKl,Nat.sub_self]at h2;simp only[List.singleton_append,az8,ayO]at h2;subst h2;have⟨b,hb⟩:=Rn hKl fm bN avj hK hHn hn jU m wI hlen (λj hj=>by rw[hf.hE j hj,hE j hj]) (by rw[hf.Hq,Yj]) hE2 h3;exact⟨max b au.n,λN hN=>⟨by omega,by omega,λ_=>hb N aj,λh=>absurd rfl h⟩⟩
    grind
   |exit i=>exact other (.exit i) aw hx hs
   |ret=>exact other .ret aw hx hs
   |cg t pv=>exact other (.cg t pv) aw hx hs)
  exact⟨b,λN hN=>.succ (hb N hN)⟩
theorem Ro{a:Code}{k:zf->SS->aq}{CW:Nat->lz}{f:Nat}{jB:Bool}(fm:jB=af->rd=ah)(bN:oQ Cx P C Q self):∀(n:Nat) (V:SS) ν K R φ E σ,(OX self jB d f a k n V).sat P C Q K ν->J Cx (ay P ν) R φ V.g V.l E σ->ν.length=V.n->K.length=V.lv->(E d).n=V.nt->KW Cx P C Q d E K ν V.nt k CW->
 ∃b,∀N,b<=N->qy P N rd n a (E d) df σ (CW N)
 |0,_,_,_,_,_,_,_,hs,_,_,_,_,_=>hs.elim
 |n+1,V,ν,K,R,φ,E,σ,hs,hJ,hn,hK,bV,jU=>by
  obtain⟨b,hb⟩:=bN jB d f a V _ ν K R φ E σ (λN=>y_ N (λe1 av=>qy P N rd n a e1 df av (CW N)) (CW N)) rd df fm hs hJ hn hK bV (by
   intro ex V' μ K' R' aV E' au x0 hf hx bu
   have other:∀zo,zo≠.normal->XR P (ν++μ) R' aV V'.l au zo x0->(k zo V').sat P C Q K' (ν++μ)->∃b,∀N,b<=N->au.n<=N/\y_ N (λe1 av=>qy P N rd n a e1 df av (CW N)) (CW N) x0 (E' d) au:=by
    intro zo bA hx hs;have⟨b,hb⟩:=jU zo V' μ K' R' aV E' au x0 hf hx hs;exact⟨b,λN hN=>⟨(hb N hN).1,(hb N hN).1,λh=>absurd h (hx.norm bA),λ_=>(hb N hN).2⟩⟩
   cases ex with
   |normal=>
    obtain rfl:=hx
    obtain⟨b,hb⟩:=Ro fm bN n V' (ν++μ) K' R' aV E' au bu hf.hJ hf.hn hf.gh (by rw[hf.Hq,bV,hf.bV]) (by
     rw[hf.bV];exact jU.fwd hf.hK hf.hE hf.Hq)
    exact⟨max b au.n,λN hN=>⟨by omega,by omega,λ_=>hb N aj,λh=>absurd rfl h⟩⟩
   |exit i=>exact other (.exit i) aw hx bu
   |ret=>exact other .ret aw hx bu
   |cg t pv=>exact other (.cg t pv) aw hx bu)
  exact⟨b,λN hN=>.succ (hb N hN)⟩
def Xh(fR:P.follows .mixedOrders=ab)(hC:mK P C){jk:Cs->nW}(NB:∀Cx Q,oQ Cx P C Q (jk Cx)):oQ Cx P C Q (xK P cfg Cx jk):=by
 have bN:=NB Cx Q;intro jB d f c V k ν K R φ E σ CW rd df fm hs hJ hn hK bV jU;cases c with
 |skip=>
  obtain⟨b,hb⟩:=jU.now hJ hn hK (ex:=.normal) rfl hs;exact⟨b,λN hN=>.skip (hb N hN).2⟩
 |label l=>
  obtain⟨b,hb⟩:=jU.now hJ hn hK (ex:=.normal) rfl hs;exact⟨b,λN hN=>.label (hb N hN).2⟩
 |exit id=>
  obtain⟨b,hb⟩:=jU.now hJ hn hK (ex:=.exit id) rfl hs;exact⟨b,λN hN=>.exit (hb N hN).2⟩
 |ret=>
  obtain⟨b,hb⟩:=jU.now hJ hn hK (ex:=.ret) rfl hs;exact⟨b,λN hN=>.ret (hb N hN).2⟩
 |region id ops draw=>
  cases draw with
  |true=>
   simp only[xK,if_true]at hs;split at hs
   .split at hs<;>try cases hs
    rename_i gd;exact Vf fR hC bN gd hs hJ hn hK bV jU.ks jU.kp
   split at hs
   .rename_i gd;exact af3 (fn:=0) fR hC gd hs hJ hn hK bV jU.ks
   .cases hs
  |false=>
   obtain⟨b,hb⟩:=Pq (CX:=CW) (rd:=rd) (df:=df) hC bN ops.toList [] V ν K R φ E σ (lA.nil _) hs hJ hn hK bV jU.ks jU.kp;exact⟨b,λN hN=>.region (hb N hN)⟩
 |seq x y=>
  obtain⟨b,hb⟩:=bN jB d f x V _ ν K R φ E σ (λN=>y_ N (λe1 av=>cY P N rd y e1 df av (CW N)) (CW N)) rd df fm hs hJ hn hK bV (by
   intro ex V' μ K' R' aV E' au x0 hf hx bu
   have other:∀zo,zo≠.normal->XR P (ν++μ) R' aV V'.l au zo x0->(k zo V').sat P C Q K' (ν++μ)->∃b,∀N,b<=N->au.n<=N/\y_ N (λe1 av=>cY P N rd y e1 df av (CW N)) (CW N) x0 (E' d) au:=by
    intro zo bA hx hs;have⟨b,hb⟩:=jU zo V' μ K' R' aV E' au x0 hf hx hs;exact⟨b,λN hN=>⟨(hb N hN).1,(hb N hN).1,λh=>absurd h (hx.norm bA),λ_=>(hb N hN).2⟩⟩
   cases ex with
   |normal=>
    obtain rfl:=hx
    have⟨b,hb⟩:=bN jB d f y V' k (ν++μ) K' R' aV E' au CW rd df fm bu hf.hJ hf.hn hf.gh (by rw[hf.Hq,bV,hf.bV]) (by
     rw[hf.bV];exact jU.fwd hf.hK hf.hE hf.Hq)
    exact⟨max b au.n,λN hN=>⟨by omega,by omega,λ_=>hb N aj,λh=>absurd rfl h⟩⟩
   |exit i=>exact other (.exit i) aw hx bu
   |ret=>exact other .ret aw hx bu
   |cg t pv=>exact other (.cg t pv) aw hx bu)
  exact⟨b,λN hN=>.seq (hb N hN)⟩
 |cond c x y=>
  simp only[xK]at hs;have hc:=bw hJ d 0 c;split at hs
  .rename_i hh;rw[hh]at hc;have⟨u,h1,h2,_⟩:=hc;simp only[SE.den,ayO]at h1;subst h1;have⟨b,hb⟩:=bN jB d f x V k ν K R φ E σ CW rd df fm hs hJ hn hK bV jU;exact⟨b,λN hN=>.cond (cD h2) bc⟩
  .rename_i hh;rw[hh]at hc;have⟨u,h1,h2,_⟩:=hc;simp only[SE.den,ayO]at h1;subst h1;have⟨b,hb⟩:=bN jB d f y V k ν K R φ E σ CW rd df fm hs hJ hn hK bV jU;exact⟨b,λN hN=>.cond (cD h2) bc⟩
  .rename_i e _ _ hh;split at hs<;>try cases hs
   split at hs
   .cases hs
   .have hg:=Yq aw hh;rcases hs with⟨h1,hs⟩|⟨h1,hs⟩
    .have⟨aT,bE⟩:=J.refine hJ (.inl hg) h1;have⟨b,hb⟩:=bN jB d f x _ k ν K R φ E σ CW rd df fm hs bE hn hK bV jU;exact⟨b,λN hN=>.cond (t:=ab) aT bc⟩
    .have⟨aT,bE⟩:=J.refine hJ (.inl hg) h1;have⟨b,hb⟩:=bN jB d f y _ k ν K R φ E σ CW rd df fm hs bE hn hK bV jU;exact⟨b,λN hN=>.cond (t:=af) aT bc⟩
  .rename_i e hh;split at hs<;>try cases hs
   split at hs
   .cases hs
   .have hg:=Yq aw hh;rcases hs with⟨h1,hs⟩|⟨h1,hs⟩
    .have⟨aT,bE⟩:=J.refine hJ (.inr ⟨_,hg⟩) h1;have⟨b,hb⟩:=bN jB d f x _ k ν K R φ E σ CW rd df fm hs bE hn hK bV jU;exact⟨b,λN hN=>.cond (t:=ab) aT bc⟩
    .have⟨aT,bE⟩:=J.refine hJ (.inr ⟨_,hg⟩) h1;have⟨b,hb⟩:=bN jB d f y _ k ν K R φ E σ CW rd df fm hs bE hn hK bV jU;exact⟨b,λN hN=>.cond (t:=af) aT bc⟩
  .cases hs
 |block id x=>
  obtain⟨b,hb⟩:=bN jB d f x V _ ν K R φ E σ (λN ex e1 av=>CW N (match ex with|.exit i=>if i=id then .normal else .exit i|ex=>ex) e1 av) rd df fm hs hJ hn hK bV (by
   intro ex V' μ K' R' aV E' au x0 hf hx bu;cases ex with
   |normal=>obtain rfl:=hx;exact jU .normal V' μ K' R' aV E' au _ hf rfl bu
   |ret=>obtain rfl:=hx;exact jU .ret V' μ K' R' aV E' au _ hf rfl bu
   |cg t pv=>obtain⟨v,rfl,hv⟩:=hx;exact jU (.cg t pv) V' μ K' R' aV E' au _ hf ⟨v,rfl,hv⟩ bu
   |exit i=>
    obtain rfl:=hx;simp only at bu;split at bu
    .rename_i hh;have:=ay0 hh;subst this;simpa using jU .normal V' μ K' R' aV E' au _ hf rfl bu
    .have bA:i≠id:=by rintro rfl;simp_all
     simpa[bA]using jU (.exit i) V' μ K' R' aV E' au _ hf rfl bu)
  exact⟨b,λN hN=>.block (hb N hN)⟩
 |scope x=>
  have⟨b,hb⟩:=bN jB d f x V k ν K R φ E σ (λN ex e1 av=>(∀l,ex≠.goto l)/\CW N ex e1 av) rd df fm hs hJ hn hK bV (by
   intro ex V' μ K' R' aV E' au x0 hf hx bu;have⟨b,hb⟩:=jU ex V' μ K' R' aV E' au x0 hf hx bu;exact⟨b,λN hN=>⟨(hb N hN).1,hx.goto,(hb N hN).2⟩⟩)
  exact⟨b,λN hN=>.scope (hb N hN)⟩
 |loop x=>
  simp only[xK]at hs;split at hs
  .rename_i nn _;have⟨b,hb⟩:=Ro (rd:=rd) (df:=df) fm bN nn V ν K R φ E σ hs hJ hn hK bV jU;exact⟨b,λN hN=>.loop (hb N hN)⟩
  split at hs<;>try cases hs
  rename_i es eu hi
  obtain⟨_,hs⟩:True/\(aq.loop (ff es) _).sat P C Q K ν:=by
   split at hs
   .exact⟨trivial,hs⟩
   grind
  have⟨vs,h1,m,h2⟩:=hs;obtain⟨R2,fq,A7,_⟩:=U3 _ hJ;have⟨hlen,wI⟩:=Pj (td:=ν) fq aj ⟨[],by simp⟩ hi (LM h1);obtain⟨b,hb⟩:=Rn (rd:=rd) (df:=df) (CW:=CW) (E:=E) (bad:=λW=>.bad _ _ _ _ _ _ _ W.g W.l) hK fm bN (λ_ _ _ h=>h) bc (by rfl) (hn.trans A7.symm) aj m wI hlen (λ_ _=>rfl) rfl aj h2;exact⟨b,λN hN=>.loop (hb N hN)⟩
 |rangeFunc g params assign body=>
  simp only[xK]at hs;split at hs<;>try cases hs
  obtain rfl:=fm bc;split at hs<;>try cases hs
  rename_i F bs hg;exact acV (λCx=>NB Cx Q) hJ hn hK bV jU hg hs
 |_=>cases hs
theorem Vh(fR:P.follows .mixedOrders=ab)(hC:mK P C):∀n Cx Q,oQ Cx P C Q (exec P cfg n Cx)
 |0,_,_=>λ_ _ _ _ _ _ _ _ _ _ _ _ _ _ _ _ hs _ _ _ _ _=>hs.elim
 |n+1,_,_=>Xh fR hC (Vh fR hC n)
def Ka(fR:P.follows .mixedOrders=ab)(hC:mK P C)(n:Nat)(Cx:Cs):oQ Cx P C Q (exec P cfg n Cx):=Vh fR hC n Cx Q
def jM.vr1{V V1:SS}{R1:Rs}(h:jM P ν R φ V σ R1 V1){x:IV}{p:Bool×List (Cl SE)}(hx:vR (ay P ν) R φ V.l σ x p):vR (ay P ν) R1 φ V1.l σ x p:=by
 unfold vR at hx⊢;split
 .rename_i hp;rw[if_pos hp]at hx;obtain⟨xs,h1,h2⟩:=hx;exact⟨xs,h1,h2.mono λ_ _ cG=>h.Us cG⟩
 .rename_i hp;rw[if_neg hp]at hx;obtain⟨c,h1,h2⟩:=hx;exact⟨c,h1,h.Us h2⟩
theorem Yr:∀{vs:List (Bool×List (Cl SE))} {V V':SS} {R:Rs} {fr:Bool} {zs:List SE},J Cx (ay P ν) R φ V.g V.l E σ->vV.T9 V vs=aa (fr,zs,V')->
 ∃R',jM P ν R φ V σ R' V'/\J Cx (ay P ν) R' φ V'.g V'.l E σ/\∀xs,All2 (vR (ay P ν) R φ V.l σ) xs vs->∃ys,All2 (λ(z:SE) y=>z.den P ν=aa y) zs ys/\All2 (bx fr R' σ) xs ys
 |[],V,V',R,fr,zs,h,hr=>by
  simp only[vV.T9,ayO,aAt]at hr;obtain⟨rfl,rfl,rfl⟩:=hr;refine⟨R,.refl h,h,λxs hx=>?_⟩;cases xs with
  |nil=>exact⟨[],trivial,trivial⟩
  |cons=>exact hx.elim
 |(a,cs)::vs,V,V',R,fr,zs,h,hr=>by
  simp only[vV.T9]at hr;split at hr
  .rename_i f1 z1 V1 h1;split at hr
   .rename_i f2 ys2 V2 h2;obtain⟨R1,a1,a2,_,a3⟩:=AP h h1;obtain⟨R2,b1,b2,b3⟩:=Yr a2 h2
    have key:∀z,(a=ab->z=ff z1)->(a=af->z1=[z])->(f1||f2,z::ys2,V2)=(fr,zs,V')->∃R',jM P ν R φ V σ R' V'/\J Cx (ay P ν) R' φ V'.g V'.l E σ/\∀xs,All2 (vR (ay P ν) R φ V.l σ) xs ((a,cs)::vs)->∃ys,All2 (λ(z:SE) y=>z.den P ν=aa y) zs ys/\All2 (bx fr R' σ) xs ys:=by
     intro z vj Ie he;simp only[aAt]at he;obtain⟨rfl,rfl,rfl⟩:=he;refine⟨R2,a1.trans b1,b2,λxs hx=>?_⟩;cases xs with
     |nil=>exact hx.elim
     |cons x xs=>
      obtain⟨ys,d1,d2⟩:=b3 xs (hx.2.mono λ_ _ cG=>a1.vr1 cG);have yS:=hx.1;unfold vR at yS;cases a with
      |true=>
       simp only[if_true]at yS;obtain⟨us,rfl,h5⟩:=yS;obtain⟨ws,e1,e2,_⟩:=a3 us h5;refine⟨.agg ws::ys,⟨by rw[vj rfl];exact gH e1,d1⟩,⟨?_,d2.mono λ_ _ cG=>cG.wide (λh=>by simp[h])⟩⟩;exact .agg us ws e2.len λi c e g1 g2=>((e2.get g1 g2).mono b1.2.2.2.grow).wide (λh=>by simp[h])
      |false=>
       simp only[azi,if_false]at yS;obtain⟨c,hc,h5⟩:=yS;obtain⟨ws,e1,e2,_⟩:=a3 [x] (by rw[hc];exact⟨h5,trivial⟩);rw[Ie rfl]at e1;cases ws with
       |nil=>exact e1.elim
       |cons y ws=>
        exact⟨y::ys,⟨e1.1,d1⟩,⟨(e2.1.mono b1.2.2.2.grow).wide (λh=>by simp[h]),d2.mono λ_ _ cG=>cG.wide (λh=>by simp[h])⟩⟩
    cases a with
    |true=>
     simp only[ayO]at hr;exact key _ (λ_=>rfl) (λh=>by cases h) hr
    |false=>
     split at hr<;>try (cases hr;done)
     .exact absurd ‹af=ab› aw
     .simp only[ayO]at hr;exact key _ (λh=>by cases h) (λ_=>rfl) hr
   .cases hr
  .cases hr
def Vi{V':SS}{pv:PV SE}{fr:Bool}{z:SE}(h:J Cx (ay P ν) R φ V.g V.l E σ)(hr:vV V pv=aa (fr,z,V')){x:IV}(hx:VR (ay P ν) R φ V.l σ x pv):
 ∃R' y,z.den P ν=aa y/\bx fr R' σ x y:=by
 cases pv with
 |one c=>
  obtain⟨R',_,_,h3⟩:=Pb h hr (λ_ h=>by cases h);obtain⟨y,h4,h5⟩:=h3 x hx;exact⟨R',y,h4,h5⟩
 |ag cs=>
  obtain⟨R',_,_,h3⟩:=Pb h hr (λ_ h=>by cases h);obtain⟨y,h4,h5⟩:=h3 x hx;exact⟨R',y,h4,h5⟩
 |tu vs=>
  simp only[vV]at hr;split at hr
  .rename_i f zs V1 wK;simp only[ayO,aAt]at hr;obtain⟨rfl,rfl,rfl⟩:=hr;obtain⟨R',_,_,h3⟩:=Yr h wK;obtain⟨xs,rfl,s5⟩:=hx;obtain⟨ys,a,b⟩:=h3 xs s5;exact⟨R',.aF ys,by simp[SE.den,gH a],.aF xs ys b.len λi c e h1 h2=>b.get h1 h2⟩
  .cases hr
theorem It{args:List IV}{f:aq}(hp:∀v∈args,Pure v):∀{ts:List TypeId} {j:Nat},(zh P j ts f).sat P C Q K args->j+ts.length=args.length->f.sat P C Q K args/\All2 (VR (ay P args) R φ L σ) (args.drop j) (h_ P j ts)
 |[],j,hs,hl=>by
  simp at hl;rw[azf aj];exact⟨hs,trivial⟩
 |t::ts,j,hs,hl=>by
  simp at hl;have hj:j<args.length:=aj;have hd:(SE.var j).den P args=aa args[j]:=by simp[SE.den,hj]
  obtain⟨h1,h2,_⟩:=Il (R:=R) (φ:=φ) (L:=L) (σ:=σ) hd (hp _ (ayJ hj)) hs;obtain⟨h4,h5⟩:=It hp h1 aj;refine⟨h4,?_⟩;rw[ay5 hj];exact⟨h2,h5⟩
def ND{x z:IV}{fr:Bool}(h:aL z=ab)(hc:bx fr R σ x z):bx af R σ x z:=by
 cases z<;>simp only[aL]at h<;>try (cases h;done)
 rw[cD hc];exact .raw _
def eK.yL(fR:P.follows .mixedOrders=ab)(hC:mK P C){n:Nat}{new:Bool}{f:FuncId}{dv:aq}{args:List IV}{z:IV}(he:aI P cfg n new f=dv)(hl:(P.funcs[f]?).map (·.params.size)=aa args.length)(hp:∀x∈args,Pure x)
 (hs:dv.sat P C (·=z) [] args):eK P af new f args z:=by
 subst he;unfold aI at hs;split at hs<;>try exact hs.elim
 rename_i fn dk;split at hs<;>try exact hs.elim
 rename_i c hb;split at hs<;>try exact hs.elim
 rename_i hle;have aeP:fn.params.size<=fn.ntmps:=by simpa using hle
 rw[dk]at hl;simp only[azl,ayO]at hl;obtain⟨hs,bX⟩:=It (R:=λ_=>ah) (φ:=λ_=>ah) (L:=[]) (σ:=⟨0,.lf⟩) hp hs (by simpa using hl);have hlen:args.length<=fn.ntmps:=aj
 have hJ:J [] (ay P args) (λ_=>ah) (λ_=>ah) (setArgs 0 0 (h_ P 0 fn.params.toList)) [] (λ_=>eh args fn.ntmps) ⟨0,.lf⟩:=by
  refine⟨λd t pv hg=>?_,λk ob h=>(by simp at h),λk k' id h=>(by cases h),λk id h=>(by cases h),λid m h=>(by cases h),λid m cs aE mn h=>(by cases h),T.WF.lf,λid _=>rfl⟩;obtain⟨rfl,_,h3⟩:=mL (α:=IV) hg;rw[aBF]at bX;have ht:t<args.length:=by rw[bX.len];have:=(ayH.1 h3).1;simpa using this
  show VR _ _ _ _ _ ((eh args fn.ntmps).at t) pv;rw[(ft hlen).2 ht,ayG ht];exact bX.get (ayG ht) (by simpa using h3)
 obtain⟨b,Ay⟩:=Ka fR hC n [] af 0 f c ⟨setArgs 0 0 (h_ P 0 fn.params.toList),[],fn.params.size,0,fn.ntmps⟩ _ args [] _ _ _ _
  (λN ex e1 av=>(ex=.normal\/ex=.ret)/\av.n<=N/\∃v,dh P fn e1 av=aa v/\Can (!new) av v z) ah [] (λ_=>rfl) hs hJ hl.symm rfl (ft (t:=0) hlen).1 (by
   intro ex V' μ K' R' aV E' au x0 hf tb bu
   have main:∀kP,tE P 0 V' fn.results.toList=aa kP->(match vV V' (H6 kP)with|some (fr,z,_)=>aq.ret (if new&&fr then .rw z else z)|none=>.fail 142).sat P C (·=z) K' (args++μ)->∃b,∀N,b<=N->au.n<=N/\au.n<=N/\∃v,dh P fn (E' 0) au=aa v/\Can (!new) au v z:=by
    intro kP hr gX;obtain⟨vs,h1,h2⟩:=vm hf.hJ hr;have hv:=Pd h2;split at gX<;>try exact gX.elim
    rename_i fr e _ fm;obtain⟨R2,y,h3,h4⟩:=Vi hf.hJ fm hv;obtain⟨z',h5,rfl⟩:=gX;refine⟨au.n,λN hN=>⟨hN,hN,Iq vs,vn h1,?_⟩⟩;cases new with
    |false=>
     simp only[Bool.false_and,azi,if_false]at h5;rw[h3]at h5;cases h5;exact h4.cQ.can
    |true=>
     cases fr with
     |false=>
      simp only[Bool.and_false,azi,if_false]at h5;rw[h3]at h5;cases h5;exact h4.can
     |true=>
      simp only[Bool.and_self,if_true,SE.den,h3,ayK]at h5;split at h5
      .rename_i l6;cases h5;exact(ND l6 h4).can
      .cases h5
   cases ex with
   |exit i=>exact bu.elim
   |cg t pv=>exact bu.elim
   |normal=>
    obtain rfl:=tb;simp only at bu;split at bu
    .rename_i kP hr;obtain⟨b,hb⟩:=main kP hr bu;exact⟨b,λN hN=>⟨(hb N hN).1,.inl rfl,(hb N hN).2⟩⟩
    .exact bu.elim
   |ret=>
    obtain rfl:=tb;simp only at bu;split at bu
    .rename_i kP hr;obtain⟨b,hb⟩:=main kP hr bu;exact⟨b,λN hN=>⟨(hb N hN).1,.inr rfl,(hb N hN).2⟩⟩
    .exact bu.elim)
 exact eK.TT (fc.body (RW:=λv av=>Can (!new) av v z) dk hb hlen (Ay b (ayL _))) λv au h=>h
end
section
variable{Cx:Cs}
section run
variable(P:Program)(cfg:fe)
def AT(n s:Nat)(f:FuncId):aq:=
 match P.funcs[f]? with
 |some fn=>match fn.body,fn.params.toList with
  |some c,_::ts=>
   if azK fn.params.size fn.ntmps then
    zh P 1 ts<|exec P cfg n [] af 0 f c ⟨setArgs 0 0 (.one (.sr 0)::h_ P 1 ts),[.row s af af ab (.var 0)],fn.params.size,0,fn.ntmps⟩ λex V=>match ex with
     |.exit _=>.fail 141
     |.cg _ _=>.fail 146
     |_=>match tE P 0 V fn.results.toList with
      |some [.one (.sr k)]=>match V.l[k]? with
       |some (.row s' af af fr z)=>if ayQ s s' then .ret (if fr then .rws z else z)else .fail 146
       |_=>.fail 147
      |_=>.fail 148
   else .fail 143
  |_,_=>.fail 144
 |none=>.fail 145
end run
variable{P:Program}{N:Nat}{σ au:St}{R R':Rs}{φ aV:Ph}{E:Nat->Env}{ν:List IV}{cfg:fe}{self:nW}
variable{C:Cr}{Q:IV->Prop}{K:List (List IV->Prop)}{V:SS}{d f0:Nat}{L:List (LO SE)}{Γ:Gm SE}
theorem NF{xs args:List IV}{x z:IV}{f:aq}(hp:All2 j_ args xs):∀{ts:List TypeId} {j:Nat},(zh P (j+1) ts f).sat P C Q K (z::xs)->j+ts.length=xs.length->f.sat P C Q K (z::xs)/\All2 (VR (ay P (z::xs)) R φ L σ) (args.drop j) (h_ P (j+1) ts)
 |[],j,hs,hl=>by
  simp at hl;rw[azf (by have:=hp.len;omega)];exact⟨hs,trivial⟩
 |t::ts,j,hs,hl=>by
  simp at hl;have hj:j<xs.length:=aj;have oT:j<args.length:=by have:=hp.len;omega
  have hd:(SE.var (j+1)).den P (z::xs)=aa xs[j]:=by simp[SE.den,hj]
  obtain⟨h1,h2⟩:=GG (R:=R) (φ:=φ) (L:=L) (σ:=σ) hd (hp.get (ayG oT) (ayG hj)) hs;obtain⟨h4,h5⟩:=NF (x:=x) hp h1 aj;refine⟨h4,?_⟩;rw[ay5 oT];exact⟨h2,h5⟩
def Gz.yL(fR:P.follows .mixedOrders=ab)(hC:mK P C){n s:Nat}{f:FuncId}{dv:aq}{es aW xs:List IV}(he:AT P cfg n s f=dv)(hl:(P.funcs[f]?).map (·.params.size)=aa (xs.length+1))
 (hs:dv.sat P C (·=.tree s aW) [] (.tree s es::xs)):Gz P s f es xs aW:=by
 subst he;unfold AT at hs;split at hs<;>try exact hs.elim
 rename_i fn dk;split at hs<;>try exact hs.elim
 rename_i c t0 ts hb xo;split at hs<;>try exact hs.elim
 rename_i hle;have aeP:fn.params.size<=fn.ntmps:=by simpa using hle
 rw[dk]at hl;simp only[azl,ayO]at hl
 have bo:ts.length=xs.length:=by
  have:fn.params.toList.length=fn.params.size:=aw;rw[xo]at this;simp at this;omega
 intro R φ E σ x args mJ hX0 bF KW UR;have ef:args.length=xs.length:=bF.len;obtain⟨cw,pB,k1,k2,k3⟩:=mJ.obj 0 _ rfl;have Dk:aa (IV.tree s es)=aa (.tree s pB):=k1;cases Dk;obtain⟨gy,bX⟩:=NF (x:=x) (j:=0) (R:=R) (φ:=φ) (L:=[.row s af af ab (.var 0)]) (σ:=σ) bF hs aj;rw[aBF]at bX;have o_:(SE.var 0).den P (.tree s es::xs)=aa (.tree s es):=by simp[SE.den]
 have hX:c9 (ay P (.tree s es::xs)) R φ [.row s af af ab (.var 0)] σ x (.sr 0):=by
  obtain⟨s1,pA,zI,zZ,z1,jC,b1,b2,b3⟩:=hX0;have z8:aa (LO.row s af af af ())=aa (.row s1 pA zI zZ z1):=b1;cases z8;have xl:aa (IV.tree s es)=aa (.tree s jC):=b2;cases xl;exact⟨s,af,af,ab,.var 0,es,rfl,o_,b3⟩
 have NG:All2 (VR (ay P (.tree s es::xs)) R φ [.row s af af ab (.var 0)] σ) (x::args) (.one (.sr 0)::h_ P 1 ts):=⟨hX,bX⟩;have hlen:(x::args).length<=fn.ntmps:=by simp;omega
 have hJ:J [] (ay P (.tree s es::xs)) R φ (setArgs 0 0 (.one (.sr 0)::h_ P 1 ts)) [.row s af af ab (.var 0)] (λ_=>eh (x::args) fn.ntmps) σ:=by
  refine⟨λd t pv hg=>?_,λj ob hj=>?_,mJ.inj,λj id hj=>?_,mJ.qS,mJ.fits,mJ.wf,mJ.top⟩
  .obtain⟨rfl,_,h3⟩:=mL (α:=IV) hg;have ht:t<(x::args).length:=by rw[NG.len];have:=(ayH.1 h3).1;simpa using this
   show VR _ _ _ _ _ ((eh (x::args) fn.ntmps).at t) pv;rw[(ft hlen).2 ht,ayG ht];exact NG.get (ayG ht) (by simpa using h3)
  .cases j with
   |succ j=>simp at hj
   |zero=>
    simp at hj;subst hj;refine⟨cw,es,o_,k2,?_⟩;rcases k3 with⟨a,b⟩|⟨id,cs,aE,mn,a1,a2,a3,a4,a5,a6,a7⟩
    .exact .inl ⟨a,b⟩
    .exact .inr ⟨id,cs,aE,mn,a1,a2,a3,a4,a5,a6,λq u v hu hv=>(a7 q u v hu hv).wide (λh=>by cases h)⟩
  .have:=mJ.lt j id hj;simpa using this
 obtain⟨b,Ay⟩:=Ka fR hC n [] af 0 f c ⟨setArgs 0 0 (.one (.sr 0)::h_ P 1 ts),[.row s af af ab (.var 0)],fn.params.size,0,fn.ntmps⟩ _ (.tree s es::xs) [] _ _ _ _
  (λN ex e1 av=>(ex=.normal\/ex=.ret)/\av.n<=N/\∃v,dh P fn e1 av=aa v/\KW N v av) ah [] (λ_=>rfl) gy hJ (by simp;omega) rfl (ft (t:=0) hlen).1 (by
   intro ex V' μ K' R' aV E' au x0 hf tb bu
   have main:(match tE P 0 V' fn.results.toList with
    |some [.one (.sr k)]=>match V'.l[k]? with
     |some (.row s' af af fr z)=>if ayQ s s' then aq.ret (if fr then .rws z else z)else .fail 146
     |_=>.fail 147
    |_=>.fail 148).sat P C (·=IV.tree s aW) K' (IV.tree s es::xs++μ)->∃b,∀N,b<=N->au.n<=N/\au.n<=N/\∃v,dh P fn (E' 0) au=aa v/\KW N v au:=by
    intro gX;split at gX<;>try exact gX.elim
    rename_i k hr;obtain⟨vs,h1,h2⟩:=vm hf.hJ hr;split at gX<;>try exact gX.elim
    rename_i s' fr z hk;split at gX<;>try exact gX.elim
    rename_i me;have Gu:=ay0 me;subst Gu;obtain⟨z',h5,rfl⟩:=gX;obtain⟨v,rfl,hv⟩:=xQ h2;have j8:dh P fn (E' 0) au=aa v:=vn h1;obtain⟨m0,Rp,m1,m2,m3⟩:=hf.hJ.obj k _ hk;have Ys:z.den P (IV.tree s es::xs++μ)=aa (.tree s Rp):=m1
    have qc:Rp=aW/\(fr=ab->∀e∈Rp,∀c∈cellsOf e,aL c=ab):=by
     cases fr with
     |false=>
      simp only[azi,if_false]at h5;rw[Ys]at h5;cases h5;exact⟨rfl,λh=>by cases h⟩
     |true=>
      simp only[if_true]at h5;obtain⟨s1,jC,c1,c2,c3⟩:=Pm h5;rw[Ys]at c1;cases c1;cases c2;exact⟨rfl,λ_=>c3⟩
    obtain⟨rfl,l6⟩:=qc
    have avl:∀{u w:IV} {q:Nat},(flat Rp)[q]?=aa w->bx fr R' au u w->bx af R' au u w:=by
     intro u w q hw hc;cases fr with
     |false=>exact hc
     |true=>
      obtain⟨e,he,vC⟩:=List.mem_flatMap.1 (ayX hw);exact ND (l6 rfl e he w vC) hc
    obtain⟨b,hb⟩:=UR R' (λj=>if j=0 then aV k else ah) au v (by
     refine⟨λd t pv hg=>(by cases hg),λj ob hj=>?_,λj j' id h1 h2=>?_,λj id hj=>?_,hf.hJ.qS,hf.hJ.fits,hf.hJ.wf,hf.hJ.top⟩
     .cases j with
      |succ j=>simp at hj
      |zero=>
       simp at hj;subst hj;refine⟨m0,Rp,rfl,m2,?_⟩;rcases m3 with⟨a,b⟩|⟨id,cs,aE,mn,a1,a2,a3,a4,a5,a6,a7⟩
       .exact .inl ⟨by simp[a],b⟩
       .exact .inr ⟨id,cs,aE,mn,by simp[a1],a2,a3,a4,a5,a6,λq u w hu hw=>avl hw (a7 q u w hu hw)⟩
     .split at h1<;>try (cases h1;done)
      split at h2<;>try (cases h2;done)
      omega
     .split at hj<;>try (cases hj;done)
      rename_i US;subst US;exact⟨by simp,(hf.hJ.lt k id hj).2⟩) (by
     obtain⟨s1,pA,zI,zZ,z1,jC,b1,b2,b3⟩:=hv;rw[hk]at b1;cases b1;have xl:z.den P (IV.tree s es::xs++μ)=aa (.tree s jC):=b2;rw[Ys]at xl;cases xl;refine⟨s,af,af,af,(),Rp,rfl,rfl,?_⟩;rcases b3 with⟨c1,c2,c3⟩|⟨id,cs,aE,mn,cap,c1,c2,c3,c4,c5,c6⟩
     .exact .inl ⟨by simp[c1],c2,c3⟩
     .exact .inr ⟨id,cs,aE,mn,cap,by simp[c1],c2,c3,c4,c5,c6⟩)
    exact⟨max b au.n,λN hN=>⟨by omega,by omega,v,j8,hb N aj⟩⟩
   cases ex with
   |exit i=>exact bu.elim
   |cg t pv=>exact bu.elim
   |normal=>
    obtain rfl:=tb;obtain⟨b,hb⟩:=main bu;exact⟨b,λN hN=>⟨(hb N hN).1,.inl rfl,(hb N hN).2⟩⟩
   |ret=>
    obtain rfl:=tb;obtain⟨b,hb⟩:=main bu;exact⟨b,λN hN=>⟨(hb N hN).1,.inr rfl,(hb N hN).2⟩⟩)
 exact⟨b,λN hN=>fc.body (RW:=KW N) dk hb hlen (Ay N hN)⟩
end
section
variable{Cx:Cs}
section run
variable(P:Program)(cfg:fe)
def vp(n:Nat)(nm:Bool)(f:FuncId):aq:=
 match P.funcs[f]? with
 |some fn=>match fn.body with
  |some c=>
   if azK fn.params.size fn.ntmps&&Nat.blt 0 (eC P f)then
    zh P 0 fn.params.toList<|exec P cfg n [] af 0 f c ⟨setArgs 0 0 (h_ P 0 fn.params.toList),[],fn.params.size,0,fn.ntmps⟩ λex V=>match ex with
     |.exit _=>.fail 141
     |.cg _ _=>.fail 146
     |_=>match tE P 0 V fn.results.toList with
      |some [.one (.sr k)]=>match V.l[k]? with
       |some (.row s' af af _ z)=>if !nm&&ayQ (eC P f) s' then .ret (.rws z)else .fail 146
       |_=>.fail 147
      |some [.one (.nl ab s')]=>if ayQ (eC P f) s' then .ret (.tr s' .an)else .fail 146
      |_=>.fail 148
   else .fail 143
  |none=>.fail 144
 |none=>.fail 145
end run
variable{P:Program}{N:Nat}{σ au:St}{R R':Rs}{φ aV:Ph}{E:Nat->Env}{ν:List IV}{cfg:fe}{self:nW}
variable{C:Cr}{Q:IV->Prop}{K:List (List IV->Prop)}{V:SS}{d f0:Nat}{L:List (LO SE)}{Γ:Gm SE}
def ry.yL(fR:P.follows .mixedOrders=ab)(hC:mK P C){n:Nat}{nm:Bool}{f:FuncId}{dv:aq}{args es:List IV}(he:vp P cfg n nm f=dv)(hl:(P.funcs[f]?).map (·.params.size)=aa args.length)(hp:∀x∈args,Pure x)
 (bH:∀e∈es,(cellsOf e).length=eC P f)(bf:∀c∈flat es,(∃v,c=.raw v)/\ao c=ab)(bA:nm=af->es≠[])
 (hs:dv.sat P C (·=.tree (eC P f) es) [] args):ry P (eC P f) f args es:=by
 subst he;unfold vp at hs;split at hs<;>try exact hs.elim
 rename_i fn dk;split at hs<;>try exact hs.elim
 rename_i c hb;split at hs<;>try exact hs.elim
 rename_i hle;simp only[ayI]at hle;have aeP:fn.params.size<=fn.ntmps:=by simpa using hle.1
 have cw:0<eC P f:=by simpa using hle.2
 rw[dk]at hl;simp only[azl,ayO]at hl;obtain⟨hs,bX⟩:=It (R:=λ_=>ah) (φ:=λ_=>ah) (L:=[]) (σ:=⟨0,.lf⟩) hp hs (by simpa using hl);have hlen:args.length<=fn.ntmps:=aj
 have hJ:J [] (ay P args) (λ_=>ah) (λ_=>ah) (setArgs 0 0 (h_ P 0 fn.params.toList)) [] (λ_=>eh args fn.ntmps) ⟨0,.lf⟩:=by
  refine⟨λd t pv hg=>?_,λk ob h=>(by simp at h),λk k' id h=>(by cases h),λk id h=>(by cases h),λid m h=>(by cases h),λid m cs aE mn h=>(by cases h),T.WF.lf,λid _=>rfl⟩;obtain⟨rfl,_,h3⟩:=mL (α:=IV) hg;rw[aBF]at bX;have ht:t<args.length:=by rw[bX.len];have:=(ayH.1 h3).1;simpa using this
  show VR _ _ _ _ _ ((eh args fn.ntmps).at t) pv;rw[(ft hlen).2 ht,ayG ht];exact bX.get (ayG ht) (by simpa using h3)
 obtain⟨b,Ay⟩:=Ka fR hC n [] af 0 f c ⟨setArgs 0 0 (h_ P 0 fn.params.toList),[],fn.params.size,0,fn.ntmps⟩ _ args [] _ _ _ _
  (λN ex e1 av=>(ex=.normal\/ex=.ret)/\av.n<=N/\∃v,dh P fn e1 av=aa v/\aaT (eC P f) es v av) ah [] (λ_=>rfl) hs hJ hl.symm rfl (ft (t:=0) hlen).1 (by
   intro ex V' μ K' R' aV E' au x0 hf tb bu
   have main:(match tE P 0 V' fn.results.toList with
    |some [.one (.sr k)]=>match V'.l[k]? with
     |some (.row s' af af _ z)=>if !nm&&ayQ (eC P f) s' then aq.ret (.rws z)else .fail 146
     |_=>.fail 147
    |some [.one (.nl ab s')]=>if ayQ (eC P f) s' then .ret (.tr s' .an)else .fail 146
    |_=>.fail 148).sat P C (·=IV.tree (eC P f) es) K' (args++μ)->∃b,∀N,b<=N->au.n<=N/\au.n<=N/\∃v,dh P fn (E' 0) au=aa v/\aaT (eC P f) es v au:=by
    intro gX;split at gX<;>try exact gX.elim
    .rename_i k hr;obtain⟨vs,h1,h2⟩:=vm hf.hJ hr;split at gX<;>try exact gX.elim
     rename_i s' fr z hk;split at gX<;>try exact gX.elim
     rename_i me;simp only[ayI,Bool.not_eq_true']at me;obtain⟨eO,me⟩:=me;have Gu:=ay0 me;subst Gu;obtain⟨z',h5,rfl⟩:=gX;obtain⟨v,rfl,hv⟩:=xQ h2;have j8:dh P fn (E' 0) au=aa v:=vn h1;obtain⟨s1,jC,c1,c2,c3⟩:=Pm h5;cases c2;obtain⟨m0,Rp,m1,m2,m3⟩:=hf.hJ.obj k _ hk;have Ys:z.den P (args++μ)=aa (.tree (eC P f) Rp):=m1;rw[c1]at Ys;cases Ys;refine⟨au.n,λN hN=>⟨hN,hN,v,j8,.inr ⟨bA eO,?_⟩⟩⟩;obtain⟨s2,pA,zI,zZ,z1,mI,b1,b2,b3⟩:=hv;rw[hk]at b1;cases b1;have xl:z.den P (args++μ)=aa (.tree (eC P f) mI):=b2;rw[c1]at xl;cases xl;rcases b3 with⟨_,b4,_⟩|⟨id,cs,aE,mn,cap,d1,d2,d3,d4,d5,d6⟩
     .exact absurd (azb b4) (bA eO)
     .rcases m3 with⟨e1,_⟩|⟨bz,bK,lP,tT,e1,e2,e3,e4,e5,e6,e7⟩
      .rw[d1]at e1;cases e1
      .rw[d1]at e1;cases e1;rw[d2]at e2;cases e2;refine⟨id,cs,aE,mn,cap,d2,e3,by simpa using d3,e4,λq x hx=>?_⟩
       have hq:q<cs.length:=by
        have:=(ayH.1 hx).1;rw[zk bH]at this;omega
       obtain⟨u,rfl⟩:=(bf x (ayX hx)).1;have:=e7 q _ _ (ayG hq) hx;exact⟨u,rfl,by rw[ayG hq,cD this]⟩
    .rename_i s' hr;obtain⟨vs,h1,h2⟩:=vm hf.hJ hr;split at gX<;>try exact gX.elim
     rename_i me;have Gu:=ay0 me;obtain⟨z',h5,rfl⟩:=gX;obtain⟨v,rfl,hv⟩:=xQ h2;have j8:dh P fn (E' 0) au=aa v:=vn h1;obtain⟨_,rfl⟩:=hv;simp only[SE.den,ayK]at h5;split at h5<;>cases h5;exact⟨au.n,λN hN=>⟨hN,hN,_,j8,.inl ⟨rfl,rfl⟩⟩⟩
   cases ex with
   |exit i=>exact bu.elim
   |cg t pv=>exact bu.elim
   |normal=>
    obtain rfl:=tb;obtain⟨b,hb⟩:=main bu;exact⟨b,λN hN=>⟨(hb N hN).1,.inl rfl,(hb N hN).2⟩⟩
   |ret=>
    obtain rfl:=tb;obtain⟨b,hb⟩:=main bu;exact⟨b,λN hN=>⟨(hb N hN).1,.inr rfl,(hb N hN).2⟩⟩)
 exact ry.TT cw bH bf (fc.body (RW:=λv av=>aaT (eC P f) es v av) dk hb hlen (Ay b (ayL _))) λv au h=>h
end
section
def Pr:List Nat->Nat
 |[]=>0
 |n::ns=>n+Pr ns
def nI:Nat->List Nat->List (LO SE)
 |_,[]=>[]
 |j,n::ns=>.var ((List.range n).map λq=>.v (.var (j+q)))::nI (j+n) ns
def lF:Nat->List Nat->List (PV SE)
 |_,[]=>[]
 |k,n::ns=>.one (.pt k 0 n)::lF (k+1) ns
def EX(V:SS):Nat->List Nat->Option (List SE)
 |_,[]=>aa []
 |k,n::ns=>match V.l[k]?,cz 0 k V.g with
  |some (.var ds),aa (.one (.pt k' 0 n'))=>if ayQ k' k&&ayQ n' n&&ayQ ds.length n then(match Jv ds,EX V (k+1) ns with
    |some es,aa r=>aa (ff es::r)
    |_,_=>ah)else ah
  |_,_=>ah
section run
variable(P:Program)(cfg:fe)
def xS(n:Nat)(ns:List Nat)(f:FuncId):aq:=
 match P.funcs[f]? with
 |some fn=>match fn.body with
  |some c=>
   if azK fn.params.size fn.ntmps&&azK ns.length fn.params.size then
    zh P (Pr ns) (fn.params.toList.drop ns.length)<|exec P cfg n [] af 1 f c
     ⟨setArgs 1 0 (lF 0 ns++h_ P (Pr ns) (fn.params.toList.drop ns.length))++setArgs 0 0 (lF 0 ns),nI 0 ns,Pr ns+(fn.params.size- ns.length),0,fn.ntmps⟩ λex V=>match ex with
     |.exit _=>.fail 151
     |.cg _ _=>.fail 146
     |_=>match tE P 1 V fn.results.toList with
      |some dq=>match vV V (H6 dq),EX V 0 ns with
       |some (_,z,_),aa os=>.ret (.tp (.ac (.rw z) (ff os)))
       |_,_=>.fail 152
      |none=>.fail 153
   else .fail 154
  |none=>.fail 155
 |none=>.fail 156
end run
variable{P:Program}{N:Nat}{σ au:St}{R R':Rs}{φ aV:Ph}{E:Nat->Env}{ν:List IV}{cfg:fe}
variable{C:Cr}{Q:IV->Prop}{K:List (List IV->Prop)}{V:SS}{L:List (LO SE)}
theorem Rq:∀{ns:List Nat} {k:Nat} {os:List SE},EX V k ns=aa os->os.length=ns.length/\∀(i n:Nat),ns[i]?=aa n->
 ∃es:List SE,V.l[k+i]?=aa (.var (es.map .v))/\cz 0 (k+i) V.g=aa (.one (.pt (k+i) 0 n))/\es.length=n/\os[i]?=aa (ff es)
 |[],k,os,h=>by
  simp only[EX,ayO]at h;subst h;exact⟨rfl,λi n hi=>by simp at hi⟩
 |m::ns,k,os,h=>by
  simp only[EX]at h;split at h<;>try (cases h;done)
  rename_i ds k' n' hk hg;split at h<;>try (cases h;done)
  rename_i hc;simp only[ayI]at hc;have e1:=ay0 hc.1.1;have e2:=ay0 hc.1.2;have e3:=ay0 hc.2;subst e1 e2;split at h<;>try (cases h;done)
  rename_i es r m8 hr;simp only[ayO]at h;subst h;have CE:=LH m8;subst CE;obtain⟨h1,h2⟩:=Rq hr;refine⟨by simp[h1],λi n hi=>?_⟩;cases i with
  |zero=>
   simp at hi;subst hi;exact⟨es,hk,hg,by simpa using e3,rfl⟩
  |succ i=>
   obtain⟨aW,a1,a2,a3,a4⟩:=h2 i n (by simpa using hi);have:k'+1+i=k'+(i+1):=aj;rw[this]at a1 a2;exact⟨aW,a1,a2,a3,by simpa using a4⟩
theorem NH:∀{ns:List Nat} {k i:Nat} {pv:PV SE},(lF k ns)[i]?=aa pv->∃n,ns[i]?=aa n/\pv=.one (.pt (k+i) 0 n)
 |[],k,i,pv,h=>by simp[lF]at h
 |n::ns,k,0,pv,h=>by
  simp[lF]at h;exact⟨n,rfl,by simp[h]⟩
 |n::ns,k,i+1,pv,h=>by
  simp only[lF,aBz]at h;obtain⟨m,h1,h2⟩:=NH h;exact⟨m,by simpa using h1,by rw[h2];congr 2;omega⟩
theorem GK:∀{ns:List Nat} {k:Nat},(lF k ns).length=ns.length
 |[],_=>rfl
 |_::ns,k=>by simp[lF,GK (ns:=ns)]
theorem Vj:∀ins:List (List IV),Pr (ins.map azj)=ins.flatten.length
 |[]=>rfl
 |c::ins=>by simp[Pr,Vj ins]
theorem NI:∀{ins:List (List IV)} {pre post:List IV} {i:Nat} {o:LO SE},(nI pre.length (ins.map azj))[i]?=aa o->
 ∃(cs:List IV) (ds:List (Cl SE)),ins[i]?=aa cs/\o=.var ds/\AS (ay P (pre++ins.flatten++post)) ds cs
 |[],pre,post,i,o,h=>by simp[nI]at h
 |c::ins,pre,post,0,o,h=>by
  simp only[azr,nI,az8,ayO]at h;refine⟨c,_,rfl,h.symm,.mk aw λq d u hd hu=>?_⟩;have hq:=(ayH.1 hu).1;rw[ay1,List.getElem?_range hq]at hd;simp only[azl,ayO]at hd;subst hd;refine⟨_,rfl,?_⟩;show(SE.var _).den P _=_;simp only[SE.den];rw[ay3,aze aj,aA9,ay3,ayZ aj];rw[show pre.length+q- pre.length=q by omega];exact hu
 |c::ins,pre,post,i+1,o,h=>by
  simp only[azr,nI,aBz]at h;have hl:pre.length+c.length=(pre++c).length:=aw;rw[hl]at h;obtain⟨cs,ds,h1,h2,h3⟩:=NI (pre:=pre++c) (post:=post) h;refine⟨cs,ds,by simpa using h1,h2,?_⟩;have:pre++c++ins.flatten++post=pre++(c::ins).flatten++post:=aw;rw[<-this];exact h3
theorem Vk{α:Type}{d t:Nat}{pv:PV α}:∀{a b:List (Nat×Nat×PV α)},cz d t (a++b)=aa pv->cz d t a=aa pv\/cz d t b=aa pv
 |[],b,h=>.inr h
 |(d',t',p)::a,b,h=>by
  simp only[azO,cz]at h⊢;split at h
  .rename_i hc;rw[if_pos hc];exact .inl h
  .rename_i hc;rw[if_neg hc];exact Vk h
theorem NJ{xs args pre:List IV}{f:aq}(hp:All2 j_ args xs):∀{ts:List TypeId} {j:Nat},(zh P (pre.length+j) ts f).sat P C Q K (pre++xs)->j+ts.length=xs.length->f.sat P C Q K (pre++xs)/\All2 (VR (ay P (pre++xs)) R φ L σ) (args.drop j) (h_ P (pre.length+j) ts)
 |[],j,hs,hl=>by
  simp at hl;rw[azf (by have:=hp.len;omega)];exact⟨hs,trivial⟩
 |t::ts,j,hs,hl=>by
  simp at hl;have hj:j<xs.length:=aj;have oT:j<args.length:=by have:=hp.len;omega
  have hd:(SE.var (pre.length+j)).den P (pre++xs)=aa xs[j]:=by simp[SE.den,hj]
  obtain⟨h1,h2⟩:=GG (R:=R) (φ:=φ) (L:=L) (σ:=σ) hd (hp.get (ayG oT) (ayG hj)) hs;obtain⟨h4,h5⟩:=NJ (j:=j+1) hp h1 aj;refine⟨h4,?_⟩;rw[ay5 oT];exact⟨h2,h5⟩
variable{Cx:Cs}
theorem Az:∀{ns:List Nat} {j:Nat},(nI j ns).length=ns.length
 |[],_=>rfl
 |_::ns,j=>by simp[nI,Az (ns:=ns)]
def Xi{x z:IV}{fr:Bool}(h:aL z=ab)(hc:bx fr R σ x z):j_ x z:=by
 cases z<;>simp only[aL]at h<;>try (cases h;done)
 rw[cD hc];exact .raw _
def Vl{ins:List (List IV)}{ps:List IV}{ev:SE->Option IV}(hP:Ik φ ins ps)(hL:∀(i:Nat) (cs:List IV),ins[i]?=aa cs->∃ds:List (Cl SE),L[i]?=aa (LO.var ds)):
 All2 (VR ev R φ L σ) ps (lF 0 (ins.map azj)):=by
 refine .mk (by rw[GK,azq,hP.1]) λi p pv hp s_=>?_;obtain⟨n,h1,rfl⟩:=NH s_;rw[ay1]at h1;obtain⟨cs,bH,rfl⟩:=ayR.1 h1;obtain⟨id,h2,rfl⟩:=hP.2 i cs p bH hp;obtain⟨ds,CE⟩:=hL i cs bH;rw[aAn];exact⟨id,ds,h2,CE,rfl⟩
def GA.yL(fR:P.follows .mixedOrders=ab)(hC:mK P C){n:Nat}{f:FuncId}{dv:aq}{ins outs:List (List IV)}{xs:List IV}{z:IV}(he:xS P cfg n (ins.map azj) f=dv)
 (hl:(P.funcs[f]?).map (·.params.size)=aa (ins.length+xs.length))(hs:dv.sat P C (·=.aF (z::outs.map .agg)) [] (ins.flatten++xs)):GA P f ins xs outs z:=by
 subst he;unfold xS at hs;split at hs<;>try exact hs.elim
 rename_i fn dk;split at hs<;>try exact hs.elim
 rename_i c hb;split at hs<;>try exact hs.elim
 rename_i hle;simp only[ayI]at hle;have ON:fn.params.size<=fn.ntmps:=by simpa using hle.1
 rw[dk]at hl;simp only[azl,ayO]at hl;have Kn:(ins.map azj).length=ins.length:=aw;have af4:=Vj ins;intro R φ E σ ps args mJ hP bF KW UR;have ef:args.length=xs.length:=bF.len;have Iu:(fn.params.toList.drop (ins.map azj).length).length=xs.length:=by simp;omega
 have gd:ps.length=ins.length:=hP.1;rw[af4]at hs
 have hLV:∀(i:Nat) (cs:List IV),ins[i]?=aa cs->∃ds:List (Cl SE),(nI 0 (ins.map azj))[i]?=aa (LO.var ds)/\AS (ay P (ins.flatten++xs)) ds cs:=λi cs hi=>by
  have ak:=(ayH.1 hi).1;have gB:i<(nI 0 (ins.map azj)).length:=by rw[Az];simpa using ak
  have hg:=ayG gB;obtain⟨bK,ds,h1,h2,h3⟩:=NI (P:=P) (pre:=[]) (post:=xs) hg;rw[hi]at h1;cases h1;exact⟨ds,by rw[hg,h2],by simpa using h3⟩
 obtain⟨gy,bX⟩:=NJ (j:=0) (pre:=ins.flatten) (R:=R) (φ:=φ) (L:=nI 0 (ins.map azj)) (σ:=σ) bF (by rw[aD8];exact hs) (by rw[aAn];exact Iu);rw[aBF,aD8]at bX
 have NG:All2 (VR (ay P (ins.flatten++xs)) R φ (nI 0 (ins.map azj)) σ) (ps++args) (lF 0 (ins.map azj)++h_ P ins.flatten.length (fn.params.toList.drop (ins.map azj).length)):=
  All2.app (Vl hP λi cs hi=>by obtain⟨ds,h1,_⟩:=hLV i cs hi;exact⟨ds,h1⟩) bX
 have hlen:(ps++args).length<=fn.ntmps:=by simp;omega
 let E1:Nat->Env:=λj=>if j=0 then eh ps ps.length else eh (ps++args) fn.ntmps
 have hJ:J [] (ay P (ins.flatten++xs)) R φ (setArgs 1 0 (lF 0 (ins.map azj)++h_ P ins.flatten.length (fn.params.toList.drop (ins.map azj).length))++setArgs 0 0 (lF 0 (ins.map azj))) (nI 0 (ins.map azj)) E1 σ:=by
  refine⟨λd t pv hg=>?_,λj ob hj=>?_,mJ.inj,λj id hj=>?_,mJ.qS,mJ.fits,mJ.wf,mJ.top⟩
  .rcases Vk hg with hg|hg
   .obtain⟨rfl,_,h3⟩:=mL (α:=IV) hg;have ht:t<(ps++args).length:=by rw[NG.len];have:=(ayH.1 h3).1;simpa using this
    show VR _ _ _ _ _ ((eh (ps++args) fn.ntmps).at t) pv;rw[(ft hlen).2 ht,ayG ht];exact NG.get (ayG ht) (by simpa using h3)
   .obtain⟨rfl,_,h3⟩:=mL (α:=IV) hg;have KF:(lF 0 (ins.map azj))[t]?=aa pv:=by simpa using h3
    have ht:t<ps.length:=by have:=(ayH.1 KF).1;rw[GK]at this;simp at this;omega
    show VR _ _ _ _ _ ((eh ps ps.length).at t) pv;rw[(ft (ayL _)).2 ht,ayG ht];exact(Vl hP λi cs hi=>by obtain⟨ds,h1,_⟩:=hLV i cs hi;exact⟨ds,h1⟩).get (ayG ht) KF
  .have ak:j<ins.length:=by have:=(ayH.1 hj).1;rw[Az]at this;simpa using this
   have bH:=ayG ak;obtain⟨ds,h1,h2⟩:=hLV j _ bH;rw[hj]at h1;cases h1;have eW:(aaR ins)[j]?=aa (.var (ins[j].map .v)):=by rw[ay1,bH];rfl
   obtain⟨id,cW,o1,o2,o3,o4⟩:=mJ.obj j _ eW;refine⟨id,cW,o1,o2,o3,.mk (by rw[o4.len,azq,h2.len]) λq x d hx hd=>?_⟩;have hq:q<ins[j].length:=by rw[<-h2.len];exact(ayH.1 hd).1
   obtain⟨e,rfl,he⟩:=h2.get hd (ayG hq);have hcq:(ins[j].map Cl.v)[q]?=aa (.v ins[j][q]):=by rw[ay1,ayG hq];rfl
   obtain⟨y,y1,y2,y3⟩:=o4.get hx hcq;cases y1;exact⟨_,he,y2,y3⟩
  .have:=mJ.lt j id hj;exact⟨by rw[Az];simpa using this.1,this.2⟩
 obtain⟨b,Ay⟩:=Ka fR hC n [] af 1 f c ⟨setArgs 1 0 (lF 0 (ins.map azj)++h_ P ins.flatten.length (fn.params.toList.drop (ins.map azj).length))++setArgs 0 0 (lF 0 (ins.map azj)),nI 0 (ins.map azj),ins.flatten.length+(fn.params.size-(ins.map azj).length),0,fn.ntmps⟩ _ (ins.flatten++xs) [] R φ E1 σ
  (λN ex e1 av=>(ex=.normal\/ex=.ret)/\av.n<=N/\∃v,dh P fn e1 av=aa v/\KW N v av) ah [] (λ_=>rfl) gy hJ (by simp;omega) rfl (ft (t:=0) hlen).1 (by
   intro ex V' μ K' R' aV E' au x0 hf tb bu
   have main:∀kP,tE P 1 V' fn.results.toList=aa kP->(match vV V' (H6 kP),EX V' 0 (ins.map azj)with
    |some (_,z,_),aa os=>aq.ret (.tp (.ac (.rw z) (ff os)))
    |_,_=>.fail 152).sat P C (·=IV.aF (z::outs.map IV.agg)) K' (ins.flatten++xs++μ)->∃b,∀N,b<=N->au.n<=N/\au.n<=N/\∃v,dh P fn (E' 1) au=aa v/\KW N v au:=by
    intro kP hr gX;obtain⟨vs,h1,h2⟩:=vm hf.hJ hr;have hv:=Pd h2;split at gX<;>try exact gX.elim
    rename_i fr e _ os fm u6;obtain⟨R2,y,h3,h4⟩:=Vi hf.hJ fm hv;obtain⟨w,h5,rfl⟩:=gX;simp only[SE.den,h3,ayK]at h5;obtain⟨cs,h6,h7⟩:=ay4.1 h5;obtain⟨y',h8,h6⟩:=ay4.1 h6;obtain⟨os',h9,h6⟩:=ay4.1 h6;obtain⟨ys,rfl,vl⟩:=Po h9;split at h8<;>try (cases h8;done)
    rename_i l6;cases h8;cases h6;simp only[ayO,IV.aF.injEq,aBb]at h7;obtain⟨rfl,rfl⟩:=h7;obtain⟨Q7,ho2⟩:=Rq u6;have yW:outs.length=ins.length:=by have:=vl.len;rw[Q7]at this;simp at this;omega
    have ah2:∀(i:Nat) (cs:List IV),outs[i]?=aa cs->∃es:List SE,V'.l[i]?=aa (.var (es.map .v))/\All2 (λ(z:SE) y=>z.den P (ins.flatten++xs++μ)=aa y) es cs/\∃id,aV i=aa id/\ps[i]?=aa (.ptr id 0 0 cs.length):=λi cs hi=>by
     have ak:=(ayH.1 hi).1;have gB:i<ins.length:=aj;obtain⟨es,a1,a2,a3,a4⟩:=ho2 i _ (by rw[ay1,ayG gB];rfl);rw[aAn]at a1 a2;have hiy:(outs.map IV.agg)[i]?=aa (.agg cs):=by rw[ay1,hi];rfl
     have hd:=vl.get a4 hiy;obtain⟨us,yX,amt⟩:=Po hd;cases yX;have Km:=hf.hJ.slot 0 i _ a2;obtain⟨id,ds,s1,s2,s3⟩:=Km;rw[hf.hE 0 aj]at s3;have HW:i<ps.length:=aj
     have:(E1 0).at i=ps[i]:=by
      show(eh ps ps.length).at i=_;rw[(ft (ayL _)).2 HW,ayG HW];rfl
     rw[this]at s3;refine⟨es,a1,amt,id,s1,?_⟩;rw[ayG HW,s3,<-amt.len,a3]
    obtain⟨b,hb⟩:=UR (λ_=>ah) (λj=>if j<outs.length then aV j else ah) au (Iq vs) (by
     refine⟨λd t pv hg=>(by cases hg),λj ob hj=>?_,λj j' id h1 h2=>?_,λj id hj=>?_,λid m hm=>(by cases hm),λid m cs aE mn hm=>(by cases hm),hf.hJ.wf,hf.hJ.top⟩
     .rw[ay1]at hj;obtain⟨cs,bH,rfl⟩:=ayR.1 hj;have ak:=(ayH.1 bH).1;obtain⟨es,a1,a2,id,a3,_⟩:=ah2 j cs bH;obtain⟨bz,cW,o1,o2,o3,o4⟩:=hf.hJ.obj j _ a1;refine⟨bz,cW,by simp[ak,o1],rfl,o3,.mk (by rw[o4.len,azq,azq,a2.len]) λq x c hx hc=>?_⟩;rw[ay1]at hc;obtain⟨u,hu,rfl⟩:=ayR.1 hc;have hq:q<es.length:=by rw[a2.len];exact(ayH.1 hu).1
      have hcq:(es.map Cl.v)[q]?=aa (.v es[q]):=by rw[ay1,ayG hq];rfl
      obtain⟨y,y1,y2,y3⟩:=o4.get hx hcq;have Q9:es[q].den P (ins.flatten++xs++μ)=aa y:=y1;rw[a2.get (ayG hq) hu]at Q9;cases Q9;exact⟨u,rfl,y2,y3⟩
     .split at h1<;>try (cases h1;done)
      split at h2<;>try (cases h2;done)
      exact hf.hJ.inj j j' id h1 h2
     .split at hj<;>try (cases hj;done)
      rename_i ak
      exact⟨by simpa using ak,(hf.hJ.lt j id hj).2⟩) ⟨by omega,λi cs p hi hp=>by
       have ak:=(ayH.1 hi).1;obtain⟨_,_,_,id,a3,a4⟩:=ah2 i cs hi;rw[hp]at a4;cases a4;exact⟨id,by simp[ak,a3],rfl⟩⟩ (Xi l6 h4)
    exact⟨max b au.n,λN hN=>⟨by omega,by omega,Iq vs,vn h1,hb N aj⟩⟩
   cases ex with
   |exit i=>exact bu.elim
   |cg t pv=>exact bu.elim
   |normal=>
    obtain rfl:=tb;simp only at bu;split at bu
    .rename_i kP hr;obtain⟨b,hb⟩:=main kP hr bu;exact⟨b,λN hN=>⟨(hb N hN).1,.inl rfl,(hb N hN).2⟩⟩
    .exact bu.elim
   |ret=>
    obtain rfl:=tb;simp only at bu;split at bu
    .rename_i kP hr;obtain⟨b,hb⟩:=main kP hr bu;exact⟨b,λN hN=>⟨(hb N hN).1,.inr rfl,(hb N hN).2⟩⟩
    .exact bu.elim)
 exact⟨b,λN hN=>(fc.body (RW:=KW N) dk hb hlen (Ay N hN))⟩
end
end Go.Ev
namespace Go.Proofs.YtabefplkfkfdfaaGreat
open Go Go.Ev
def Vm:List Nat:=[256,203,160,91,216,175,240,266,11,15,31,24,25,7,69,8,5,13,14,257,72,26,71,137,70,139,210,225,145,183,75,76,111,65,112,136,186,140,184,248,224,211,170,138,249,185,9,28,27,143,77,142,141,74,144,73,146,78,18,39,16,82,44,150,188,189,29,79,80,149,187,147,10,148,30,38,104,83,84,81,168,103,62,108,42,169,107,106,45,64,63,135,110,46,66,21,12,20,23,105,40,43,41,113,171,215,174,161,182,52,222,123,181,223,48,98,97,116,115,268,192,154,227,87,33,51,212,94,47,114,32,85,155,233,199,101,50,49,117,164,230,194,166,204,202,99,86,95,93,156,162,280]
def amu:List Nat:=Vm.filter (·!=91)
def Vn:List Nat:=[34,35,36,37,89,100,109,151,190,234]
def Vo:List Nat:=[235,236,237,238,239,241,242]
def aaZ:List Nat:=[185,247,209,173000151,500195,500196,500040,500041,500043,500082,500140,256]
def kC(l:List Hint):fe:=⟨Vm,Vn,Vo,l++[⟨999997,0,0,[],[],[],[]⟩,⟨999999,0,0,[],[],[],[]⟩],aaZ⟩
def ah3(l:List Hint):fe:=⟨amu,Vn,Vo,l++[⟨999997,0,0,[],[],[],[]⟩,⟨999999,0,0,[],[],[],[]⟩],aaZ⟩
def nf(l:List Hint):fe:=⟨Vm++[17,19,53,54,55,56,57,58,59,60,61,126,127,128,129,130,131,132,133,134],Vn,Vo,l++[⟨999997,0,0,[],[],[],[]⟩,⟨999999,0,0,[],[],[],[]⟩],aaZ⟩
def aa0:aq:=
 (lr yB 8 yB 4 CT 8 4 9 (nX 3 gk 8 (Bw (rW 3 10) .neq 28 (m4 9 9 9) (m4 10 10 10) bC (kb 4 CT 8 4 11 (gG 17 11 11 11 11 (wq uo .neq uo bC (oO 8)))))) (eH yB (uy 5 yB) (yq 4 (iC (uy 5 yB)))))
def ah4:aq:=
 (jq F5 (.len (wB 3)) 4 (.len (wB 3)) (kb 5 (wB 3) 4 5 6 (qH 16 (As oN 6 0 (gE 6)) (iU gk 7 (iu (lW 6) .neq yB (lW 6) bC aa0)))) (sQ 18 (eZ 6 (Bt ir (Lx .eql 3 5 ir) (fy 19 (gR (wB 3) (ux 3) (CO 3 2)) (wq gk .eql gk (qH 14 .an (.nr iW)) bC)) bC))))
def cr4:aq:=
 (yI (sQ 7 (gQ bR bR gF (sQ 9 (.aC (nC 2) (wq (rj 2) .neq (rj 2) gF (sQ 15 (.aC (.mq 3 CZ) (wq J8 .neq J8 bC ah4)))))))))
def avm:aI ayF (nf [⟨0,4,11,[(0,(7,0)),(0,(8,0))],[],[],[]⟩,⟨0,4,18,[(0,(11,0))],[],[],[]⟩]) 400 af 4=cr4:=by kernel_rfl
def acZ:aq:=
 (jq J5 oM 4 oM (kb 3 cA 4 3 6 (lX 6 dp (nz 6) 6 7 (fI 39 7 0 7 1 7 2 7 3 7 4 7 5 (eZ 8 (kb 3 cA 4 3 9 (o7 2 iW Gj (pQ 2 10 9 (nz 10) bR (mT (jm 10) 3 (jm 10) bJ (q_ 3 cA 4 3 11 (.rw (nz 11)) (M0 fz CP (rX 3 24 cT (tI 3 (m4 11 11 11)) (F4 12)))) CY) CY))))))) JQ)
def amv:aq:=
 (rp 2 (sO (sQ 18 (eZ 3 acZ))))
def ary:aI ayF (nf [⟨0,16,4,[(0,(7,0)),(0,(9,0))],[(1,0)],[],[]⟩]) 400 af 16=amv:=by kernel_rfl
def ac0:aq:=
 (lr l5 3 l5 7 mY 3 7 4 (aao 55 4 0 4 1 4 2 4 3 (mG 4 4 4 5 (rV 4 6)) (lU cL cL 2 jK)) (gG 56 0 0 0 0 (lU da da 18 (gG 57 0 0 0 0 (lU cL cL 18 (gG 58 0 0 0 0 (lU c_ c_ 18 qW)))))))
def amw:aq:=
 (jL 4 (qI 3 .gtr 3 3 200 Aq (fy 53 fJ (lU bR bR 2 (fy 54 dp (lU bJ bJ 2 ac0))))))
def arz:aI ayF (nf [⟨0,17,6,[(0,(3,0))],[],[],[]⟩]) 400 af 17=amw:=by kernel_rfl
def ac1:aq:=
 (.loop (q0 5) (kb 5 fJ 4 5 8 (Bt (lW 8) (vZ 3 6 (lW 8)) (.nt (Q0 .eql 38 7 0) (kb 5 fJ 4 5 9 (kb 5 fJ 4 5 10 (kb 4 (ny 10) 6 4 11 (qZ 61 (mG 0 0 0 1 jl) (wh 9 9 9 9 (iC (rV 9 4))) (wA 11 11 11 11) (eZ 12 (zG 2 6 (iC uo))))))) (jo 4 7)) (jo 4 7))))
def ac2:aq:=
 (jq (FU cA) pS 4 pS (.nt (Q0 .eql 38 5 0) ac1 JQ) JQ)
def amx:aq:=
 (.loop (q0 4) (kb 5 fJ 3 5 7 (Bt (lW 7) (vZ 3 5 (lW 7)) (.nt (Q0 .eql 38 6 0) (kb 5 fJ 3 5 8 (kb 5 fJ 3 5 9 (kb 4 (ny 9) 5 4 10 (qZ 61 (mG 0 0 0 1 jl) (wh 8 8 8 8 (iC (rV 8 4))) (wA 10 10 10 10) (eZ 11 (zG 2 5 (iC mX))))))) (jo 3 6)) (jo 3 6))))
def amy:aq:=
 (jq (FU bJ) pS 3 pS (.nt (Q0 .eql 38 4 0) amx F2) F2)
def ac3:aq:=
 (lr pS 1 pS 5 fJ 1 5 2 (nA wm wm 160 Aq oK) (fy 59 dp (aam bJ .eql 38 bJ 0 (yA 60 fJ 3 ac2) amy)))
def amz:aq:=
 (yo 3 0 (pM .lss 2 0) Gp (mE .gtr 0 2 40 Gp (qI 0 .gtr 3 0 30 Aq (qI 1 .gtr 3 1 480 Aq ac3))))
def arA:aI ayF (nf [⟨0,19,14,[(0,(4,0)),(0,(5,0))],[],[],[]⟩,⟨0,19,17,[(0,(4,0)),(0,(6,0))],[],[],[]⟩,⟨0,19,6,[(0,(3,0))],[],[],[]⟩]) 400 af 19=amz:=by kernel_rfl
def BG:aq:=
 (yo 7 0 (Ap 0 2) (JP 1 (JP 2 (yD 126 (mG 0 3 0 4 (DZ 5)) (M3 (JV 6))))) (xL 0 0 9 (JP 1 (JP 2 (yD 127 (mG 0 3 0 4 (DZ 5)) (M3 (JV 6))))) (fy 128 (mG 0 3 0 4 (DZ 5)) (iE bR bR (jr 0 1 (Dc 54 dp (CM 2 0 (qU .lss 2 6 (qZ 129 q8 jn jn (.nr cA))))) 0 3 (Dc 54 dp (CM 2 0 (qZ 129 q8 bj (.i 6) (.nr cA)))) (JH 6 6 0 (jr 0 4 (Dc 54 dp (aas 54 jl cA (Gi .neq dp jl))) 0 5 (Dc 53 dp (CM 2 1 (.nr (pM .leq 2 4)))) (jr 0 8 (Dc 53 dp (CM 2 1 (.nr (pM .leq 2 4)))) 0 6 (Dc 54 dp (.nr (Ap 2 0))) (jr 0 7 (JP 1 (.nr (Ap 2 0))) 0 10 (Dc 53 dp (CM 2 0 (.nr (pM .leq 2 1048576)))) bC)))))))))
def arB:aI ayF (nf []) 400 af 55=BG:=by kernel_rfl
def Yt:aq:=
 (pN cE 3 cE (sN 5 3 (pQ 5 4 9 wo bR (sN 5 3 (pQ 5 5 3 C7 bJ gF jK)) jK)) bC)
def ah5:aq:=
 (JO Yt)
def amA:aI ayF (nf [⟨0,133,2,[(0,(7,0))],[],[],[]⟩]) 400 af 133=ah5:=by kernel_rfl
def ac4:aq:=
 (pN wm 4 wm (nX 1 wi 4 (yF cL cL ur (nX 1 wi 4 (wz c_ c_ mW ur (.nt (mU .gtr 4 0) (nX 1 wi 4 (eH gk (yJ 4) (o7 1 wi (yJ 4) (iu iW .leq gk iW ur (oO 4))))) (oO 4)))))) oK)
def ac5:aq:=
 (lr cE 1 cE 3 bp 1 3 2 (fy 26 pO (lU cA cA 7 (mE .lss 2 1 0 C5 (mE .gtr 2 1 6 C5 ac4)))) qW)
def amB:aq:=
 (yw ac5)
def arC:aI ayF (nf [⟨0,59,2,[(0,(3,0))],[],[],[]⟩,⟨0,59,10,[(0,(5,0))],[],[],[]⟩]) 400 af 59=amB:=by kernel_rfl
def Yu:aq:=
 (pN cE 3 cE (sN 7 3 (lV 7 4 .eql 4 0 4 (tH 3 mZ bR (tH 3 yx bJ gF (tH 3 mZ bJ (tH 3 yx bR gF jK) jK)) (tH 3 mZ bJ (tH 3 yx bR gF jK) jK)) jK)) bC)
def ah6:aq:=
 (JO Yu)
def amC:aI ayF (nf [⟨0,134,2,[(0,(7,0))],[],[],[]⟩]) 400 af 134=ah6:=by kernel_rfl
def ac6:aq:=
 (pN sK 7 sK (mT (Dd 3 eo) 3 (.lk 3 cT eo 0) (gE 6) (wz (Dd 3 eo) CT (.lk 3 cT eo 2) C5 (oO 7)) (oO 7)) CY)
def ac7:aq:=
 (FR iY 3 7 eg (.aC (Dd 3 eg) (mT (Dd 3 eo) 9 (.lk 3 cT eg 1) (.lk 3 cT eo 1) (.aC (Dd 3 eg) (mT (Dd 3 eo) 3 (.lk 3 cT eg 2) (.lk 3 cT eo 2) (eH (Dd 3 eg) (Dd 3 eo) (jG 134 (gR (Gf 2) (.lk 3 cT eg 0) (.lk 3 cT eo 0)) (lU iW iW 18 (uP 2 7)))) (uP 2 7))) (uP 2 7))) (oO 6))
def ac8:aq:=
 (pN sK 6 sK ac7 qW)
def ac9:aq:=
 (jq (FU (tI 3 (mG 2 1 1 0 uw))) J1 4 J1 (nX 7 (Gf 2) 4 (lV 7 6 .eql 6 0 3 (wz eU CT eU Gp (o7 3 dp CT (lS 3 7 (Bu 6 6) (iu (lW 7) .neq (Bu 6 6) (lW 7) C5 (M0 (gE 6) (nz 7) (lT (gE 7) (rX 3 32 cT (tI 3 (mG 6 1 7 0 (gE 7))) (F4 8)))))))) (jr 6 1 ac6 6 9 (xL 6 3 0 (.aC (Bu 6 5) (qH 133 (mG 0 0 6 4 (Bu 6 5)) (lU gk gk 7 CY))) CY) CY))) ac8)
def amD:aq:=
 (lS 3 0 (rW 5 1) (Lw 4 2 (gG 17 2 2 2 2 (uz cA 38 cA 0 (.ret cA) (aav .geq pO Gp (M0 mW yy (lT uw ac9)))))))
def arD:aI ayF (nf [⟨0,61,32,[(0,(14,0))],[],[],[]⟩,⟨0,61,29,[(0,(13,0))],[],[],[]⟩,⟨0,61,21,[(0,(12,0))],[],[],[]⟩,⟨0,61,8,[(0,(9,0))],[(3,0)],[(0,34)],[]⟩]) 400 af 61=amD:=by kernel_rfl
def ah7:aq:=
 (jL 3 (yD 76 (mG 0 0 0 1 jl) (.nr (pM .lss 0 5))))
def amE:aI ayF (nf []) 400 af 127=ah7:=by kernel_rfl
def Yv:aq:=
 (FR iY 3 2 bR (qH 131 (o8 bp 2) (iE cA cA uh)) gF)
def ah8:aq:=
 (sJ Yv)
def amF:aI ayF (nf [⟨0,132,2,[(0,(5,0))],[],[],[]⟩]) 400 af 132=ah8:=by kernel_rfl
def ah9:aq:=
 (jL 3 (yD 76 (mG 0 0 0 1 jl) (xL 0 0 1 gF (.nr (pM .geq 0 5)))))
def amG:aI ayF (nf []) 400 af 126=ah9:=by kernel_rfl
def Yw:aq:=
 (pN cE 2 cE (sN 1 2 (mT cA 3 cA bR gF uh)) bC)
def ah_:aq:=
 (sJ Yw)
def amH:aI ayF (nf [⟨0,131,2,[(0,(5,0))],[],[],[]⟩]) 400 af 131=ah_:=by kernel_rfl
def ac_:aq:=
 (jq (gR bj fg fg) l5 1 l5 (.test lq (.test eS (JW fF fF) (q_ 7 mY 1 7 4 (DY .eql 4 0 7) (JW (DY .eql 4 0 7) fF))) (nX 7 mY 1 (lV 7 4 .eql 4 0 6 (q_ 7 mY 1 7 5 (yz C7 dp) (.test eS (JW fF (yz C7 dp)) (q_ 7 mY 1 7 6 (DY .eql 6 0 7) (JW (DY .eql 6 0 7) (yz C7 dp))))) (.test eS (JW fF fg) (q_ 7 mY 1 7 5 (DY .eql 5 0 7) (JW (DY .eql 5 0 7) fg)))))) (Bt (vY jl) (Lx .eql 4 3 (vY jl)) (pL eS gF (.ret jl)) bC))
def amI:aq:=
 (jL 4 ac_)
def arE:aI ayF (nf [⟨0,58,3,[(0,(3,0)),(0,(4,0)),(0,(5,0))],[],[],[]⟩]) 400 af 58=amI:=by kernel_rfl
def aia:aq:=
 (yo 3 0 (Ap 0 0) (SG 9 dp 2 (JV 2)) bC)
def amJ:aI ayF (nf []) 400 af 128=aia:=by kernel_rfl
def amK:aq:=
 (wq bp .geq bp (.nr (C6 bp 40)) bC)
def arF:aI ayF (nf []) 400 af 53=amK:=by kernel_rfl
def ada:aq:=
 (jq F5 l5 1 l5 (nX 7 mY 1 (lV 7 3 .eql 3 0 10 (Bt (mU .add 2 1) (mU .eql 1 0) (F6 (mU .add 2 1)) (.aC (yJ 1) (lX 7 mY (yJ 1) 7 4 (yA 130 Ga 5 (fy 130 wo (iu c_ .lss cL c_ bC (tH 3 Ga wo (jr 3 7 bC 3 8 bC (xL 3 0 6 (FY .leq (gE 3) mZ (F6 (mU .add 2 1))) (F6 (mU .add 2 1)))) (F6 (mU .add 2 1))))))))) (.nt (mU .eql 1 0) J4 (.aC (yJ 1) (lX 7 mY (yJ 1) 7 4 (yA 130 Ga 5 (fy 130 wo (iu c_ .lss cL c_ bC (tH 3 Ga wo (jr 3 7 bC 3 8 bC (xL 3 0 6 (FY .leq (gE 3) mZ J4) J4)) J4))))))))) (.nr (mU .eql 2 1)))
def amL:aq:=
 (jL 4 ada)
def arG:aI ayF (nf [⟨0,56,3,[(0,(3,0)),(0,(4,0))],[],[],[]⟩]) 400 af 56=amL:=by kernel_rfl
def aib:aq:=
 (wb bp .eql bp 6 (v_ 1) (Gk 7 ur (Gk 8 (v_ 3) (Gk 9 (v_ 4) (Gk 10 Gp qW)))))
def amM:aI ayF (nf []) 400 af 130=aib:=by kernel_rfl
def amN:aq:=
 (wq bp .geq bp (.nr (C6 bp 4)) bC)
def arH:aI ayF (nf []) 400 af 54=amN:=by kernel_rfl
def adb:aq:=
 (jq (D0 bj (tI 1 dp) 1) l5 1 l5 (nX 7 mY 1 (lV 7 4 .eql 4 0 1 (kB 131 eS 4 1 .an (iE cL cL (oH 0 1 2 3))) (jr 4 6 (kB 131 eS 4 1 .an (iE cL cL (oH 0 1 2 3))) 4 4 (kB 131 eS 4 1 .an (.nt cL (kB 131 eS 4 2 .an (iE c_ c_ (oH 0 1 2 3))) bC)) (jr 4 3 (kB 131 eS 4 1 .an (eH cL (vY cL) (lT mZ (jI 1 8 2 1 mZ (lZ (vY cL) (oH 0 1 6 3)))))) 4 5 (kB 132 eS 4 2 .an (.nt cL (eH (yz mZ fJ) (.rw yx) (jI 1 8 3 1 yx (lZ (yz mZ fJ) (oH 0 1 2 6)))) (lT yx (jI 1 8 3 1 yx bC)))) (jr 4 8 (kB 132 eS 4 2 .an (.nt cL (tH 3 mZ fJ (kB 131 lq 4 2 .an (iE c_ c_ (oH 0 1 2 3))) bC) bC)) 4 10 (iE (yz mZ fJ) (yz mZ fJ) (oH 0 1 2 3)) (oH 0 1 2 3)))))) gF)
def amO:aq:=
 (lS 4 0 (.rw dp) adb)
def arI:aI ayF (nf [⟨0,57,4,[(0,(4,0)),(0,(5,0))],[(2,1),(2,0),(1,0),(1,1)],[(0,11)],[]⟩]) 400 af 57=amO:=by kernel_rfl
def Yx:aq:=
 (lr cE 3 cE 4 bp 3 4 4 (gG 183 4 4 4 4 (iE cL cL jK)) (wz cE cE bR (.aC cE (Gi .leq cE bJ)) bC))
def aic:aq:=
 (JO Yx)
def amP:aI ayF (nf [⟨0,129,2,[(0,(7,0))],[],[],[]⟩]) 400 af 129=aic:=by kernel_rfl
def ade:aq:=
 (lr cE 1 cE 5 bp 1 5 2 (fy 26 pO (lU cA cA 7 (sN 5 1 (lV 5 4 .lss 4 1 0 C5 (sN 5 1 (lV 5 5 .gtr 5 1 6 C5 (.bind (.sub 5 bp bj sI) (kb 5 bp 1 5 7 (kb 5 bp 1 5 8 (kB 133 eg 7 0 (iC (gE 8)) (.nt rh (v_ 8) (sN 5 1 (lV 5 10 .lss 10 4 0 Gp (kb 5 bp 1 5 11 (kb 5 bp 1 5 12 (iu (lW 12) .gtr (rV 11 4) (lW 12) Gp oK)))))))))))))))) qW)
def amQ:aq:=
 (yw ade)
def arJ:aI ayF (nf [⟨0,60,2,[(0,(3,0))],[],[],[]⟩]) 400 af 60=amQ:=by kernel_rfl
end Go.Proofs.YtabefplkfkfdfaaGreat
namespace Go.Ev
def kr{α:Type}{a b:α}(h:a=b:=by kernel_rfl):a=b:=h
variable{P:Program}{C:Cr}{Q:IV->Prop}{K K':List (List IV->Prop)}{ν:List IV}
def aq.LN(f:aq){K K':List (List IV->Prop)}{ν:List IV}(hk:Ia K K')(h:f.sat P C Q K ν):f.sat P C Q K' ν:=aq.iO P f (λ_ h=>h) hk h
def Iv{A:Type}{init:SE}{body:aq}(e:A->List IV)(mu:A->Prop)(μ:A->Nat)(a0:A)(GL:kc P ν init=aa (e a0))(h0:mu a0)
 (h:∀a,mu a->body.sat P C Q (K++[λvs=>∃a',vs=e a'/\mu a'/\μ a'<μ a]) (ν++e a)):(aq.loop init body).sat P C Q K ν:=by
 refine⟨e a0,GL,μ a0+1,?_⟩
 have key:∀m a,mu a->μ a<m->(aCc (motive:=λ_=>List IV->Prop) (λ_=>False) (λ_ ih vs=>body.sat P C Q (K++[ih]) (ν++vs)) m) (e a):=by
  intro m;induction m with
  |zero=>intro a _ h;omega
  |succ m ih=>
   intro a ha hm;refine body.LN ((Ia.refl K).snoc ?_) (h a ha);rintro vs ⟨a',rfl,h1,h2⟩;exact ih a' h1 aj
 exact key (μ a0+1) a0 h0 (Nat.lt_succ_self _)
def gS{A:Type}{init:SE}{body:aq}(n:Nat)(e:Nat->A->List IV)(mu:Nat->A->Prop)(a0:A)(GL:kc P ν init=aa (e 0 a0))(h0:mu 0 a0)
 (h:∀i a,i<=n->mu i a->body.sat P C Q (K++[λvs=>∃a',vs=e (i+1) a'/\i+1<=n/\mu (i+1) a']) (ν++e i a)):(aq.loop init body).sat P C Q K ν:=by
 refine Iv (A:=Nat×A) (λp=>e p.1 p.2) (λp=>p.1<=n/\mu p.1 p.2) (λp=>n- p.1) (0,a0) GL ⟨Nat.zero_le _,h0⟩ λ⟨i,a⟩ ⟨hi,hI⟩=>?_;refine body.LN ((Ia.refl K).snoc ?_) (h i a hi hI);rintro vs ⟨a',rfl,h1,h2⟩;exact⟨(i+1,a'),rfl,⟨h1,h2⟩,by simp;omega⟩
def ajX{a b:aq}{m:Nat}(p:List IV->Prop)(h:a.sat P C Q (K++[p]) ν)(hb:∀vs,p vs->vs.length=m/\b.sat P C Q K (ν++vs)):(aq.tV a m b).sat P C Q K ν:=
 a.LN ((Ia.refl K).snoc hb) h
@[simp] theorem avn{w:Nat}:(aq.fail w).sat P C Q K ν↔False:=aBG
@[simp] theorem Yy{e:SE}:(aq.ret e).sat P C Q K ν↔∃z,e.den P ν=aa z/\Q z:=aBG
@[simp] theorem uU{e:SE}{k:aq}:(aq.aC e k).sat P C Q K ν↔(∃z,e.den P ν=aa z)/\k.sat P C Q K ν:=aBG
@[simp] theorem Vp{e:SE}{k:aq}:(aq.bind e k).sat P C Q K ν↔∃z,e.den P ν=aa z/\k.sat P C Q K (ν++[z]):=aBG
@[simp] theorem Vq{f:FuncId}{new:Bool}{e:SE}{k:aq}:(aq.call f new e k).sat P C Q K ν↔∃xs z,kc P ν e=aa xs/\C f new xs z/\k.sat P C Q K (ν++[z]):=aBG
@[simp] theorem Vs{e:SE}{a b:aq}:(aq.test e a b).sat P C Q K ν↔(e.den P ν=aa (.raw (.bool ab))/\a.sat P C Q K ν)\/(e.den P ν=aa (.raw (.bool af))/\b.sat P C Q K ν):=aBG
@[simp] theorem Vt{lv:Nat}{e:SE}:(aq.next lv e).sat P C Q K ν↔∃vs p,kc P ν e=aa vs/\K[lv]?=aa p/\p vs:=aBG
@[simp] theorem avo{es x:SE}{k:aq}:(aq.same es x k).sat P C Q K ν↔∃ds r,es.den P ν=aa (.aF ds)/\x.den P ν=aa (.aF (.aF ds::r))/\k.sat P C Q K ν:=aBG
@[simp] theorem axz:kc P ν .an=aa []:=rfl
@[simp] theorem avp{a r:SE}:kc P ν (.ac a r)=(a.den P ν).bind λx=>(kc P ν r).map λxs=>x::xs:=by
  unfold kc;simp only[SE.den];cases a.den P ν with
  |none=>rfl
  |some x=>
   cases r.den P ν with
   |none=>rfl
   |some y=>cases y<;>rfl
abbrev iB(b:Bool):IV:=.raw (.bool b)
abbrev iI(n:Int):IV:=.raw (.int .i64 n)
abbrev iS(l:List UInt8):IV:=.raw (.string ⟨l.toArray⟩)
abbrev iL(l:List Int):IV:=.tree 1 (l.map iI)
@[simp] theorem ap_(q:IntKind)(n:Int):wF (.raw (.int q n))=aa (.raw (.int q n)):=rfl
@[simp] theorem amR(n:Bool):wF (.raw (.bool n))=aa (.raw (.bool n)):=rfl
@[simp] theorem aqa(n:ByteArray):wF (.raw (.string n))=aa (.raw (.string n)):=rfl
@[simp] theorem BH(s:Nat)(es:List IV):wF (.tree s es)=aa (.tree s es):=rfl
@[simp] theorem aqb(s:Nat)(es:List IV):H_ (.tree s es)=aa (.raw (.int .i64 es.length)):=rfl
def cM{s:Nat}{es:List IV}{i:Nat}{q:IntKind}{x:IV}(h:es[i]?=aa x)(hx:(cellsOf x).length=s):cb s (.tree s es) (.raw (.int q (i:Nat)))=aa x:=by
 simp[cb,gW,h,hx]
@[simp] theorem axV(P:Program)(t:TypeId)(a b:Int):dg P .lss t (iI a) (iI b)=aa (iB (decide (a<b))):=rfl
@[simp] theorem axW(P:Program)(t:TypeId)(a b:Int):dg P .gtr t (iI a) (iI b)=aa (iB (decide (a>b))):=rfl
@[simp] theorem axX(P:Program)(t:TypeId)(a b:Int):dg P .leq t (iI a) (iI b)=aa (iB (decide (a<=b))):=rfl
@[simp] theorem axY(P:Program)(t:TypeId)(a b:Int):dg P .geq t (iI a) (iI b)=aa (iB (decide (a≥b))):=rfl
@[simp] theorem axZ(P:Program)(t:TypeId)(a b:Int):dg P .eql t (iI a) (iI b)=aa (iB (a==b)):=rfl
@[simp] theorem ax0(P:Program)(t:TypeId)(a b:Int):dg P .neq t (iI a) (iI b)=aa (iB (a !=b)):=rfl
@[simp] theorem ax1(P:Program)(t:TypeId)(a b:Int):dg P .add t (iI a) (iI b)=aa (iI (azc.wrap (a+b))):=rfl
@[simp] theorem ax2(P:Program)(t:TypeId)(a b:Int):dg P .sub t (iI a) (iI b)=aa (iI (azc.wrap (a- b))):=rfl
@[simp] theorem ax3(P:Program)(t:TypeId)(a b:Int):dg P .mul t (iI a) (iI b)=aa (iI (azc.wrap (a*b))):=rfl
@[simp] theorem ax4(P:Program)(t:TypeId)(a b:List UInt8):dg P .neq t (iS a) (iS b)=aa (iB (!(a==b))):=by
  show aa (IV.bool (!(a.toArray.toList==b.toArray.toList)))=_;simp
def arK(P:Program)(t:TypeId)(hu:P.underlying t=aa .bool)(a b:Bool):dg P .eql t (iB a) (iB b)=aa (iB (a==b)):=by
 show(aK P (do eqGuard .eql t _ _ _ _;aAu .eql t _ _)).map lift=_;rw[aO];show(aK P (do pure (.bool (<-azE (9999+1) t (.bool a) (.bool b))))).map lift=_;unfold azE;rw[aO,aO,Go.Ev.run_underlying hu,ayK];rfl
def arL(P:Program)(t:TypeId)(hu:P.underlying t=aa .bool)(a b:Bool):dg P .neq t (iB a) (iB b)=aa (iB (!(a==b))):=by
 show(aK P (do eqGuard .neq t _ _ _ _;aAu .neq t _ _)).map lift=_;rw[aO];show(aK P (do pure (.bool (!(<-azE (9999+1) t (.bool a) (.bool b)))))).map lift=_;unfold azE;rw[aO,aO,Go.Ev.run_underlying hu,ayK];rfl
@[simp] theorem ax5(P:Program)(a:Bool):SI P .not (iB a)=aa (iB (!a)):=rfl
def eN{a:Int}(h1: -9223372036854775808<=a)(h2:a<=9223372036854775807):azc.wrap a=a:=by
 simp only[aDk,aDl,aCT];simp;omega
end Go.Ev
namespace Go.Proofs.YtabefplkfkfdfaaGreat
open Go Go.Ev
def arM:List Nat:=[95,93,162,266,136,184,69,24,25,7]
def Z9:List Nat:=[269,259,217]
def stops:List Nat:=[201]
def NK(l:List Hint):fe:=⟨arM,Z9,stops,l++[],[]⟩
def adf:aq:=
 (sJ (.aC cE (ra iY 2 cE bp 2 (mT cA 3 bR cA yu uh) JR)))
def arN:aI ayF (NK [⟨0,162,2,[(0,(8,0))],[],[],[]⟩]) 400 af 162=adf:=by kernel_rfl
def adg:aq:=
 (yo 4 0 (Ap 0 2) (.ret mY) (.ret CN))
def arO:aI ayF (NK []) 400 af 184=adg:=by kernel_rfl
def adh:aq:=
 (jL 4 (gG 184 0 0 0 0 (eZ 1 (jq (FU jn) gV 2 gV (kb 4 bR 2 4 4 (gG 136 4 4 4 4 (eH cL (uy 3 cL) (yq 2 (iC (uy 3 cL)))))) (.ret lq)))))
def arP:aI ayF (NK [⟨0,136,4,[(0,(3,0)),(0,(5,0))],[],[],[]⟩]) 400 af 136=adh:=by kernel_rfl
def adi:aq:=
 (yw (nA cE cE 8 bC (jq F5 cE 1 cE (kb 4 bp 1 4 3 (gG 136 3 3 3 3 (eZ 4 (nA (uy 2 da) (uy 2 da) 60 bC (F6 (uy 2 da)))))) gF)))
def arQ:aI ayF (NK [⟨0,69,5,[(0,(3,0)),(0,(4,0))],[],[],[]⟩]) 400 af 69=adi:=by kernel_rfl
def aid:aq:=
 (yw (lr cE 1 cE 2 bp 1 2 2 (fy 69 mW (iE cA cA oK)) gF))
def avq:aI ayF (NK [⟨0,24,2,[(0,(3,0))],[],[],[]⟩]) 400 af 24=aid:=by kernel_rfl
section
inductive Tm where
 |mk (k n:Int) (s:List UInt8) (ts:List Tm)
mutual
def eE:Tm->IV
 |.mk k n s ts=>.agg [iI k,iI n,iS s,.tree 4 (SM ts)]
def SM:List Tm->List IV
 |[]=>[]
 |t::ts=>eE t::SM ts
end
theorem Rr:∀l:List Tm,SM l=l.map eE
 |[]=>rfl
 |t::l=>by simp[SM,Rr l]
structure At where
 s:List UInt8
 ts:List Tm
abbrev iT(l:List Tm):IV:=.tree 4 (l.map eE)
def dN(a:At):IV:=.agg [iS a.s,iT a.ts]
abbrev dm(l:List At):IV:=.tree 2 (l.map dN)
def xU(k n:Int)(s:List UInt8)(ts:List Tm):eE (.mk k n s ts)=.agg [iI k,iI n,iS s,iT ts]:=by simp[eE,Rr]
@[simp] theorem avr(v:Value):Pure (.raw v):=.raw v
@[simp] theorem EY(l:List Int):Pure (iL l):=by
  refine .tree 1 _ λe he c hc=>?_;obtain⟨x,_,rfl⟩:=ay8.1 he;simp[cellsOf]at hc;subst hc;exact .raw _
theorem sa:∀t:Tm,Pure (eE t)
 |.mk k n s ts=>by
  rw[xU];refine .agg _ λc hc=>?_;simp at hc;rcases hc with rfl|rfl|rfl|rfl
  .exact .raw _
  .exact .raw _
  .exact .raw _
  .refine .tree 4 _ λe he c hc=>?_;obtain⟨x,hx,rfl⟩:=ay8.1 he;have:=sa x;obtain⟨k',n',s',ts'⟩:=x;rw[xU]at this hc;cases this with
   |agg _ h=>exact h c hc
 decreasing_by simp_wf;have:=azG hx;omega
def jD{α:Type}(s:Nat)(enc:α->IV)(h:∀a,∃cs,enc a=.agg cs/\∀c∈cs,Pure c)(l:List α):Pure (.tree s (l.map enc)):=by
 refine .tree s _ λe he c hc=>?_;obtain⟨x,_,rfl⟩:=ay8.1 he;obtain⟨cs,h1,h2⟩:=h x;rw[h1]at hc;exact h2 c hc
@[simp] theorem axA(l:List Tm):Pure (iT l):=jD 4 eE (λt=>by
  have:=sa t;obtain⟨k',n',s',ts'⟩:=t;rw[xU]at this⊢;cases this with
  |agg _ h=>exact⟨_,rfl,h⟩) l
def Dp(a:At):Pure (dN a):=.agg _ aw
@[simp] theorem af5(l:List At):Pure (dm l):=jD 2 dN (λa=>⟨_,rfl,by simp⟩) l
def xp(n:Nat):Cr:=λf new xs z=>(f<n->eK ayF af new f xs z/\Pure z/\oP ayF f z=ab)/\
 (∀g,g<n->f=n+g->∃s es yZ aW,xs=.tree s es::yZ/\z=.tree s aW/\Gz ayF s g es yZ aW)/\
 (∀g,g<n->f=2*n+g->∃ins yZ outs z0,xs=.agg (ins.map IV.agg)::yZ/\z=.aF (z0::outs.map IV.agg)/\outs.map azj=ins.map azj/\(∀cs∈outs,∀u∈cs,ao u=ab)/\GA ayF g ins yZ outs z0)/\
 (∀g,g<n->f=3*n+g->∃t:Nat,xs=[.int t]/\HY ayF g t)/\
 (∀g,g<n->f=4*n+g->∃es,z=.tree (eC ayF g) es/\ry ayF (eC ayF g) g xs es)
def CC:Cr:=xp ayF.funcs.size
def LP:mK ayF CC:=λ_ _ _ _ h=>h
def mixed:ayF.follows .mixedOrders=ab:=by kernel_rfl
def BI{f n:Nat}(hl:(ayF.funcs[f]?).map (·.params.size)=aa n):f<ayF.funcs.size:=by
 cases h:ayF.funcs[f]? with
 |none=>rw[h]at hl;cases hl
 |some _=>exact(Array.getElem?_eq_some_iff.1 h).1
def nE{n a b:Nat}(h:n+a=n+b):a=b:=aj
def EZ{f:Nat}(h:Nat.blt f 306=ab):f<ayF.funcs.size:=by
 have e:ayF.funcs.size=306:=by kernel_rfl
 rw[e];simpa using h
section
variable{n:Nat}{new:Bool}{f:Nat}{xs es:List IV}{z:IV}(ak:f<n)
include ak
theorem xp.plain(h0:eK ayF af new f xs z)(hz:Pure z)(ht:oP ayF f z=ab):xp n f new xs z:=by
 refine⟨λ_=>⟨h0,hz,ht⟩,?_,?_,?_,?_⟩<;>(intro g hg h;replace h: @Eq Nat _ _:=h;omega)
theorem xp.row{s:Nat}{aW:List IV}(h0:Gz ayF s f es xs aW):xp n (n+f) new (.tree s es::xs) (.tree s aW):=by
 refine⟨λh=>?_,λg hg h=>⟨s,es,xs,aW,rfl,rfl,nE h▸h0⟩,?_,?_,?_⟩<;>first|(replace h: @LT.lt Nat _ _ _:=h;omega)|(intro g hg h;replace h: @Eq Nat _ _:=h;omega)
theorem xp.obj{ins outs:List (List IV)}(ho:outs.map azj=ins.map azj)(hc:∀cs∈outs,∀u∈cs,ao u=ab)(h0:GA ayF f ins xs outs z):xp n (2*n+f) new (.agg (ins.map IV.agg)::xs) (.aF (z::outs.map IV.agg)):=by
 refine⟨λh=>?_,?_,λg hg h=>⟨ins,xs,outs,z,rfl,rfl,ho,hc,nE h▸h0⟩,?_,?_⟩<;>first|(replace h: @LT.lt Nat _ _ _:=h;omega)|(intro g hg h;replace h: @Eq Nat _ _:=h;omega)
theorem xp.Vu{t:Nat}(h0:HY ayF f t):xp n (3*n+f) new [.int t] z:=by
 refine⟨λh=>?_,?_,?_,λg hg h=>⟨t,rfl,nE h▸h0⟩,?_⟩<;>first|(replace h: @LT.lt Nat _ _ _:=h;omega)|(intro g hg h;replace h: @Eq Nat _ _:=h;omega)
theorem xp.fresh(h0:ry ayF (eC ayF f) f xs es):xp n (4*n+f) new xs (.tree (eC ayF f) es):=by
 refine⟨λh=>?_,?_,?_,?_,λg hg h=>nE h▸⟨es,rfl,h0⟩⟩<;>first|(replace h: @LT.lt Nat _ _ _:=h;omega)|(intro g hg h;replace h: @Eq Nat _ _:=h;omega)
end
theorem CC.plain{new:Bool}{f:FuncId}{args:List IV}{z:IV}(ak:f<ayF.funcs.size)(h:eK ayF af new f args z)(hz:Pure z)(ht:oP ayF f z=ab):CC f new args z:=xp.plain ak h hz ht
def CC.of{n:Nat}{new:Bool}{f:FuncId}{dv:aq}{args:List IV}{z:IV}{cfg:fe}(he:aI ayF cfg n new f=dv)(hl:(ayF.funcs[f]?).map (·.params.size)=aa args.length)(ht:oP ayF f z=ab)(hp:∀x∈args,Pure x)(hz:Pure z)
 (hs:dv.sat ayF CC (·=z) [] args):CC f new args z:=xp.plain (BI hl) (eK.yL mixed LP he hl hp hs) hz ht
def CC.ofRow{n s:Nat}{f:FuncId}{dv:aq}{es aW xs:List IV}{cfg:fe}{new:Bool}(he:AT ayF cfg n s f=dv)(hl:(ayF.funcs[f]?).map (·.params.size)=aa (xs.length+1))
 (hs:dv.sat ayF CC (·=.tree s aW) [] (.tree s es::xs)):CC (ayF.funcs.size+f) new (.tree s es::xs) (.tree s aW):=
 xp.row (BI hl) (Gz.yL mixed LP he hl hs)
def CC.aie{n:Nat}{f:FuncId}{dv:aq}{ins outs:List (List IV)}{xs:List IV}{z:IV}{cfg:fe}{new:Bool}(he:xS ayF cfg n (ins.map azj) f=dv)(hl:(ayF.funcs[f]?).map (·.params.size)=aa (ins.length+xs.length))
 (ho:outs.map azj=ins.map azj)(hc:∀cs∈outs,∀u∈cs,ao u=ab)(hs:dv.sat ayF CC (·=.aF (z::outs.map .agg)) [] (ins.flatten++xs)):CC (2*ayF.funcs.size+f) new (.agg (ins.map IV.agg)::xs) (.aF (z::outs.map IV.agg)):=
 xp.obj (BI hl) ho hc (GA.yL mixed LP he hl hs)
def Vv:ayF.underlying 4=aa .bool:=by kernel_rfl
@[simp] theorem axH(a b:Bool):dg ayF .eql 4 (iB a) (iB b)=aa (iB (a==b)):=arK _ _ Vv a b
@[simp] theorem axI(a b:Bool):dg ayF .neq 4 (iB a) (iB b)=aa (iB (!(a==b))):=arL _ _ Vv a b
abbrev Sm{α:Type}(l:List α):Prop:=l.length<=9223372036854775807
def aH{i:Nat}{n:Nat}(h:i<n)(hn:n<=9223372036854775807):azc.wrap ((i:Int)+1)=((i+1:Nat):Int):=by
 rw[eN aj aj];rfl
@[simp] theorem NL{l:List Int}{i:Nat}{x:Int}(h:l[i]?=aa x):cb 1 (iL l) (iI (i:Nat))=aa (iI x):=cM (by simp[h]) rfl
end
def arR:List Nat:=[203,160,216,175,240,266,11,31,24,25,7,69,8,13,14,257,72,26,71,137,70,139,210,225,145,183,75,76,111,65,112,136,186,140,184,248,224,211,170,138,249,185,9,28,27,143,77,142,141,74,144,73,146,78,18,39,16,82,44,150,188,189,29,79,80,149,187,147,10,148,30,38,104,83,84,81,168,103,62,108,42,169,107,106,45,64,63,135,110,46,66,21,12,20,23,105,40,43,41,113,171,215,174,161,48,98,97,116,115,268,192,154,227,87,33,51,212,94,47,114,32,85,155,233,199,101,50,49,164,230,194,166,204,202,99,86,95,93,156,162,280]
def avs:List Nat:=[34,35,36,37,89,100,109,151,190,234]
def avt:List Nat:=[235,236,237,238,239,241,242]
def avu:List Nat:=[185,247,209,173000151,500195,500196,500040,500041,500043,500082,500140]
def rz(l:List Hint):fe:=⟨arR,avs,avt,l++[⟨999997,0,0,[],[],[],[]⟩,⟨999999,0,0,[],[],[],[]⟩],avu⟩
def Vw:aq:=
 (OZ (o8 (yr (C8 lY J2)) 2) J3 (eH (vZ 3 5 lY) (.rw sI) (yE cT (vZ 3 5 lY) 3 24 6 3 (gR sI cT (vZ 3 5 lY)) (OY 1 .sub 3 5 1 (uO 7)))) (CS 6))
def adj:aq:=
 (jq J5 eU 1 eU (q_ 6 dp 1 6 3 lY (q_ 6 dp 1 6 4 J2 (ahM (C8 lY J2) (C8 lY J2) Vw))) yu)
def amS:aq:=
 (yI adj)
def avv:aI ayF (rz [⟨0,18,3,[(0,(3,0)),(0,(4,0))],[(1,0)],[],[]⟩,⟨0,18,7,[(0,(3,0)),(0,(6,0))],[(1,0)],[],[]⟩]) 400 af 18=amS:=by kernel_rfl
def amT:aq:=
 (yI (sQ 85 (eH (nC 1) (rj 1) (.nr (Uo .eql 38 (rj 1) 0)))))
def avw:aI ayF (rz []) 400 af 31=amT:=by kernel_rfl
def Vx:aq:=
 (OZ (gR (yr uu) eS Ga) J3 (eH lY (vZ 3 5 lY) (q_ 2 da 5 2 8 (.rw sI) (yE cT (vZ 3 5 lY) 3 24 6 3 (gR sI cT (vZ 3 5 lY)) (OY 1 .sub 3 5 1 (FT 9 7))))) (CS 6))
def adk:aq:=
 (fX J5 1 eU 6 dp 1 6 3 (fI 33 3 0 3 1 3 2 3 3 3 4 3 5 (iU da 4 (.aC (yr uu) Vx))) yu)
def amU:aq:=
 (lS 2 0 eU adk)
def avx:aI ayF (rz [⟨2,87805000,1,[(2,(10,0))],[(4,0),(1,0)],[],[]⟩,⟨2,87805000,5,[(2,(6,0))],[(4,0),(5,0),(1,0)],[],[]⟩]) 400 af 87=amU:=by kernel_rfl
def Ps:aq:=
 (wx (q0 4) 9 (nc 8) iW 9 11 (mV 3 wj mX .an (jo 9 12)) (oJ 3 10))
def Pt:aq:=
 (ra iY 10 (nc 9) rh 10 (eH mX (.mq 0 (.get 3 oI mX .an)) (yv 3 oI mX (pL pP (jo 6 7) (uP 2 10)))) (lT eg (tG 1 8 7 (C4 1 6) (jo 6 11))))
def Pu:aq:=
 (fX CU 6 qY 4 C7 6 4 8 (gG 204 8 8 8 8 (iU rh 9 Pt)) (.ret eo))
def Yz:aq:=
 (wx Am 3 gV bR 3 5 (kA 203 (wh 0 0 0 0 (mG 0 4 0 5 q8)) cL (.nt c_ (lX 2 q8 cL 2 7 (CL 164 7 7 (iU iW 8 Ps))) (oJ 3 4))) (o7 2 q8 bJ (lS 2 5 qY Pu)))
def SN:aq:=
 (rp 7 (iU bJ 1 Yz))
def arS:aI ayF (rz [⟨0,160,14,[(0,(12,0)),(0,(52,0))],[(2,0)],[],[]⟩,⟨0,160,3,[(0,(22,0))],[(1,0)],[],[]⟩,⟨0,160,17,[(0,(60,0))],[],[],[]⟩,⟨0,160,7,[(0,(36,0))],[(1,0)],[],[]⟩]) 400 af 160=SN:=by kernel_rfl
def amV:aq:=
 (rp 2 (lS 6 2 cA (qZ 115 oN (wy 2 2 2 2 2 4 2 5) cA (.aC (.mq 2 (H9 4 0)) (Bt (rj 4) (Uq 4 2) (qZ 116 bR (eI (wB 4) (ux 4)) (rj 4) (.nr cL)) JR)))))
def avy:aI ayF (rz []) 400 af 97=amV:=by kernel_rfl
def adl:aq:=
 (ra (Ak 4) 4 (.len J8) J8 4 (wq c_ .geq c_ (iu (.len (ux 3)) .lss c_ (.len (ux 3)) (lX 4 (ux 3) c_ 4 7 (rX 4 56 cT (tI 4 (wA 7 7 7 7)) (F4 8))) CY) CY) JQ)
def amW:aq:=
 (lS 2 0 (rW 6 1) (sO (qZ 115 oN (wy 1 1 1 1 1 4 1 5) bJ (eH (.mq 2 CZ) J8 (eH (Uq 3 2) (.len J8) adl)))))
def avz:aI ayF (rz [⟨0,98,4,[(0,(10,0)),(0,(23,0))],[(3,3),(3,0)],[],[]⟩]) 400 af 98=amW:=by kernel_rfl
def aif:aq:=
 (lS 2 0 (rW 6 1) (yF bJ bJ (Ge (eI rY CN) fg) (wz q9 bJ q9 (Ge (eI rY CN) fg) (mE .lss 1 0 0 (Ge (eI rY CN) fg) (wz eU yy eU (Ge (eI rY CN) fg) (lX 6 dp yy 6 3 (fI 33 3 0 3 1 3 2 3 3 3 4 3 5 (eZ 4 (o7 1 yH bJ (yF cL cL (Ge (eI rY CN) fg) (wz uu cL uu (Ge (eI rY CN) fg) (iu J6 .lss bJ J6 (o7 1 (rV 1 4) bJ (eZ 6 (lX 2 da cL 2 7 (ahT (uf 7 7) c_ fF)))) (lX 2 da cL 2 6 (Ge (uf 6 6) fF))))))))))))))
def arT:aI ayF (rz []) 400 af 115=aif:=by kernel_rfl
def YA:aq:=
 (qX iY 3 cE 3 bp 3 (pQ 3 4 9 wo yy (mT (jm 1) 3 mZ (jm 1) (kA 93 yx bJ (.nt cL (.ret lq) jK)) jK) jK) JR)
def aih:aq:=
 (ue (rW 2 1) (eH bJ cE YA))
def arU:aI ayF (rz [⟨1,116010,2,[(1,(8,0))],[],[],[]⟩]) 400 af 116=aih:=by kernel_rfl
def Pv:aq:=
 (ra (q0 3) 6 (nc 5) cL 6 (eH iW (.mq 0 (.get 3 eo iW .an)) (yv 3 eo iW (.test ej (jo 6 7) (mV 3 eo iW .an (jo 6 10))))) (oJ 2 7))
def Pw:aq:=
 (fX (q0 3) 4 (zH 4) 3 aaw 4 3 6 (fy 166 (m4 6 6 6) (iE gk gk (xL 6 0 1 (jo 4 5) (mE .neq 6 0 4 bC (o7 4 CT bj (lV 4 8 .neq 8 0 1 bC (o7 4 CT bj (lS 4 9 (.mq 0 (.get 3 cT Gj .an)) (yv 3 cT Gj (.test wj bC (mV 3 cT Gj .an (jo 4 11)))))))))))) gF)
def YB:aq:=
 (fX Am 2 gV 2 bR 2 2 4 (CL 164 4 4 (iU cL 5 Pv)) (nY 4 Pw))
def aii:aq:=
 (jL 6 (fI 33 0 0 0 1 0 2 0 3 0 4 0 5 (iU bR 1 YB)))
def arV:aI ayF (rz [⟨0,101,3,[(0,(14,0))],[(1,0)],[],[]⟩,⟨0,101,12,[(0,(33,0))],[(1,0)],[],[]⟩,⟨0,101,6,[(0,(21,0))],[(1,0)],[],[]⟩]) 400 af 101=aii:=by kernel_rfl
def ajY:List Nat:=[266,24,25,7,69,257,72,26,71,137,70,139,225,145,183,75,76,136,186,140,184,224,138,185,9,28,27,143,77,142,141,74,144,73,146,78,39,95,93,162,154,268,227,192,280]
def ajZ:List Nat:=[]
def aj0:List Nat:=[201]
def aj1:List Nat:=[185,247,209]
def SO(l:List Hint):fe:=⟨ajY,ajZ,aj0,l++[],aj1⟩
def adm:aq:=
 (Bw bp .leq 5 (jJ 97) bp (JM 5 bp (jJ 122) (FV 1) (JM 5 (jJ 65) bp (JM 5 bp (jJ 90) J7 (M5 5 JU J7 (Db 5 (jJ 48) bp (Db 5 bp (jJ 57) (FV 4))))) (M5 5 JU J7 (Db 5 (jJ 48) bp (Db 5 bp (jJ 57) (FV 4)))))) (JM 5 (jJ 65) bp (JM 5 bp (jJ 90) J7 (M5 5 JU J7 (Db 5 (jJ 48) bp (Db 5 bp (jJ 57) (FV 4))))) (M5 5 JU J7 (Db 5 (jJ 48) bp (Db 5 bp (jJ 57) (FV 4))))))
def arW:aI ayF (SO []) 400 af 227=adm:=by kernel_rfl
def adn:aq:=
 (mT bp 9 bp (.s [99,111,110,115,116,114,97,105,110,116]) gF (M6 9 [116,114,117,101] 9 [102,97,105,108] (M6 9 [105,115] 9 [105,110,116] (SH 9 [103,114,111,117,110,100] bC))))
def arX:aI ayF (SO []) 400 af 192=adn:=by kernel_rfl
def YC:aq:=
 (.loop (iC (.tp (eI eS bj))) (.test (.dec 0 CZ Gc) (.bind (.tp (eI CZ (.dec 2 CZ Gc))) (Up .gtr 21 (.dec 1 CZ Gc) (.k .i32 122) (tH 4 fF fF (.nt (C6 Gc 0) (yA 192 bp 5 (.nr (vY cL))) bC) (Ao 0 4)) (.aC (.ok (.cv 21 5 (.dec 1 CZ Gc))) (fy 227 (.ok (.cv 21 5 (.dec 1 CZ Gc))) (eH cL (Ar .and 223 cL 7) (mT (Ar .eql 223 (Ar .and 223 cL 7) 0) 4 (Ar .eql 223 (Ar .and 223 cL 7) 0) fF (.nt (C6 Gc 0) (yA 192 bp 6 (.nr (vY c_))) bC) (Ao 0 4))))))) (.nt (C6 qV 0) (yA 192 bp 4 (.nr (vY da))) bC)))
def aa1:aq:=
 (mT bp 9 bp rY bC (nA wg wg 40 bC (.aC (M1 bj) (yA 227 (M1 bj) 1 (mT (Ar .and 223 bR 1) 223 (Ar .and 223 bR 1) (jJ 0) bC (.bind (.Lq bp jn wg) (.aC (.uL eS) YC)))))))
def avA:aI ayF (SO [⟨3,154005023008,2,[],[(0,0)],[],[]⟩]) 400 af 154=aa1:=by kernel_rfl
def ado:aq:=
 (yw (wb wg .eql wg 1 (kA 280 (.s [43,45,42,47,37]) bp (.nr bR)) bC))
def arY:aI ayF (SO []) 400 af 268=ado:=by kernel_rfl
def amX:List Nat:=[266,24,25,7,69,257,72,26,71,137,70,139,225,145,183,75,76,136,186,140,184,224,138,185,9,28,27,143,77,142,141,74,144,73,146,78,39,95,93,162,154,268]
def amY:List Nat:=[]
def amZ:List Nat:=[201]
def am0:List Nat:=[185,247,209]
def SP(l:List Hint):fe:=⟨amX,amY,amZ,l++[],am0⟩
def adp:aq:=
 (lS 4 1 bJ (yF (yJ 0) (yJ 0) sP (.nt (C6 bJ 1) sP (jr 1 0 (mE .geq 1 1 (-2147483648) (mE .leq 1 1 2147483648 (aau 9 (ny 1) (eH q9 (JZ 0) (aar (JZ 0) 0 1)) sP) sP) sP) 1 1 (mE .geq 1 1 0 (mE .leq 1 1 1048576 (aau 9 (ny 1) (eH q9 (JZ 0) (aar (JZ 0) 0 1)) sP) sP) sP) (xL 1 0 2 (mE .neq 1 1 0 sP (nA q9 q9 6 sP (fy 154 (ny 1) (gQ cA cA (MZ 268 (ny 1) da (.aC q9 (gQ (JZ 2) (JZ 2) sP (.aC (yr bJ) (kB 821 (iC (iC (yJ 0))) 1 3 (iC (yr bJ)) (.aC (nC 5) (Sz (nC 5) (xM 5 1 0))))))) sP) (.aC (yr bJ) (kB 821 (iC (iC (yJ 0))) 1 3 (iC (yr bJ)) (.aC (nC 4) (Sz (nC 4) (xM 4 1 0))))))))) sP)))))
def arZ:xS ayF (SP []) 400 [1] 247=adp:=by kernel_rfl
def Vy:aq:=
 (fX (q0 0) 3 gV 4 bR 3 4 5 (jG 859 (gR (iC (uO 4)) (wA 5 5 5 5) bJ) (gQ (nC 6) (nC 6) (Sz fg (xM 6 1 0)) (yq 3 (iC (xM 6 1 0))))) (FW fF (uO 4)))
def adq:aq:=
 (C3 bR bJ gV Vy)
def ar0:xS ayF (SP [⟨1,209,2,[(1,(10,0))],[(0,0)],[],[]⟩]) 400 [1] 209=adq:=by kernel_rfl
def aij:aq:=
 (yI (yD 154 fJ (qI 1 .leq 3 1 6 (kB 821 An 0 1 F8 (F7 2)) bC)))
def avB:aI ayF (SP []) 400 af 194=aij:=by kernel_rfl
def adr:aq:=
 (yo 3 0 (Ap 0 0) (yD 154 dp (qI 2 .leq 3 2 6 (kB 821 An 0 2 F8 (F7 2)) bC)) (jr 0 1 (qU .gtr 0 0 (qU .leq 0 12 (FX 9 dp (qI 2 .eql 3 2 0 (kB 821 An 0 2 F8 (F7 1)) bC)))) 0 2 (qU .gtr 0 0 (qU .leq 0 12 (FX 9 dp (qI 2 .eql 3 2 0 (kB 821 An 0 2 F8 (F7 1)) bC)))) (jr 0 11 (qU .gtr 0 0 (qU .leq 0 12 (FX 9 dp (qI 2 .eql 3 2 1 (kB 821 An 0 2 F8 (F7 1)) bC)))) 0 12 (qU .gtr 0 0 (qU .leq 0 12 (FX 9 dp (qI 2 .eql 3 2 1 (kB 821 An 0 2 F8 (F7 1)) bC)))) (qU .gtr 0 0 (qU .leq 0 12 (FX 9 dp (qI 2 .eql 3 2 2 (kB 821 An 0 2 F8 (F7 1)) bC)))))))
def ar1:aI ayF (SP []) 400 af 166=adr:=by kernel_rfl
def am1:List Nat:=[266,24,25,7,69,257,72,26,71,137,70,139,225,145,183,75,76,136,186,140,184,224,226,138,185,9,28,27,143,77,142,141,74,144,73,146,78,39,95,93,162]
def am2:List Nat:=[269,259,234,217]
def am3:List Nat:=[201]
def am4:List Nat:=[185]
def fY(l:List Hint):fe:=⟨am1,am2,am3,l++[],am4⟩
def aj2:aq:=
 (lr eU 2 eU 6 dp 2 6 3 (kA 28 fJ (wy 3 3 3 3 3 4 3 5) (uz da 38 da 0 (Bv eS da) (oO 2))) (Bv bj bj))
def aj3:aq:=
 (lr pS 1 pS 2 fJ 1 2 2 (fy 26 pO (gQ cA cA (JY 7) (mE .lss 2 1 0 (JY 9) (mE .gtr 2 1 6 (JY 9) (.bind (.sub 2 fJ bj sI) (kB 27 oI 2 0 (iC mW) (.nt cL (JY 8) oK))))))) (qI 1 .gtr 3 1 40 (JY 6) aj2))
def aa2:aq:=
 (yI (qI 0 .gtr 3 0 30 (JY 6) aj3))
def avC:aI ayF (fY [⟨0,9,16,[(0,(6,0))],[],[],[]⟩,⟨0,9,4,[(0,(4,0))],[],[],[]⟩]) 400 af 9=aa2:=by kernel_rfl
def aik:aq:=
 (yw (yD 70 bp (.aC (M1 bj) (Dc 71 (M1 bj) (yA 72 bp 3 (.nr (vY cA)))))))
def avD:aI ayF (fY []) 400 af 26=aik:=by kernel_rfl
def Vz:aq:=
 (pN wg 1 wg (.aC ug (fy 71 ug (gQ bJ bJ (.aC ug (fy 137 ug (gQ cA cA (Bw ug .lss 5 ug (jJ 48) (Bw ug .neq 5 ug JU bC oK) (Bw ug .gtr 5 ug (jJ 57) (Bw ug .neq 5 ug JU bC oK) oK)) oK))) oK))) (wb wg .geq wg 1 (.aC wg (.nr (C9 wg 40))) bC))
def ads:aq:=
 (yw Vz)
def ar2:aI ayF (fY [⟨0,70,2,[(0,(3,0))],[],[],[]⟩]) 400 af 70=ads:=by kernel_rfl
def adt:aq:=
 (Bw bp .geq 5 bp (jJ 97) (.nr (Ar .leq 5 bp 122)) bC)
def ar3:aI ayF (fY []) 400 af 71=adt:=by kernel_rfl
def adu:aq:=
 (Bw bp .geq 5 bp (jJ 65) (.nr (Ar .leq 5 bp 90)) bC)
def ar4:aI ayF (fY []) 400 af 137=adu:=by kernel_rfl
def adv:aq:=
 (mT bp 9 bp (.s [99,111,110,115,116,114,97,105,110,116]) gF (M6 9 [116,114,117,101] 9 [102,97,105,108] (M6 9 [105,115] 9 [105,110,116] (.nr (QZ .eql 9 bp (.s [103,114,111,117,110,100]))))))
def ar5:aI ayF (fY []) 400 af 72=adv:=by kernel_rfl
def YD:aq:=
 (pN cE 3 cE (sN 2 3 (pQ 2 4 9 wo bR (sN 2 3 (pQ 2 5 3 C7 bJ gF jK)) jK)) bC)
def ail:aq:=
 (JO YD)
def avE:aI ayF (fY [⟨0,27,2,[(0,(7,0))],[],[],[]⟩]) 400 af 27=ail:=by kernel_rfl
def aj4:aq:=
 (pN ir 7 ir (nX 1 c_ 7 (iu iW .neq iW eo ur (uP 2 7))) (iu ir .neq (rV 1 5) ir ur (Up .neq 9 yy rY (fy 26 yy (lU iW iW 7 (kA 78 bp (wy 1 1 1 1 1 4 1 5) (.nr rh)))) (kA 78 bp (wy 1 1 1 1 1 4 1 5) (.nr iW)))))
def aj5:aq:=
 (lr oM 5 oM 3 cA 5 3 6 (fy 76 (m4 6 6 6) (lU gk gk 2 (oO 5))) (fI 77 1 0 1 1 1 2 1 3 1 4 1 5 (eZ 6 aj4)))
def aj6:aq:=
 (lr nB 4 nB 2 bJ 4 2 5 (CL 75 5 5 (lU c_ c_ 2 sL)) aj5)
def aim:aq:=
 (ue (rW 6 1) (fI 73 1 0 1 1 1 2 1 3 1 4 1 5 (sO (fI 74 1 0 1 1 1 2 1 3 1 4 1 5 (eZ 3 (wq nB .eql nB Aq (nA nB nB 4 Aq (nA q9 q9 12 Aq (nA J6 J6 12 Aq aj6)))))))))
def avF:aI ayF (fY [⟨0,28,17,[(0,(10,0))],[],[],[]⟩,⟨0,28,11,[(0,(8,0))],[],[],[]⟩,⟨0,28,6,[(0,(7,0))],[],[],[]⟩]) 400 af 28=aim:=by kernel_rfl
def adw:aq:=
 (jL 6 (rX 2 40 pR dp (tG 2 40 1 jl yu)))
def ar6:aI ayF (fY []) 400 af 73=adw:=by kernel_rfl
def adx:aq:=
 (jL 6 (rX 3 48 oL mY (tG 3 48 1 aaw yu)))
def ar7:aI ayF (fY []) 400 af 74=adx:=by kernel_rfl
def ain:aq:=
 (yI (yD 26 fJ (qI 1 .leq 3 1 6 (fy 138 dp (.nr bJ)) bC)))
def avG:aI ayF (fY []) 400 af 75=ain:=by kernel_rfl
def VA:aq:=
 (jq F5 cE 1 cE (kb 4 bp 1 4 3 (gG 183 3 3 3 3 (iE da da (kb 4 bp 1 4 5 (gG 136 5 5 5 5 (eH c_ (uy 2 c_) (F6 (uy 2 c_)))))))) (.nr (mU .leq 2 200)))
def ady:aq:=
 (yw VA)
def ar8:aI ayF (fY [⟨0,138,3,[(0,(3,0)),(0,(4,0))],[],[],[]⟩]) 400 af 138=ady:=by kernel_rfl
def adz:aq:=
 (jL 4 (gG 224 0 0 0 0 (.nt bR (gG 136 0 0 0 0 (wb bJ .leq bJ 200 (gG 225 0 0 0 0 (eZ 3 (.nr (C9 cA 20)))) bC)) bC)))
def ar9:aI ayF (fY []) 400 af 183=adz:=by kernel_rfl
def GM:aq:=
 (lr l5 3 l5 4 mY 3 4 4 (gG 224 4 4 4 4 (iE cL cL jK)) gF)
def LQ:aq:=
 (lr l5 2 l5 4 mY 2 4 3 (gG 224 3 3 3 3 (iE da da uh)) gF)
def VB:aq:=
 (lr l5 3 l5 4 mY 3 4 4 (gG 224 4 4 4 4 (iE cL cL jK)) gF)
def adA:aq:=
 (yo 4 0 (Ap 0 0) (CM 1 (-2147483648) (qU .leq 1 2147483648 (SG 9 jl 3 (JV 3)))) (jr 0 1 (CM 1 0 (qU .leq 1 1048576 (SG 9 jl 3 (JV 3)))) 0 2 (MZ 257 jl bR (nY 3 (Bt (aaq 3 2) (pM .neq 1 0) bC (pL (aaq 3 2) (fy 26 jl (iE bJ bJ (JH 3 3 6 GM))) LQ))) (mE .neq 0 1 0 bC (fy 26 jl (iE bJ bJ (JH 3 3 6 VB))))) bC))
def ar_:aI ayF (fY [⟨0,224,11,[(0,(4,0))],[],[],[]⟩]) 400 af 224=adA:=by kernel_rfl
def adB:aq:=
 (mT bp 9 bp (.s [43]) gF (M6 9 [45] 9 [42] (SH 9 [47] (.nr (QZ .eql 9 bp (.s [37]))))))
def asa:aI ayF (fY []) 400 af 257=adB:=by kernel_rfl
def VC:aq:=
 (jq F5 gV 2 gV (kb 4 bR 2 4 4 (gG 225 4 4 4 4 (eH cL (SA (.mx ab lq cL)) (yq 2 (iC (SA (.mx ab lq cL))))))) (.nr (mU .add 3 1)))
def adC:aq:=
 (jL 4 (gG 184 0 0 0 0 (eZ 1 VC)))
def asb:aI ayF (fY [⟨0,225,4,[(0,(3,0)),(0,(5,0))],[],[],[]⟩]) 400 af 225=adC:=by kernel_rfl
def adD:aq:=
 (yo 3 0 (Ap 0 0) (fy 75 (Ly 0 1 0 2) (.nr bR)) (FX 9 dp (yA 139 fJ 1 (mT Gh 3 bR Gh (fy 138 jl (.nr bJ)) bC))))
def asd:aI ayF (fY []) 400 af 76=adD:=by kernel_rfl
def adE:aq:=
 (wb bp .eql bp 1 qW (Gk 2 qW (Gk 11 (v_ 1) (Gk 12 (v_ 1) (.nt (sH .gtr bp 2) (.nt (C6 bp 11) ur JR) JR)))))
def ase:aI ayF (fY []) 400 af 139=adE:=by kernel_rfl
def af6:aq:=
 (jq (q0 3) uu 5 uu (kb 3 da 5 3 7 (tG 4 56 6 (ny 7) (jo 5 8))) (jG 140 (uO 6) (.nr gk)))
def af7:aq:=
 (jq (Ak 4) gV 2 gV (kb 2 bR 2 2 4 (tG 4 56 3 mZ (oJ 2 5))) (fI 74 0 0 0 1 0 2 0 3 0 4 0 5 (eZ 4 af6)))
def adF:aq:=
 (jL 6 (fI 73 0 0 0 1 0 2 0 3 0 4 0 5 (eZ 1 af7)))
def asf:aI ayF (fY [⟨0,77,9,[(0,(3,0)),(0,(7,0))],[(1,3),(1,0)],[],[]⟩,⟨0,77,4,[(0,(3,0)),(0,(5,0))],[(1,3),(1,0)],[],[]⟩]) 400 af 77=adF:=by kernel_rfl
def VD:aq:=
 (jq CU cE 1 cE (q_ 4 bp 1 4 3 (.rws eS) (jG 491 (eI eS (wA 3 3 3 3)) (CS 4))) yu)
def NM:aq:=
 (yw VD)
def ash:aI ayF (fY [⟨0,140,3,[(0,(3,0)),(0,(4,0))],[(0,0)],[],[]⟩]) 400 af 140=NM:=by kernel_rfl
def af8:aq:=
 (pN (nc 11) 12 (nc 11) (nX 1 mX 12 (eZ 13 (kA 146 iW Gg (lU (jT 14) (jT 14) 17 (uP 4 12))))) (uP 3 9))
def af9:aq:=
 (lr q9 9 q9 3 yH 9 3 10 (yA 145 (m4 10 10 10) 11 af8) qW)
def af_:aq:=
 (lr J6 7 J6 3 (rV 1 4) 7 3 8 (MZ 143 (nz 8) rh (v_ 10) (uP 2 7)) (fI 144 1 0 1 1 1 2 1 3 1 4 1 5 (eZ 8 af9)))
def aga:aq:=
 (lr q9 6 q9 3 yH 6 3 7 (fy 143 (nz 7) (gQ iW iW (nX 3 yH 6 (lV 3 9 .neq 9 0 1 (v_ 10) (oO 6))) (oO 6))) af_)
def agb:aq:=
 (lr nB 3 nB 2 bJ 3 2 4 (q_ 2 bJ 3 2 5 qY (qH 141 (As bp 4 0 qY) (uz c_ 38 c_ 0 (.ret c_) jK))) (fI 74 1 0 1 1 1 2 1 3 1 4 1 5 (eZ 4 (kA 142 bp da (uz cL 38 cL 0 (.ret cL) aga)))))
def adG:aq:=
 (ue (rW 6 1) (fI 73 1 0 1 1 1 2 1 3 1 4 1 5 (sO agb)))
def asi:aI ayF (fY [⟨0,78,23,[(0,(12,0))],[],[],[]⟩,⟨0,78,27,[(0,(14,0))],[],[],[]⟩,⟨0,78,17,[(0,(10,0))],[],[],[]⟩,⟨0,78,12,[(0,(9,0))],[],[],[]⟩,⟨0,78,3,[(0,(6,0))],[],[],[]⟩]) 400 af 78=adG:=by kernel_rfl
def VE:aq:=
 (jq (FU (.i 7)) cE 3 cE (sN 2 3 (pQ 2 5 9 (nz 5) bR (yq 3 (JF 9)) (oJ 3 4))) (qZ 27 bp bR bJ (.nt cL qW F2)))
def adH:aq:=
 (JO VE)
def asj:aI ayF (fY [⟨0,141,3,[(0,(7,0)),(0,(8,0))],[],[],[]⟩]) 400 af 141=adH:=by kernel_rfl
def VF:aq:=
 (pN gV 2 gV (nX 3 bR 2 (lV 3 3 .neq 3 0 0 uh (kb 3 bR 2 3 4 (q_ 3 bR 2 3 5 JI (qH 141 (As bp 4 1 JI) (uz c_ 38 c_ 0 (.ret c_) uh)))))) qW)
def adI:aq:=
 (sJ VF)
def asl:aI ayF (fY [⟨0,142,2,[(0,(5,0))],[],[],[]⟩]) 400 af 142=adI:=by kernel_rfl
def adJ:aq:=
 (wb bp .geq bp 5 (.nr (C9 bp 12)) bC)
def asm:aI ayF (fY []) 400 af 143=adJ:=by kernel_rfl
def agc:aq:=
 (jq (Ak 4) gV 2 gV (kb 2 bR 2 2 4 (tG 4 56 3 mZ (oJ 2 5))) (jG 140 (uO 3) (.nr da)))
def adK:aq:=
 (jL 6 (fI 73 0 0 0 1 0 2 0 3 0 4 0 5 (eZ 1 agc)))
def asn:aI ayF (fY [⟨0,144,4,[(0,(3,0)),(0,(5,0))],[(1,3),(1,0)],[],[]⟩]) 400 af 144=adK:=by kernel_rfl
def aio:aq:=
 (jL 3 (fy 140 jl (.nr bR)))
def avH:aI ayF (fY []) 400 af 145=aio:=by kernel_rfl
def VG:aq:=
 (pN cE 2 cE (sN 1 2 (mT cA 3 cA bR gF uh)) bC)
def adL:aq:=
 (sJ VG)
def aso:aI ayF (fY [⟨0,146,2,[(0,(5,0))],[],[],[]⟩]) 400 af 146=adL:=by kernel_rfl
def aip:aq:=
 (jL 6 (rX 2 40 pR dp (tG 2 40 1 jl yu)))
def avI:aI ayF (fY []) 400 af 39=aip:=by kernel_rfl
def am5:List Nat:=[266,24,25,7,69,257,72,26,71,137,70,139,225,145,183,75,76,136,186,140,184,224,138,185,9,28,27,143,77,142,141,74,144,73,146,78,39,95,93,162]
def am6:List Nat:=[226]
def am7:List Nat:=[201]
def am8:List Nat:=[185]
def asp(l:List Hint):fe:=⟨am5,am6,am7,l++[],am8⟩
def LR:aq:=
 (pN (.len yC) 2 (.len yC) (mT (.idx 1 yC eS) 3 (.lk 1 yC eS 0) uw (.next 0 (iC fF)) (oO 2)) (.next 0 (iC fg)))
def LS:aq:=
 (jq (q0 3) uu 5 uu (q_ 4 da 5 4 7 (.rws eg) (jG 491 (eI eg (wA 7 7 7 7)) (oJ 5 8))) (.ret (.rws eg)))
def LU:aq:=
 (jq (q0 0) oM 4 oM (q_ 4 cA 4 4 6 (.rws cT) (jG 491 (eI cT (wA 6 6 6 6)) (F4 7))) (.ret (.rws cT)))
def VH:aq:=
 (.tV LR 1 (pL eS (lT uw (jI 1 8 0 1 uw (gG 184 1 1 1 1 (eZ 4 LS)))) (gG 184 1 1 1 1 (eZ 3 LU))))
def LV:aq:=
 (jq (q0 0) nB 3 nB (q_ 4 bJ 3 4 5 (.rws oI) (jG 491 (eI oI (wA 5 5 5 5)) (oJ 3 6))) (.ret (.rws oI)))
def adM:aq:=
 (lV 4 1 .eql 1 0 1 VH (gG 184 1 1 1 1 (sO LV)))
def asq:AT ayF (asp [⟨0,185,5,[(0,(6,0))],[(0,3),(0,0)],[(0,21),(0,11)],[]⟩,⟨0,185,1000014,[(0,(14,0))],[],[],[]⟩,⟨1,185015,2,[(1,(5,0))],[],[],[]⟩]) 400 1 185=adM:=by kernel_rfl
end Go.Proofs.YtabefplkfkfdfaaGreat
namespace Go.Ev
section
variable{P:Program}{C:Cr}{Q:IV->Prop}{K K':List (List IV->Prop)}{ν:List IV}
def qp{A:Type}(n:Nat)(e:Nat->A->List IV)(mu:Nat->A->Prop)(i:Nat)(vs:List IV):Prop:=∃a',vs=e (i+1) a'/\i+1<=n/\mu (i+1) a'
def qp.mk{A:Type}{n:Nat}{e:Nat->A->List IV}{mu:Nat->A->Prop}{i:Nat}{vs:List IV}(a':A)(h1:vs=e (i+1) a')(h2:i+1<=n)(h3:mu (i+1) a'):qp n e mu i vs:=⟨a',h1,h2,h3⟩
def aB{A:Type}{init:SE}{body:aq}(n:Nat)(e:Nat->A->List IV)(mu:Nat->A->Prop)(a0:A)(GL:kc P ν init=aa (e 0 a0))(h0:mu 0 a0)
 (h:∀i a,i<=n->mu i a->body.sat P C Q (K++[qp n e mu i]) (ν++e i a)):(aq.loop init body).sat P C Q K ν:=
 gS n e mu a0 GL h0 h
def GN{A:Type}(e:A->List IV)(mu:A->Prop)(μ:A->Nat)(a:A)(vs:List IV):Prop:=∃a',vs=e a'/\mu a'/\μ a'<μ a
def GN.mk{A:Type}{e:A->List IV}{mu:A->Prop}{μ:A->Nat}{a:A}{vs:List IV}(a':A)(h1:vs=e a')(h2:mu a')(h3:μ a'<μ a):GN e mu μ a vs:=⟨a',h1,h2,h3⟩
def iv{A:Type}{init:SE}{body:aq}(e:A->List IV)(mu:A->Prop)(μ:A->Nat)(a0:A)(GL:kc P ν init=aa (e a0))(h0:mu a0)
 (h:∀a,mu a->body.sat P C Q (K++[GN e mu μ a]) (ν++e a)):(aq.loop init body).sat P C Q K ν:=
 Iv e mu μ a0 GL h0 h
def Iw(p:List IV->Prop)(vs:List IV):Prop:=p vs
def lB{a b:aq}{m:Nat}(p:List IV->Prop)(h:a.sat P C Q (K++[Iw p]) ν)(hb:∀vs,p vs->vs.length=m/\b.sat P C Q K (ν++vs)):(aq.tV a m b).sat P C Q K ν:=
 ajX p h hb
def noTwo:aq->Bool
 |.pick .. |.uniq .. =>af
 |.test _ a b|.tV a _ b=>noTwo a&&noTwo b
 |.bind _ k|.aC _ k|.call _ _ _ k|.loop _ k|.same _ _ k=>noTwo k
 |_=>ab
def ExK(Q:IV->Prop)(K:List (List IV->Prop))(Kz:IV->List (List IV->Prop)):Prop:=
 (∀z,(Kz z).length=K.length)/\∀(lv:Nat) (p:List IV->Prop) (vs:List IV),K[lv]?=aa p->p vs->∃z,Q z/\∃p':List IV->Prop,(Kz z)[lv]?=aa p'/\p' vs
def ExK.snoc{Kz:IV->List (List IV->Prop)}{p:List IV->Prop}{q:IV->List IV->Prop}(h:ExK Q K Kz)(hp:∀vs,p vs->∃z,Q z/\q z vs):ExK Q (K++[p]) (λz=>Kz z++[q z]):=by
 refine⟨λz=>by simp[h.1 z],λlv r vs hr eB=>?_⟩;by_cases hl:lv<K.length
 .rw[ayZ hl]at hr;obtain⟨z,h1,p',h2,h3⟩:=h.2 lv r vs hr eB;exact⟨z,h1,p',by rw[ayZ (by rw[h.1 z];exact hl)];exact h2,h3⟩
 .have ak:=(ayH.1 hr).1;simp at ak;have:lv=K.length:=aj;subst this;simp at hr;subst hr;obtain⟨z,h1,h2⟩:=hp vs eB;exact⟨z,h1,q z,by simp[<-h.1 z],h2⟩
theorem tX:∀(dv:aq),noTwo dv=ab->∀{K:List (List IV->Prop)} {Kz:IV->List (List IV->Prop)} {ν:List IV},ExK Q K Kz->dv.sat P C Q K ν->∃z,Q z/\dv.sat P C (·=z) (Kz z) ν
 |.fail _,_,_,_,_,_,h=>h.elim
 |.bad ..,_,_,_,_,_,h=>h.elim
 |.pick ..,hn,_,_,_,_,_=>by cases hn
 |.uniq ..,hn,_,_,_,_,_=>by cases hn
 |.same es x k,hn,_,_,_,hK,h=>by
  obtain⟨ds,r,h1,h2,h3⟩:=h;obtain⟨z,g1,g2⟩:=tX k hn hK h3;exact⟨z,g1,ds,r,h1,h2,g2⟩
 |.ret e,_,_,_,_,_,h=>by
  obtain⟨z,h1,h2⟩:=h;exact⟨z,h2,z,h1,rfl⟩
 |.test e a b,hn,_,_,_,hK,h=>by
  simp only[noTwo,ayI]at hn;rcases h with⟨h1,h2⟩|⟨h1,h2⟩
  .obtain⟨z,g1,g2⟩:=tX a hn.1 hK h2;exact⟨z,g1,.inl ⟨h1,g2⟩⟩
  .obtain⟨z,g1,g2⟩:=tX b hn.2 hK h2;exact⟨z,g1,.inr ⟨h1,g2⟩⟩
 |.bind e k,hn,_,_,_,hK,h=>by
  obtain⟨y,h1,h2⟩:=h;obtain⟨z,g1,g2⟩:=tX k hn hK h2;exact⟨z,g1,y,h1,g2⟩
 |.aC e k,hn,_,_,_,hK,h=>by
  obtain⟨z,g1,g2⟩:=tX k hn hK h.2;exact⟨z,g1,h.1,g2⟩
 |.call f new e k,hn,_,_,_,hK,h=>by
  obtain⟨xs,y,h1,h2,h3⟩:=h;obtain⟨z,g1,g2⟩:=tX k hn hK h3;exact⟨z,g1,xs,y,h1,h2,g2⟩
 |.next lv e,_,K,Kz,_,hK,h=>by
  obtain⟨vs,p,h1,h2,h3⟩:=h;obtain⟨z,g1,p',g2,g3⟩:=hK.2 lv p vs h2 h3;exact⟨z,g1,vs,p',h1,g2,g3⟩
 |.tV a m b,hn,K,Kz,ν,hK,h=>by
  simp only[noTwo,ayI]at hn
  exact tX a hn.1 (Kz:=λz=>Kz z++[λvs=>vs.length=m/\b.sat P C (·=z) (Kz z) (ν++vs)]) (hK.snoc λvs eB=>by
   obtain⟨z,g1,g2⟩:=tX b hn.2 hK eB.2;exact⟨z,g1,eB.1,g2⟩) h
 |.loop i b,hn,K,Kz,ν,hK,h=>by
  obtain⟨vs,h1,m,hm⟩:=h
  have key:∀(m:Nat) (vs:List IV),(aCc (motive:=λ_=>List IV->Prop) (λ_=>False) (λ_ ih vs=>b.sat P C Q (K++[ih]) (ν++vs)) m) vs->
   ∃z,Q z/\(aCc (motive:=λ_=>List IV->Prop) (λ_=>False) (λ_ ih vs=>b.sat P C (·=z) (Kz z++[ih]) (ν++vs)) m) vs:=by
   intro m;induction m with
   |zero=>intro vs h;exact h.elim
   |succ m ih=>
    intro vs h;exact tX b hn (Kz:=λz=>Kz z++[aCc (motive:=λ_=>List IV->Prop) (λ_=>False) (λ_ ih vs=>b.sat P C (·=z) (Kz z++[ih]) (ν++vs)) m]) (hK.snoc ih) h
  obtain⟨z,g1,g2⟩:=key m vs hm;exact⟨z,g1,vs,h1,m,g2⟩
def LW{dv:aq}(hn:noTwo dv=ab)(h:dv.sat P C Q [] ν):∃z,Q z/\dv.sat P C (·=z) [] ν:=
 tX dv hn (Kz:=λ_=>[]) ⟨λ_=>rfl,λ_ _ _ h=>by simp at h⟩ h
end
end Go.Ev
