/- Lemmas over the model, without conditions of their own: the ideal machine, and code run on expressions. -/
import Derived.Test.YtabefplkfkfdfaaGreatPAb
open Nat renaming lt_irrefl->aD0,le_refl->ayL,beq->ayQ,lt_of_lt_of_le->aAl,le_trans->ay6,blt->azy,testBit->ay7,eq_of_beq_eq_true->ay0,le_of_not_lt->aCh,lt_of_not_le->aAV,ble->azK
open List renaming getElem?_eq_some_iff->ayH,getElem?_append_left->ayZ,getElem?_set_ne->aAA,range'->aAx,drop_drop->aAR,length_cons->azh,range'_succ->aBf,range->azT,any_eq_true->aAE,mem_filter->azB,mem_cons_of_mem->azg,mem_cons->ayW,all_eq_true->ayY,mem_range->aAi,foldl_cons->azo,getElem_of_mem->aBO,getElem_zipIdx->aCN,mk_mem_zipIdx_iff_getElem?->aAe,getElem?_eq_getElem->ayG,mem_iff_getElem?->aCx,mem_eraseIdx_iff_getElem?->aB6,mem_append->ayS,mem_singleton->ayU
open Option renaming map_eq_some_iff->ayR
open Array renaming getElem?_eq_some_iff->azx,replicate->azF,getElem?_eq_getElem->aza,mem_filter->aB0
open Go.Fence renaming wide->azk
open Go.Sem renaming run_bind->ayT,run_pure->ay9,run->aAz,run_map->aEa
open Go.Result renaming andThen_ok->ayM
open Go.Oper renaming semAt_eq->aAo,uponIn_value->aBt,uponIn_enter->aB4,uponIn->aD6
open Option.some renaming injEq->ayO
open List.cons renaming injEq->aBb
open Bool renaming and_eq_true->ayI,or_eq_true->azp
open Go.Region renaming binds->az7,ready->azJ,wanted->aBH
open Go.Question renaming forced->aAB
open Go.Instr renaming next->aAX
open Classical renaming byContradiction->azs
open Option renaming some->aa,none->ah
open Bool renaming true->ab,false->af
set_option linter.all false
namespace Go.Ev
section
variable{Cx:Cs}
variable{P:Program}{σ au:St}{R R':Rs}{φ aV:Ph}{α:Type}{ev jz:α->Option IV}{L L':List (LO α)}{bad:Nat->Prop}{Γ KB:Gm α}{E:Nat->Env}
def J.rP(h:J Cx ev R φ Γ L E σ):R σ.n=ah:=by
 cases hr:R σ.n with
 |none=>rfl
 |some m=>exact absurd (h.qS _ _ hr) (aD0 _)
def fa{α:Type}{l:List α}{i:Nat}{a:α}(h:l[i]?=aa a):i<l.length:=(ayH.1 h).1
def bU(φ:Ph)(k id:Nat):Ph:=λj=>if j=k then aa id else φ j
def QV(h:J Cx ev R φ Γ L E σ)(ob:Ob):jg R σ R (σ.add ob):=by
 refine⟨λ_ m h=>⟨m,h,ayL _⟩,λid m cs aE mn hR aT=>⟨cs,aE,?_,ayL _,λ_ _=>rfl⟩,λid m cs aE mn hR aT=>?_⟩
 .have:=h.qS _ _ hR
  grind [St.jO]
 .have:=h.qS _ _ hR;rw[St.jO,if_neg aj]at aT;exact h.fits _ _ _ _ _ hR aT
def EJ(h:J Cx ev R φ Γ L E σ)(ob:Ob)(lo:LO α):lj ev ev R φ L σ R (bU φ L.length σ.n) (L++[lo]) (σ.add ob) (λ_=>False):=by
 have hL:∀k o,L[k]?=aa o->(L++[lo])[k]?=aa o/\bU φ L.length σ.n k=φ k:=λk o hk=>by
  have:=fa hk;exact⟨by rw[ayZ this];exact hk,by simp[bU,show k≠L.length by omega]⟩
 refine .mk' (λ_ _ h=>h) (QV h ob) (λk cs hk=>⟨⟨cs,(hL k _ hk).1⟩,(hL k _ hk).2⟩) (λk kt es hk=>⟨⟨es,(hL k _ hk).1⟩,(hL k _ hk).2⟩) (λk s st cut fr z hk _=>⟨⟨st,(hL k _ hk).1⟩,(hL k _ hk).2,λid hid=>?_⟩) (λk c st snap hk=>⟨⟨c,st,snap,(hL k _ hk).1⟩,(hL k _ hk).2⟩);have:=(h.lt _ _ hid).2;rw[St.jO,if_neg aj]
def Cl.a_(c:Cl α):c.ok (λ_=>False):=by cases c<;>simp[Cl.ok]
theorem PV.a_(c:PV α):c.ok (λ_=>False):=by
 cases c with
 |one c=>exact c.a_
 |ag cs=>exactλc _=>c.a_
 |tu vs=>exactλ_ _ c _=>c.a_
theorem LO.a_(o:LO α):o.ok (λ_=>False):=by
 cases o with
 |var cs=>exactλc _=>c.a_
 |_=>trivial
def J.zB(h:J Cx ev R φ Γ L E σ)(ob:Ob)(lo:LO α)(ho:OR Cx ev R (bU φ L.length σ.n) (L++[lo]) (σ.add ob) L.length lo):J Cx ev R (bU φ L.length σ.n) Γ (L++[lo]) E (σ.add ob):=by
 have hs:=EJ h ob lo;refine⟨λd t pv hg=>(h.slot d t pv hg).step hs pv.a_,λk o hk=>?_,λk k' id h1 h2=>?_,λk id hk=>?_,λid m hR=>?_,hs.grow.fits,h.wf.set _ _,λid hid=>?_⟩
 .by_cases fp:k<L.length
  .rw[ayZ fp]at hk;refine(h.obj k o hk).step hs (by grind [bU]) (λid hid=>⟨?_,rfl⟩) o.a_;have:=(h.lt _ _ hid).2
   grind [St.jO]
  grind
 .unfold bU at h1 h2;split at h1<;>split at h2
  .omega
  .cases h1;have:=(h.lt _ _ h2).2;omega
  .cases h2;have:=(h.lt _ _ h1).2;omega
  .exact h.inj k k' id h1 h2
 .unfold bU at hk;split at hk
  .simp_all
  .have:=h.lt _ _ hk;grind [St.add]
 .have:=h.qS _ _ hR;grind [St.add]
 .have j9:σ.n+1<=id:=hid;rw[St.jO,if_neg aj];exact h.top id aj
def J.up(h:J Cx ev R φ Γ L E σ)(fD:∀e z,ev e=aa z->jz e=aa z):J Cx jz R φ Γ L E σ:=by
 have hs:lj ev jz R φ L σ R φ L σ (λ_=>False):=(.mk' fD (jg.refl h.fits) (λk cs hk=>⟨⟨cs,hk⟩,rfl⟩) (λk kt es hk=>⟨⟨es,hk⟩,rfl⟩) (λk s st cut fr z hk _=>⟨⟨st,hk⟩,rfl,λ_ _=>rfl⟩) (λk c st snap hk=>⟨⟨c,st,snap,hk⟩,rfl⟩));exact{h with slot:=λd t pv hg=>(h.slot d t pv hg).step hs pv.a_,obj:=λk o hk=>(h.obj k o hk).step hs rfl (λ_ _=>⟨rfl,rfl⟩) o.a_}
def VR.up{x:IV}{pv:PV α}(h:J Cx ev R φ Γ L E σ)(hx:VR ev R φ L σ x pv)(fD:∀e z,ev e=aa z->jz e=aa z):VR jz R φ L σ x pv:=
 hx.step (bad:=λ_=>False) (.mk' fD (jg.refl h.fits) (λk cs hk=>⟨⟨cs,hk⟩,rfl⟩) (λk kt es hk=>⟨⟨es,hk⟩,rfl⟩) (λk s st cut fr z hk _=>⟨⟨st,hk⟩,rfl,λ_ _=>rfl⟩) (λk c st snap hk=>⟨⟨c,st,snap,hk⟩,rfl⟩)) pv.a_
def Cl.drop(k:Nat):Cl α->Cl α
 |.sr k'=>if ayQ k' k=ab then .un else .sr k'
 |.sv k' lo=>if ayQ k' k=ab then .un else .sv k' lo
 |.pr k' i off ext=>if ayQ k' k=ab then .un else .pr k' i off ext
 |c=>c
def PV.drop(k:Nat):PV α->PV α
 |.one c=>.one (c.drop k)
 |.ag cs=>.ag (cs.map (Cl.drop k))
 |.tu vs=>.tu (vs.map λp=>(p.1,p.2.map (Cl.drop k)))
def LO.drop(k:Nat):LO α->LO α
 |.var cs=>.var (cs.map (Cl.drop k))
 |o=>o
def MN(k:Nat):List (Nat×Nat×PV α)->List (Nat×Nat×PV α)
 |[]=>[]
 |(d,t,pv)::g=>(d,t,pv.drop k)::MN k g
def Cl.oY(k:Nat)(c:Cl α):(c.drop k).ok (·=k):=by
 cases c<;>simp only[Cl.drop]<;>first|trivial|grind [Cl.ok,Nat.beq_eq]
theorem PV.oY(k:Nat)(c:PV α):(c.drop k).ok (·=k):=by
 cases c with
 |one c=>exact c.oY k
 |ag cs=>intro c hc;simp at hc;obtain⟨a,_,rfl⟩:=hc;exact a.oY k
 |tu vs=>intro p hp c hc;obtain⟨q,_,rfl⟩:=List.mem_map.1 hp;simp at hc;obtain⟨a,_,rfl⟩:=hc;exact a.oY k
theorem LO.oY(k:Nat)(o:LO α):(o.drop k).ok (·=k):=by
 cases o with
 |var cs=>intro c hc;simp at hc;obtain⟨a,_,rfl⟩:=hc;exact a.oY k
 |_=>trivial
theorem c9.drop{x:IV}{c:Cl α}(k:Nat)(h:c9 ev R φ L σ x c):c9 ev R φ L σ x (c.drop k):=by
 cases c<;>simp only[Cl.drop]<;>first|exact h|(split<;>first|trivial|exact h)
theorem VR.drop{x:IV}{c:PV α}(k:Nat)(h:VR ev R φ L σ x c):VR ev R φ L σ x (c.drop k):=by
 cases c with
 |one c=>exact c9.drop k h
 |ag cs=>
  have⟨xs,h1,h2⟩:=h;exact⟨xs,h1,h2.map λa b cG=>cG.drop k⟩
 |tu vs=>
  have⟨xs,h1,h2⟩:=h;refine⟨xs,h1,h2.map λa p cG=>?_⟩;unfold vR at cG⊢;split at cG
  .rename_i hb;rw[if_pos hb];have⟨ys,h3,h4⟩:=cG;exact⟨ys,h3,h4.map λa b cG=>cG.drop k⟩
  .rename_i hb;rw[if_neg hb];have⟨c,h3,h4⟩:=cG;exact⟨c.drop k,by grind,h4.drop k⟩
def Lm(h:J Cx ev R φ Γ L E σ)(k:Nat):lj ev ev R φ L σ R φ (L.map (LO.drop k)) σ (λ_=>False):=by
 refine .mk' (λ_ _ h=>h) (jg.refl h.fits) (λj cs hj=>⟨⟨cs.map (Cl.drop k),?_⟩,rfl⟩) (λj kt es hj=>⟨⟨es,?_⟩,rfl⟩) (λj s st cut fr z hj _=>⟨⟨st,?_⟩,rfl,λ_ _=>rfl⟩) (λj c st snap hj=>⟨⟨c,st,snap,?_⟩,rfl⟩)<;>simp[hj,LO.drop]
def HV{d t k:Nat}{pv:PV α}:∀(g:Gm α),cz d t (MN k g)=aa pv->∃q,cz d t g=aa q/\pv=q.drop k:=by
 intro g;induction g with
 |nil=>intro h;cases h
 |cons p g ih=>
  have⟨a,b,q⟩:=p;intro h;rcases ml h with⟨rfl,rfl,rfl⟩|⟨h1,h2⟩
  all_goals simp_all[cz,if_neg]
def J.ZW(h:J Cx ev R φ Γ L E σ)(k:Nat):J Cx ev R φ (MN k Γ) (L.map (LO.drop k)) E σ:=by
 have hs:=Lm h k;refine{h with slot:=λd t pv hg=>?_,obj:=λj o hj=>?_,lt:=λj id hj=>by simpa using h.lt j id hj}
 .obtain⟨q,h1,rfl⟩:=HV Γ hg;exact((h.slot d t q h1).drop k).step hs (PV.a_ _)
 .rw[List.getElem?_map]at hj;obtain⟨o',h1,rfl⟩:=ayR.1 hj;have ho:=(h.obj j o' h1).step hs rfl (λ_ _=>⟨rfl,rfl⟩) (LO.a_ _);cases o' with
  |var cs=>
   have⟨id,cW,a,b,c,d⟩:=ho;exact⟨id,cW,a,b,c,d.map λ_ _ cG=>cG.drop k⟩
  |row=>exact ho
  |mp=>exact ho
  |lp=>exact ho
  |dead=>exact ho
def J.tU(h:J Cx ev R φ Γ L E σ){k id:Nat}{lo kK:LO α}{fB:Ob}(hid:φ k=aa id)(hk:L[k]?=aa lo)(hR:∀j,j≠id->R' j=R j)
 (hle:∀m,R id=aa m->∃m',R' id=aa m'/\m<=m')
 (Ai:∀m cs aE mn,R id=aa m->σ.at id=aa (.cells cs aE mn)->∃bK lP,fB=.cells bK lP mn/\aE<=lP/\∀j,j<m->bK[j]?=cs[j]?)
 (CB:∀m cs aE mn,R' id=aa m->fB=.cells cs aE mn->m<=cs.length)
 (hv:∀cs,lo=.var cs->∃bK,kK=.var bK)(hm:∀kt es,lo=.mp kt es->∃aW,kK=.mp kt aW)(hr:∀s st cut fr z,lo=.row s st cut fr z->bad k)
 (QW:∀d t pv,cz d t Γ=aa pv->pv.ok bad)(hL:∀j o,L[j]?=aa o->j≠k->o.ok bad)
 (ho:lj ev ev R φ L σ R' φ (L.set k kK) (σ.put id fB) bad->OR Cx ev R' φ (L.set k kK) (σ.put id fB) k kK)
 (HW:∀c st snap,lo=.lp c st snap->∃c' dM FG,kK=.lp c' dM FG:=by intro _ _ _ h;cases h):
 lj ev ev R φ L σ R' φ (L.set k kK) (σ.put id fB) bad/\J Cx ev R' φ Γ (L.set k kK) E (σ.put id fB):=by
 have fp:=fa hk;have bA:∀j,j≠k->(L.set k kK)[j]?=L[j]? :=λj hj=>aAA (λhc=>hj hc.symm);have bN:(L.set k kK)[k]?=aa kK:=bc;have ZX:∀j bz,j≠k->φ j=aa bz->bz≠id:=λj bz hj oT hc=>hj (h.inj j k id bc hid)
 have sG:jg R σ R' (σ.put id fB):=by
  refine⟨λbz m hm=>?_,λbz m cs aE mn hm aT=>?_,λbz m cs aE mn hm aT=>?_⟩
  .grind
  .by_cases hc:bz=id
   .simp_all
   grind [St.dt]
  .by_cases hc:bz=id
   .simp_all
   .rw[St.dt,if_neg (λhh=>hc hh.symm)]at aT;exact h.fits bz m cs aE mn bc aT
 have hs:lj ev ev R φ L σ R' φ (L.set k kK) (σ.put id fB) bad:=by
  refine .mk' (λ_ _ h=>h) sG (λj cs hj=>?_) (λj kt es hj=>?_) (λj s st cut fr z hj hb=>?_) (λj c st snap hj=>?_)
  .grind
  .grind
  .by_cases cj:j=k
   .grind
   grind [St.dt]
  grind
 refine⟨hs,⟨λd t pv hg=>(h.slot d t pv hg).step hs (QW d t pv hg),λj o hj=>?_,h.inj,λj bz hj=>by simpa using h.lt j bz hj,λbz m hm=>?_,sG.fits,h.wf.set _ _,λbz j9=>?_⟩⟩
 .by_cases cj:j=k
  .grind
  .rw[bA j cj]at hj;exact(h.obj j o hj).step hs rfl (λbz j9=>⟨by grind [St.dt],hR _ (ZX j bz cj j9)⟩) (hL j o hj cj)
 .by_cases hc:bz=id
  .subst hc;exact(h.lt _ _ hid).2
  .rw[hR bz hc]at hm;exact h.qS _ _ hm
 .have:=(h.lt _ _ hid).2;have Sn:σ.n<=bz:=j9;rw[St.dt,if_neg aj];exact h.top bz Sn
def J.alF(h:J Cx ev R φ Γ L E σ){k:Nat}{lo kK:LO α}{fB:Ob}(hk:L[k]?=aa lo)(hR:∀j,j≠σ.n->R' j=R j)
 (CB:∀m cs aE mn,R' σ.n=aa m->fB=.cells cs aE mn->m<=cs.length)
 (hr:∃s st cut fr z,lo=.row s st cut fr z)(hb:bad k)
 (QW:∀d t pv,cz d t Γ=aa pv->pv.ok bad)(hL:∀j o,L[j]?=aa o->j≠k->o.ok bad)
 (ho:lj ev ev R φ L σ R' (bU φ k σ.n) (L.set k kK) (σ.add fB) bad->OR Cx ev R' (bU φ k σ.n) (L.set k kK) (σ.add fB) k kK):
 lj ev ev R φ L σ R' (bU φ k σ.n) (L.set k kK) (σ.add fB) bad/\J Cx ev R' (bU φ k σ.n) Γ (L.set k kK) E (σ.add fB):=by
 have fp:=fa hk;have bA:∀j,j≠k->(L.set k kK)[j]?=L[j]? :=λj hj=>aAA (λhc=>hj hc.symm);have bN:(L.set k kK)[k]?=aa kK:=by simp[fp]
 have kh:∀j,j≠k->bU φ k σ.n j=φ j:=λj hj=>by simp[bU,hj]
 have sG:jg R σ R' (σ.add fB):=by
  refine⟨λbz m hm=>?_,λbz m cs aE mn hm aT=>?_,λbz m cs aE mn hm aT=>?_⟩
  .have:=h.qS _ _ hm;exact⟨m,by rw[hR bz aj];exact hm,ayL _⟩
  .have:=h.qS _ _ hm;exact⟨cs,aE,by rw[St.jO,if_neg aj];exact aT,ayL _,λ_ _=>rfl⟩
  .by_cases hc:bz=σ.n
   .subst hc;rw[St.jO,if_pos rfl]at aT;exact CB m cs aE mn hm (by injection aT)
   .rw[St.jO,if_neg (λhh=>hc hh.symm)]at aT;exact h.fits bz m cs aE mn (by rw[<-hR bz hc];exact hm) aT
 have hs:lj ev ev R φ L σ R' (bU φ k σ.n) (L.set k kK) (σ.add fB) bad:=by
  obtain⟨s,st,cut,fr,z,rfl⟩:=hr;refine .mk' (λ_ _ h=>h) sG (λj cs hj=>?_) (λj kt es hj=>?_) (λj s st cut fr z hj u7=>?_) (λj c st snap hj=>?_)
  .by_cases cj:j=k
   .subst cj;rw[hk]at hj;cases hj
   .exact⟨⟨cs,by rw[bA j cj];exact hj⟩,kh j cj⟩
  .by_cases cj:j=k
   .subst cj;rw[hk]at hj;cases hj
   .exact⟨⟨es,by rw[bA j cj];exact hj⟩,kh j cj⟩
  .by_cases cj:j=k
   .subst cj;exact absurd hb u7
   .exact⟨⟨st,by rw[bA j cj];exact hj⟩,kh j cj,λbz j9=>by have:=(h.lt _ _ j9).2;rw[St.jO,if_neg aj]⟩
  .by_cases cj:j=k
   .subst cj;rw[hk]at hj;cases hj
   .exact⟨⟨c,st,snap,by rw[bA j cj];exact hj⟩,kh j cj⟩
 refine⟨hs,⟨λd t pv hg=>(h.slot d t pv hg).step hs (QW d t pv hg),λj o hj=>?_,λj j' bz h1 h2=>?_,λj bz hj=>?_,λbz m hm=>?_,sG.fits,h.wf.set _ _,λbz j9=>?_⟩⟩
 .by_cases cj:j=k
  .subst cj;rw[bN]at hj;cases hj;exact ho hs
  .rw[bA j cj]at hj;refine(h.obj j o hj).step hs (kh j cj) (λbz j9=>?_) (hL j o hj cj);have:=(h.lt _ _ j9).2;exact⟨by rw[St.jO,if_neg aj],hR _ aj⟩
 .unfold bU at h1 h2;split at h1<;>split at h2
  .omega
  .cases h1;have:=(h.lt _ _ h2).2;omega
  .cases h2;have:=(h.lt _ _ h1).2;omega
  .exact h.inj j j' bz h1 h2
 .unfold bU at hj;split at hj
  .cases hj;simp;omega
  .have:=h.lt _ _ hj;simp;omega
 .by_cases hc:bz=σ.n
  .simp;omega
  .rw[hR bz hc]at hm;have:=h.qS _ _ hm;simp;omega
 .have Sn:σ.n+1<=bz:=j9;rw[St.jO,if_neg aj];exact h.top bz aj
variable{N:Nat}{ι:Io}{w:World}{e:Env}{rd:Option Nat}{fn:FuncId}{df:List Df}
def FI(B:Nat)(ι:Io)(w:World)(σ:St)(id:Nat):Prop:=∃l,ι id 0=aa l/\σ.at id=ah/\id<σ.n/\B<=l.b/\w.heap[l.b]?=aa (.deferred (aa []))
def zW(B:Nat)(ι:Io)(w:World)(σ:St)(df:List Df)(xs:List Deferred):Prop:=B<=w.heap.size/\∃ids:List Nat,mf ι (ids.map .xu++df) xs/\(∀id∈ids,FI B ι w σ id)/\ids.Nodup
def FI.step{B ro id:Nat}{aM:Io}{w':World}(hi:Inv N ι σ w)(hl:Le ro ι w σ aM w' au)(h:FI B ι w σ id):FI B aM w' au id:=by
 have⟨l,h1,h2,h3,h4,h5⟩:=h;refine⟨l,hl.ext _ _ _ h1,hl.dead id h2 (.inl h3),aAl h3 hl.zy,h4,?_⟩;rw[hl.frame l.b (azx.1 h5).1 λbz j9=>.inr ?_]
 .omega
 .rw[hi.inj bz id l.b j9 ⟨0,l,h1,rfl⟩];omega
theorem zW.step{B ro:Nat}{aM:Io}{w':World}{xs:List Deferred}(hi:Inv N ι σ w)(hl:Le ro ι w σ aM w' au)(h:zW B ι w σ df xs):zW B aM w' au df xs:=by
 have⟨h0,ids,h1,h2,h3⟩:=h;exact⟨ay6 h0 hl.size,ids,h1.mono hl.ext,λid hid=>(h2 id hid).step hi hl,h3⟩
def zW.start:zW w.heap.size ι w σ [] []:=⟨ayL _,[],trivial,λ_ h=>(by cases h),List.nodup_nil⟩
def yh(B N ro:Nat)(ι:Io)(w:World)(σ:St)(cr:CR)(Q:Exit->Act->World->Prop):Prop:=
 ∀a' w' aM ch,Inv N aM cr.σ w'->Le ro ι w σ aM w' cr.σ->dc aM cr.e a'.tmps->zW B aM w' cr.σ cr.df a'.defers->Tu aM ch cr.ex->Q (HN ch cr.ex) a' w'
def yh.from{B ro:Nat}{cr:CR}{Q:Exit->Act->World->Prop}{bQ:Io}{w1:World}{av:St}(h:yh B N ro ι w σ cr Q)(hi:Inv N ι σ w)(hl:Le ro ι w σ bQ w1 av)(hn:av.n<=N):yh B N ro bQ w1 av cr Q:=
 λa' w' aM ch h1 h2 h3 h4 h5=>h a' w' aM ch h1 (Le.trans (λid h1 h2=>hi.fresh id h1 aj) hl h2) h3 h4 h5
theorem HX{B:Nat}{fn:Func}{ts:Array Value}{R:Ending->World->Prop}{m:Option IV}{u:FrameMode}(hu:pG ι m u):∀{ids:List Nat} {ds:List Deferred} {w:World},mf ι (ids.map .xu++df) ds->(∀id∈ids,FI B ι w σ id)->ids.Nodup->Inv N ι σ w->
 (∀w' qe,mf ι df qe->Inv N ι σ w'->(∀ro gz w0 er,w0.heap.size<=B->Le ro gz w0 er ι w σ->Le ro gz w0 er ι w' σ)->LeavesInM azk 0 P fn ts R qe u w')->LeavesInM azk 0 P fn ts R ds u w
 |[],ds,w,hd,_,_,hi,hQ=>hQ w ds hd hi λ_ _ _ _ _ h=>h
 |id::ids,d::ds,w,hd,So,jA,hi,hQ=>by
  obtain⟨⟨l,hl,rfl⟩,vH⟩:=hd;have⟨l',cJ,aT,ak,hB,hh⟩:=So id aw;rw[hl]at cJ;cases cJ;have bo:=(azx.1 hh).1
  have bA:∀b,b≠l.b->(w.heap.setIfInBounds l.b (.deferred ah))[b]?=w.heap[b]? :=λb hb=>by
   grind
  have pE:∀bz b,Own ι bz b->bz≠id->b≠l.b:=λbz b ho bA hb=>bA (hi.inj bz id l.b (hb▸ho) ⟨0,l,hl,rfl⟩)
  have i1:Inv N ι σ {w with heap:=w.heap.setIfInBounds l.b (.deferred ah)}:=by
   refine⟨λb c hb=>?_,hi.sep,λbz b ho=>by simpa using hi.gU bz b ho,hi.fresh,hi.inj,λbz o ho=>?_,hi.wf⟩
   .have⟨e,f,h⟩:=hi.mem b c hb
    grind
   .have hid:bz≠id:=λhc=>by grind
    exact(hi.obj bz o ho).vz (Ext.refl _) (λ_=>rfl) λb hb=>bA b (pE bz b hb hid)
  have alG:∀bz∈ids,FI B ι {w with heap:=w.heap.setIfInBounds l.b (.deferred ah)} σ bz:=λbz j9=>by
   have⟨l',a1,a2,a3,a4,a5⟩:=So bz bc;have:bz≠id:=λhc=>by grind
   exact⟨l',a1,a2,a3,a4,by rw[bA _ (pE bz l'.b ⟨0,l',a1,rfl⟩ this)];omega⟩
  refine⟨Ov hu,.inl ⟨l.b,_,rfl,?_,HX hu vH alG (List.nodup_cons.1 jA).2 i1 λw' qe CE iw hw=>hQ w' qe CE iw λro gz w0 er h0 hle=>hw ro gz w0 er h0 ?_⟩⟩
  .simp only[Instr.takeDeferred,ayT,c7 (P:=P) hh aw,ayM,gC (P:=P) hh aw,ay9]
  .exact{hle with os:=hle.os,tape:=hle.tape,output:=hle.output,size:=bc,frame:=λb hb hc=>by rw[bA b aj];exact hle.frame b hb hc}
 |_::_,[],_,h,_,_,_,_=>h.elim
abbrev lz:=Ex->Env->St->Prop
def cY(P:Program)(N:Nat)(rd:Option Nat)(c:Code)(e:Env)(df:List Df)(σ:St)(CW:lz):Prop:=
 ∀B F ι a w Q,kH F rd ι->Inv N ι σ w->dc ι e a.tmps->zW B ι w σ df a.defers->(∀ex e' au,CW ex e' au->yh B N 0 ι w σ ⟨ex,e',df,au⟩ Q)->c.wpIn F 0 P Q a w
def qy(P:Program)(N:Nat)(rd:Option Nat)(j:Nat)(c:Code)(e:Env)(df:List Df)(σ:St)(CW:lz):Prop:=
 ∀B F ι a w Q,kH F rd ι->Inv N ι σ w->dc ι e a.tmps->zW B ι w σ df a.defers->(∀ex e' au,CW ex e' au->yh B N 0 ι w σ ⟨ex,e',df,au⟩ Q)->Code.roundsIn F 0 P c Q j a w
def dK(P:Program)(N:Nat)(rd:Option Nat)(ops:Array Oper)(l:List Oper)(e:Env)(df:List Df)(σ:St)(CW:lz):Prop:=
 ∀B F ι a w Q k,ops.toList.drop k=l->kH F rd ι->Inv N ι σ w->dc ι e a.tmps->zW B ι w σ df a.defers->(∀ex e' au,CW ex e' au->yh B N 0 ι w σ ⟨ex,e',df,au⟩ Q)->
  wpOpsIn F 0 P ops Q (aAx k l.length) a w
def fc(P:Program)(N:Nat)(f:FuncId)(args:List IV)(σ:St)(RW:IV->St->Prop):Prop:=
 ∀ι us w,Inv N ι σ w->aN ι args us->CallsIn azk 0 P f us.toArray w (λed w'=>∃v au,RW v au/\Af N 0 ι w σ v au ed w')
variable{CW CW':lz}
def Bh{ex:Ex}{a:Act}{Q:Exit->Act->World->Prop}(hi:Inv N ι σ w)(he:dc ι e a.tmps){B:Nat}(hd:zW B ι w σ df a.defers)(hQ:yh B N 0 ι w σ ⟨ex,e,df,σ⟩ Q)(hp:Tu ι [] ex):Q (HN [] ex) a w:=
 hQ a w ι [] hi (Le.refl _ _ _ _) he hd hp
theorem cY.skip(h:CW .normal e σ):cY P N rd .skip e df σ CW:=
 λ_ _ ι a w _ _ hi he hd hQ=>wpIn_skip (Bh hi he hd (hQ _ _ _ h) trivial)
theorem cY.label{l:Nat}(h:CW .normal e σ):cY P N rd (.label l) e df σ CW:=
 λ_ _ ι a w _ _ hi he hd hQ=>wpIn_label (Bh hi he hd (hQ _ _ _ h) trivial)
theorem cY.exit{id:Nat}(h:CW (.exit id) e σ):cY P N rd (.exit id) e df σ CW:=
 λ_ _ ι a w _ _ hi he hd hQ=>wpIn_exit (Bh hi he hd (hQ _ _ _ h) trivial)
theorem cY.ret(h:CW .ret e σ):cY P N rd .ret e df σ CW:=
 λ_ _ ι a w _ _ hi he hd hQ=>wpIn_ret (Bh hi he hd (hQ _ _ _ h) trivial)
def y_(N:Nat)(next:Env->St->Prop)(CW:lz):lz:=λex e1 av=>av.n<=N/\(ex=.normal->next e1 av)/\(ex≠.normal->CW ex e1 av)
theorem cY.seq{x y:Code}(h:cY P N rd x e df σ (y_ N (λe1 av=>cY P N rd y e1 df av CW) CW)):cY P N rd (.seq x y) e df σ CW:=by
 intro B F ι a w Q hF hi he hd hQ;refine wpIn_seq (h B F ι a w _ hF hi he hd λex e1 av hc=>?_);have⟨hn,h1,h2⟩:=hc;intro a1 w1 bQ fC i1 l1 cS d1 p1;cases ex with
 |normal=>
  refine h1 rfl B F bQ a1 w1 Q (hF.mono l1.ext) i1 cS d1 λex e' au hc=>(hQ ex e' au hc).from hi l1 hn
 |exit id=>exact hQ _ _ _ (h2 aw) a1 w1 bQ fC i1 l1 cS d1 p1
 |goto l=>exact hQ _ _ _ (h2 aw) a1 w1 bQ fC i1 l1 cS d1 p1
 |ret=>exact hQ _ _ _ (h2 aw) a1 w1 bQ fC i1 l1 cS d1 p1
 |cg v=>exact hQ _ _ _ (h2 aw) a1 w1 bQ fC i1 l1 cS d1 p1
theorem cY.cond{c:Operand}{x y:Code}{t:Bool}(hc:aD e c=.raw (.bool t))(h:cY P N rd (if t then x else y) e df σ CW):cY P N rd (.cond c x y) e df σ CW:=
 λB F ι a w Q hF hi he hd hQ=>wpIn_cond (Lb hc (he.eval c)) (h B F ι a w Q hF hi he hd hQ)
theorem cY.block{id:Nat}{x:Code}(h:cY P N rd x e df σ (λex e1 av=>CW (match ex with|.exit i=>if i=id then .normal else .exit i|ex=>ex) e1 av)):cY P N rd (.block id x) e df σ CW:=by
 intro B F ι a w Q hF hi he hd hQ;refine wpIn_block (h B F ι a w _ hF hi he hd λex e1 av hc=>?_);intro a1 w1 bQ fC i1 l1 cS d1 p1;cases ex with
 |exit i=>
  simp only[HN,Exit.inBlock];simp only at hc;split
  .rename_i hh;rw[if_pos hh]at hc;exact hQ _ _ _ hc a1 w1 bQ fC i1 l1 cS d1 trivial
  .rename_i hh;rw[if_neg hh]at hc;exact hQ _ _ _ hc a1 w1 bQ fC i1 l1 cS d1 trivial
 |normal=>exact hQ _ _ _ hc a1 w1 bQ fC i1 l1 cS d1 p1
 |goto l=>exact hQ _ _ _ hc a1 w1 bQ fC i1 l1 cS d1 p1
 |ret=>exact hQ _ _ _ hc a1 w1 bQ fC i1 l1 cS d1 p1
 |cg v=>exact hQ _ _ _ hc a1 w1 bQ fC i1 l1 cS d1 p1
theorem cY.scope{x:Code}(h:cY P N rd x e df σ (λex e1 av=>(∀l,ex≠.goto l)/\CW ex e1 av)):cY P N rd (.scope x) e df σ CW:=by
 intro B F ι a w Q hF hi he hd hQ;refine ME (h B F ι a w _ hF hi he hd λex e1 av hc=>?_);have⟨hx,hc⟩:=hc;intro a1 w1 bQ fC i1 l1 cS d1 p1;have:=hQ _ _ _ hc a1 w1 bQ fC i1 l1 cS d1 p1;cases hh:ex<;>rw[hh]at this<;>first|grind|exact this
def qy.succ{x:Code}{j:Nat}(h:cY P N rd x e df σ (y_ N (λe1 av=>qy P N rd j x e1 df av CW) CW)):qy P N rd (j+1) x e df σ CW:=by
 intro B F ι a w Q hF hi he hd hQ;rw[roundsIn_succ];refine h B F ι a w _ hF hi he hd λex e1 av hc=>?_;have⟨hn,h1,h2⟩:=hc;intro a1 w1 bQ fC i1 l1 cS d1 p1;cases ex with
 |normal=>
  refine h1 rfl B F bQ a1 w1 Q (hF.mono l1.ext) i1 cS d1 λex e' au hc=>(hQ ex e' au hc).from hi l1 hn
 |exit id=>exact hQ _ _ _ (h2 aw) a1 w1 bQ fC i1 l1 cS d1 p1
 |goto l=>exact hQ _ _ _ (h2 aw) a1 w1 bQ fC i1 l1 cS d1 p1
 |ret=>exact hQ _ _ _ (h2 aw) a1 w1 bQ fC i1 l1 cS d1 p1
 |cg v=>exact hQ _ _ _ (h2 aw) a1 w1 bQ fC i1 l1 cS d1 p1
theorem cY.loop{x:Code}{j:Nat}(h:qy P N rd j x e df σ CW):cY P N rd (.loop x) e df σ CW:=
 λB F ι a w Q hF hi he hd hQ=>wpIn_loop_rounds j (h B F ι a w Q hF hi he hd hQ)
theorem cY.region{id:Nat}{ops:Array Oper}(h:dK P N rd ops ops.toList e df σ CW):cY P N rd (.region id ops af) e df σ CW:=by
 intro B F ι a w Q hF hi he hd hQ;refine wpIn_region ?_;have:=h B F ι a w Q 0 aw hF hi he hd hQ
 simp_all[List.range_eq_range']
def cY.ofS{c:Code}{x:Ex}{e':Env}(h:∀df,gD P 0 rd fn c e df σ ⟨x,e',df,au⟩)(hn:au.n<=N)(hc:CW x e' au):cY P N rd c e df σ CW:=by
 intro B F ι a w Q hF hi he hd hQ;have⟨hB,ids,h1,h2,jA⟩:=hd;refine(h (ids.map .xu++df)).wp hn hF hi he h1 ?_;intro a' w' aM ch i1 l1 e1 d1 p1;exact hQ _ _ _ hc a' w' aM ch i1 l1 e1 ⟨ay6 hB l1.size,ids,d1,λid hid=>(h2 id hid).step hi l1,jA⟩ p1
variable{ops:Array Oper}{o:Oper}{l:List Oper}
def dK.nil(h:CW .normal e σ):dK P N rd ops [] e df σ CW:=
 λ_ _ ι a w _ _ _ _ hi he hd hQ=>Bh hi he hd (hQ _ _ _ h) trivial
def dK.cons(hw:aY o ops e=ab)
 (h:∀B F ι a w Q k,ops.toList.drop (k+1)=l->kH F rd ι->Inv N ι σ w->dc ι e a.tmps->zW B ι w σ df a.defers->(∀ex e' au,CW ex e' au->yh B N 0 ι w σ ⟨ex,e',df,au⟩ Q)->
  o.wpIn F 0 P a w (wpOpsIn F 0 P ops Q (aAx (k+1) l.length)) Q):dK P N rd ops (o::l) e df σ CW:=by
 intro B F ι a w Q k hl hF hi he hd hQ
 have kj:ops.toList.drop (k+1)=l:=by
  rw[<-aAR (i:=1) (j:=k),hl];rfl
 have bf:ops[k]?=aa o:=by
  have:(ops.toList.drop k)[0]?=aa o:=bc
  grind
 simp only[azh,aBf];rw[wpOpsIn_cons];unfold wpOpIn;rw[bf];simp only;rw[u_ he,if_pos hw]
 grind
def dK.skip(hw:aY o ops e=af)(h:dK P N rd ops l (e.put o.dst .undef) df σ CW):dK P N rd ops (o::l) e df σ CW:=by
 intro B F ι a w Q k hl hF hi he hd hQ
 have kj:ops.toList.drop (k+1)=l:=by
  rw[<-aAR (i:=1) (j:=k),hl];rfl
 have bf:ops[k]?=aa o:=by
  have:(ops.toList.drop k)[0]?=aa o:=bc
  grind
 simp only[azh,aBf];rw[wpOpsIn_cons];unfold wpOpIn;rw[bf];simp only;rw[u_ he,hw,if_neg aw];exact⟨λf _=>hF.fn f,h B F ι _ w Q (k+1) kj hF hi (he.put uG _) (by cases o.dst<;>exact hd) hQ⟩
theorem dK.val{v:IV}{av:St}(hw:aY o ops e=ab)(hv:aA P 0 (aD e) o σ=aa (.val v av))(hn:av.n<=N)(h:dK P N rd ops l (e.put o.dst v) df av CW):dK P N rd ops (o::l) e df σ CW:=by
 refine .cons hw λB F ι a w Q k hl hF hi he hd hQ=>?_;refine⟨λf _=>hF.fn f,?_⟩;rw[aAo _ _ _ (jd hv aw)];have⟨u,w',aM,hr,h2,h3,h4⟩:=qO hi he.eval hv hn
 have key:=
  h B F aM _ w' Q (k+1) hl (hF.mono h4.ext) h3 ((he.mono h4.ext).put h2 _) (by have:=hd.step hi h4;cases o.dst<;>exact this) (λex e' au hc=>(hQ ex e' au hc).from hi h4 hn)
 rcases hr with hr|⟨hr,rfl⟩
 all_goals simp_all[aBt,Oper.uponIn_skip]
def dK.call{f:FuncId}{args:List IV}{RW:IV->St->Prop}(hw:aY o ops e=ab)(hv:aA P 0 (aD e) o σ=aa (.enter f args))(hc:fc P N f args σ RW)
 (h:∀v av,RW v av->av.n<=N/\dK P N rd ops l (e.put o.dst v) df av CW):dK P N rd ops (o::l) e df σ CW:=by
 refine .cons hw λB F ι a w Q k hl hF hi he hd hQ=>?_;refine⟨λf _=>hF.fn f,?_⟩;rw[aAo _ _ _ (jd hv aw)];have⟨us,hr,h3⟩:=qO hi he.eval hv;rw[hr,aB4];refine⟨hF.depth,(hF.calls (hc ι us w hi h3)).mono λed w' hR=>?_⟩;have⟨v,av,vT,hR⟩:=hR;have⟨hn,h⟩:=h v av vT;cases ed with
 |returned u=>
  have⟨aM,h2,h3,h4⟩:=hR;exact h B F aM _ w' Q (k+1) hl (hF.mono h4.ext) h3 ((he.mono h4.ext).put h2 _) (by have:=hd.step hi h4;cases o.dst<;>exact this) (λex e' au hc=>(hQ ex e' au hc).from hi h4 hn)
 |outgrown=>cases hR
 |panicked chain=>cases hR
def fc.ofS{f:FuncId}{args:List IV}{v:IV}(h:lN P 0 f args σ v au)(hn:au.n<=N):fc P N f args σ (λv1 av=>v1=v/\av=au):=
 λι us w hi hr=>(h.2 N hn ι us w hi hr).mono λed w' hR=>⟨v,au,⟨rfl,rfl⟩,hR⟩
theorem fc.body{f:FuncId}{fn:Func}{c:Code}{args:List IV}{RW:IV->St->Prop}(dk:P.funcs[f]?=aa fn)(hb:fn.body=aa c)(hlen:args.length<=fn.ntmps)
 (h:cY P N ah c (eh args fn.ntmps) [] σ (λex e1 av=>(ex=.normal\/ex=.ret)/\av.n<=N/\∃v,dh P fn e1 av=aa v/\RW v av)):fc P N f args σ RW:=by
 intro ι us w hi hr;refine callsIn_of_wp_marks dk hb trivial ?_;refine h w.heap.size azk ι {tmps:=us.toArray++azF (fn.ntmps- us.toArray.size) Go.undef,defers:=[]} w _ (.inl ⟨rfl,rfl⟩) hi (A9 hr hlen) zW.start λex e1 av hc=>?_;have⟨hex,hn,v,hv,vT⟩:=hc;intro a1 w1 bQ fC i1 l1 cS d1 p1;have⟨_,ids,XQ,XS,XT⟩:=d1
 have:∀u,pG bQ ah u->LeavesInM azk 0 P fn a1.tmps (λed w'=>∃v au,RW v au/\Af N 0 ι w σ v au ed w') a1.defers u w1:=λu hu=>
  HX hu XQ XS XT i1 λw2 TR Ks i2 l2=>by
   obtain rfl:=Ks.nil;rw[show u=_ from hu];have⟨u,k1,k2⟩:=vI hv i2 cS;exact⟨u,k1,v,av,vT,bQ,k2,i2,l2 _ _ _ _ (ayL _) l1⟩
 rcases hex with rfl|rfl
 .exact this _ rfl
 .exact this _ rfl
def vU(P:Program)(N:Nat)(f:FuncId)(args:List IV)(σ:St)(RW PW:IV->St->Prop):Prop:=
 ∀ι us w,Inv N ι σ w->aN ι args us->CallsIn azk 0 P f us.toArray w (λed w'=>(∃v au,RW v au/\Af N 0 ι w σ v au ed w')\/(∃v au,PW v au/\Sh N 0 ι w σ v au ed w'))
def fc.toX{f:FuncId}{args:List IV}{RW PW:IV->St->Prop}(h:fc P N f args σ RW):vU P N f args σ RW PW:=
 λι us w hi hr=>(h ι us w hi hr).mono λ_ _ hR=>.inl hR
def vU.toW{f:FuncId}{args:List IV}{RW PW:IV->St->Prop}(h:vU P N f args σ RW PW)(hp:∀v au,¬PW v au):fc P N f args σ RW:=
 λι us w hi hr=>(h ι us w hi hr).mono λ_ _ hR=>hR.elim id λ⟨v,au,h,_⟩=>absurd h (hp v au)
def dK.panic{v:IV}(hw:aY o ops e=ab)(hv:aA P 0 (aD e) o σ=aa (.cg v))(h:CW (.cg v) e σ):dK P N rd ops (o::l) e df σ CW:=by
 refine .cons hw λB F ι a w Q k hl hF hi he hd hQ=>?_;refine⟨λf _=>hF.fn f,?_⟩;rw[aAo _ _ _ (jd hv aw)];have⟨u,hr,h3⟩:=qO hi he.eval hv;rw[hr,Oper.uponIn_panic];exact hQ _ _ _ h a w ι [{v:=u,recovered:=af}] hi (Le.refl _ _ _ _) he hd ⟨u,rfl,h3⟩
def dK.ZY{f:FuncId}{args:List IV}{RW PW:IV->St->Prop}(hw:aY o ops e=ab)(hv:aA P 0 (aD e) o σ=aa (.enter f args))(hc:vU P N f args σ RW PW)
 (h:∀v av,RW v av->av.n<=N/\dK P N rd ops l (e.put o.dst v) df av CW)(hp:∀v av,PW v av->CW (.cg v) e av):dK P N rd ops (o::l) e df σ CW:=by
 refine .cons hw λB F ι a w Q k hl hF hi he hd hQ=>?_;refine⟨λf _=>hF.fn f,?_⟩;rw[aAo _ _ _ (jd hv aw)];have⟨us,hr,h3⟩:=qO hi he.eval hv;rw[hr,aB4];refine⟨hF.depth,(hF.calls (hc ι us w hi h3)).mono λed w' hR=>?_⟩;rcases hR with⟨v,av,vT,hR⟩|⟨v,av,TS,hR⟩
 .have⟨hn,h⟩:=h v av vT;cases ed with
  |returned u=>
   have⟨aM,h2,h3,h4⟩:=hR;exact h B F aM _ w' Q (k+1) hl (hF.mono h4.ext) h3 ((he.mono h4.ext).put h2 _) (by have:=hd.step hi h4;cases o.dst<;>exact this) (λex e' au hc=>(hQ ex e' au hc).from hi h4 hn)
  |outgrown=>cases hR
  |panicked chain=>cases hR
 .cases ed with
  |returned u=>cases hR
  |outgrown=>cases hR
  |panicked chain=>
   have⟨aM,h4,h5,h6⟩:=hR;exact hQ _ _ _ (hp v av TS) a w' aM chain h5 h6 (he.mono h6.ext) (hd.step hi h6) h4
def AK(σ:St)(id:Nat)(x:IV):St:=((σ.add (.cells [.int 0] 0 0)).put σ.n (.cells [x] 0 0)).put id (.cells [x] 0 0)
def HY(P:Program)(g:FuncId)(t:TypeId):Prop:=
 ∀(N:Nat) (cl:IV) (f:FuncId) (as:List IV) (σ:St) (RW PW XU:IV->St->Prop),iH P cl []=aa (.enter f as)->σ.n+1<=N->vU P N f as (σ.add (.cells [.int 0] 0 0)) RW PW->
  (∀v cO,RW v cO->cO.at σ.n=aa (.cells [.int 0] 0 0)/\cO.n<=N/\XU (.int 0) (cO.put σ.n (.cells [.int 0] 0 0)))->
  (∀v cO,PW v cO->∃u,v=.dP t (.agg [.raw u])/\ao (.raw u)=ab/\cO.at σ.n=aa (.cells [.int 0] 0 0)/\cO.n+1<=N/\σ.n<cO.n/\XU (.raw u) (AK cO σ.n (.raw u)))->fc P N g [cl] σ XU
theorem vU.body{f:FuncId}{fn:Func}{c:Code}{args:List IV}{RW PW:IV->St->Prop}(dk:P.funcs[f]?=aa fn)(hb:fn.body=aa c)(hlen:args.length<=fn.ntmps)
 (h:cY P N ah c (eh args fn.ntmps) [] σ (λex e1 av=>av.n<=N/\(((ex=.normal\/ex=.ret)/\∃v,dh P fn e1 av=aa v/\RW v av)\/∃v,ex=.cg v/\PW v av))):vU P N f args σ RW PW:=by
 intro ι us w hi hr;refine callsIn_of_wp_marks dk hb trivial ?_;refine h w.heap.size azk ι {tmps:=us.toArray++azF (fn.ntmps- us.toArray.size) Go.undef,defers:=[]} w _ (.inl ⟨rfl,rfl⟩) hi (A9 hr hlen) zW.start λex e1 av hc=>?_;have⟨hn,hc⟩:=hc;intro a1 w1 bQ fC i1 l1 cS d1 p1;have⟨_,ids,XQ,XS,XT⟩:=d1;rcases hc with⟨hex,v,hv,vT⟩|⟨v,rfl,TS⟩
 .have:∀u,pG bQ ah u->LeavesInM azk 0 P fn a1.tmps (λed w'=>(∃v au,RW v au/\Af N 0 ι w σ v au ed w')\/(∃v au,PW v au/\Sh N 0 ι w σ v au ed w')) a1.defers u w1:=λu hu=>
   HX hu XQ XS XT i1 λw2 TR Ks i2 l2=>by
    obtain rfl:=Ks.nil;rw[show u=_ from hu];have⟨u,k1,k2⟩:=vI hv i2 cS;exact⟨u,k1,.inl ⟨v,av,vT,bQ,k2,i2,l2 _ _ _ _ (ayL _) l1⟩⟩
  rcases hex with rfl|rfl
  .exact this _ rfl
  .exact this _ rfl
 .have:∀u,pG bQ (aa v) u->LeavesInM azk 0 P fn a1.tmps (λed w'=>(∃v au,RW v au/\Af N 0 ι w σ v au ed w')\/(∃v au,PW v au/\Sh N 0 ι w σ v au ed w')) a1.defers u w1:=λu hu=>
   HX hu XQ XS XT i1 λw2 TR Ks i2 l2=>by
    obtain rfl:=Ks.nil;obtain⟨x,rfl,hx⟩:=hu;exact .inr ⟨v,av,TS,bQ,⟨x,rfl,hx⟩,i2,l2 _ _ _ _ (ayL _) l1⟩
  obtain⟨u,rfl,hu⟩:=p1;exact this _ ⟨u,rfl,hu⟩
def eK.TT{new:Bool}{f:FuncId}{xs:List IV}{z:IV}{RW:IV->St->Prop}{N:Nat}(h:fc P N f xs ⟨0,.lf⟩ RW)(hc:∀v au,RW v au->Can (!new) au v z):eK P af new f xs z:=by
 intro M w us hM hr;refine(h (jf M) us w (OA hM) hr).mono λe w' hR=>?_;have⟨v,au,vT,hR⟩:=hR;cases e with
 |returned u=>
  have⟨aM,h1,h2,h3⟩:=hR;exact⟨rfl,XM hM (hc v au vT) h1 h2 h3⟩
 |panicked ch=>cases hR
 |outgrown=>assumption
end
section
attribute [local instance] alD
variable{P:Program}{ro:Nat}{σ:St}{ρ:Operand->IV}{o:Oper}{out:gT}
structure gg where
 nt:Nat
 cQ:List Nat
 emp:List Nat
 tg:List (Nat×Nat):=[]
 ld:List (Nat×Nat×Nat×Nat):=[]
 os:List Nat:=[]
 ox:List Nat:=[]
 fr:List Nat:=[]
 lo:List (Nat×Nat×Nat):=[]
 mg:List (Nat×Nat):=[]
def jh(l:List Nat)(t:Nat):Bool:=l.any (ayQ t)
def CG(l:List Nat):Operand->Bool
 |.tmp t=>jh l t
 |_=>af
def gg.del(T:gg):Option Nat->gg
 |some d=>⟨T.nt,T.cQ.filter (λt=> !ayQ t d),T.emp.filter (λt=> !ayQ t d),T.tg.filter (λp=> !ayQ p.1 d),T.ld.filter (λp=> !ayQ p.2.1 d&& !ayQ p.2.2.1 d),T.os.filter (λt=> !ayQ t d),T.ox.filter (λt=> !ayQ t d),T.fr.filter (λt=> !ayQ t d),T.lo.filter (λp=> !ayQ p.2.1 d&& !ayQ p.2.2 d),T.mg.filter (λp=> !ayQ p.1 d)⟩
 |none=>T
def za(o:Oper):Option Operand:=
 match o.op with
 |.move x=>aa x
 |.nilCheck x=>aa x
 |_=>ah
def TU(T:gg)(o:Oper):gg:=
 let D:=T.del o.dst
 match o.dst with
 |some d=>if !azy d T.nt then D else match o.op with
  |.fieldAddr _ x _=>if CG T.cQ x then{D with cQ:=d::D.cQ}else D
  |.buildSlice _ 0 _=>if o.guard.isNone then{D with emp:=d::D.emp}else D
  |_=>match za o with
   |some x=>if CG T.cQ x then{D with cQ:=d::D.cQ}else D
   |none=>D
 |_=>D
def Aj(l:List (Nat×Nat))(t:Nat):Option Nat:=
 match l with
 |[]=>ah
 |(a,h)::l=>if ayQ a t then aa h else Aj l t
def TV(T:gg)(o:Oper):List (Nat×Nat):=
 match o.guard,o.dst,o.op with
 |none,aa d,.fieldAddr _ (.tmp x) _=>(match Aj T.tg x with
  |some h=>if azy d T.nt then(d,h)::(T.del o.dst).tg else(T.del o.dst).tg
  |none=>(T.del o.dst).tg)
 |none,aa d,_=>(match za o with
  |some (.tmp x)=>(match Aj T.tg x with
   |some h=>if azy d T.nt then(d,h)::(T.del o.dst).tg else(T.del o.dst).tg
   |none=>(T.del o.dst).tg)
  |_=>(T.del o.dst).tg)
 |_,_,_=>(T.del o.dst).tg
def TX(T:gg)(o:Oper)(j:Nat):List (Nat×Nat×Nat×Nat):=
 match cR o with
 |.pure=>(T.del o.dst).ld
 |.load=>(match o.guard,o.dst,o.op with
  |none,aa d,.load _ (.tmp a)=>(match Aj T.tg a with
   |some h=>if azy d T.nt&& !ayQ a d then(j,a,d,h)::(T.del o.dst).ld else(T.del o.dst).ld
   |none=>(T.del o.dst).ld)
  |_,_,_=>(T.del o.dst).ld)
 |_=>[]
def TY(T:gg)(o:Oper):List Nat:=
 match o.dst,za o with
 |some d,aa x=>if CG T.os x&&azy d T.nt then d::(T.del o.dst).os else(T.del o.dst).os
 |_,_=>(T.del o.dst).os
def TZ(T:gg)(o:Oper):List Nat:=
 match o.dst,o.op with
 |some d,.indexAddr _ x _=>if CG T.os x&&azy d T.nt then d::(T.del o.dst).ox else(T.del o.dst).ox
 |_,_=>(T.del o.dst).ox
def T0(T:gg)(o:Oper):List Nat:=
 match o.guard,o.dst,o.op with
 |none,aa d,.alloc _=>if azy d T.nt then d::(T.del o.dst).fr else(T.del o.dst).fr
 |_,_,_=>(T.del o.dst).fr
def T1(T:gg)(o:Oper)(j:Nat):List (Nat×Nat×Nat):=
 match cR o with
 |.pure=>(T.del o.dst).lo
 |.load=>(match o.guard,o.dst,o.op with
  |none,aa d,.load _ (.tmp a)=>if jh T.ox a&&azy d T.nt&& !ayQ a d then(j,a,d)::(T.del o.dst).lo else(T.del o.dst).lo
  |_,_,_=>(T.del o.dst).lo)
 |.alloc=>(match o.op with
  |.alloc _=>(T.del o.dst).lo
  |_=>[])
 |_=>[]
def T2(T:gg)(o:Oper):List (Nat×Nat):=
 match o.guard,o.dst,za o with
 |none,aa d,aa (.tmp x)=>(match Aj T.mg x with
  |some h=>if azy d T.nt then(d,h)::(T.del o.dst).mg else(T.del o.dst).mg
  |none=>(T.del o.dst).mg)
 |_,_,_=>(T.del o.dst).mg
def Hn(T:gg)(o:Oper)(j:Nat):gg:={TU T o with tg:=TV T o,ld:=TX T o j,os:=TY T o,ox:=TZ T o,fr:=T0 T o,lo:=T1 T o j,mg:=T2 T o}
def FJ(pl:ey)(j:Nat):Bool:=
 (azT j).all λi=>ay7 (pl.cq.getD j 0) i||(match pl.kinds.getD i .effect with|.alloc|.effect|.call=>af|_=>ab)
def alH(pl:ey)(j:Nat):Bool:=
 (azT j).all λi=>ay7 (pl.cq.getD j 0) i||(match pl.kinds.getD i .effect with|.effect=>af|_=>ab)
def FK(pl:ey)(j:Nat):Bool:=
 (azT j).all λi=>ay7 (pl.cq.getD j 0) i||(match pl.kinds.getD i .effect with|.pure=>ab|_=>af)
def OH(o:Oper):Option Operand:=
 match o.op with
 |.call {callee:=.builtin .append,args,.. }=>args.toList.head?
 |_=>ah
def OI(P:Program)(o:Oper):Bool:=
 match o.op with
 |.call {callee:=.builtin .len,argTypes,.. }=>match(argTypes[0]?).bind P.underlying with
  |some (.slice _)|some .string=>ab
  |_=>af
 |_=>af
def HZ(pl:ey)(T:gg)(o:Oper)(j:Nat):Bool:=
 match o.guard,o.op with
 |none,.store _ (.tmp a) _=>(match Aj T.tg a with
  |some g=>FJ pl j&&(azT j).all λi=>ay7 (pl.cq.getD j 0) i||(match pl.kinds.getD i .effect with
   |.load=>T.ld.any λp=>ayQ p.1 i&& !ayQ p.2.2.2 g
   |.effect=>af
   |_=>ab)
  |none=>jh T.fr a&&(FJ pl j&&(azT j).all λi=>ay7 (pl.cq.getD j 0) i||(match pl.kinds.getD i .effect with
   |.load=>T.lo.any λp=>ayQ p.1 i
   |.effect=>af
   |_=>ab)))
 |none,.mapUpdate _ (.tmp a) _ _=>(match Aj T.mg a with
  |some g=>FJ pl j&&(azT j).all λi=>ay7 (pl.cq.getD j 0) i||(match pl.kinds.getD i .effect with
   |.load=>T.ld.any λp=>ayQ p.1 i&& !ayQ p.2.2.2 g
   |.effect=>af
   |_=>ab)
  |none=>af)
 |_,_=>af
def mS(P:Program)(pl:ey)(T:gg)(o:Oper)(j:Nat):Bool:=
 match pl.kinds.getD j .effect with
 |.pure=>cR o==.pure
 |.alloc=>cR o==.alloc&&ab
 |.load=>cR o==.load&&(FJ pl j||(alH pl j&&(OI P o||match o.op with|.load _ a=>CG T.cQ a|_=>af)))
 |.call=>cR o==.call&&FJ pl j&&(EH o||(match OH o with|some a=>CG T.emp a|none=>af))
 |.effect=>FK pl j||HZ pl T o j
def ji(P:Program)(pl:ey):List (Oper×Nat)->gg->Bool
 |[],_=>ab
 |(o,j)::l,T=>mS P pl T o j&&ji P pl l (Hn T o j)
def FL(n0:Nat)(x:IV):Prop:=(∃id off ep ext,x=.ptr id off ep ext/\id<n0)\/(∃cs,x=.na cs)\/x=.undef
structure lR(n0:Nat)(e:Env)(T:gg):Prop where
 n:e.n=T.nt
 cQ:∀t,jh T.cQ t=ab->FL n0 (e.at t)
 emp:∀t,jh T.emp t=ab->e.at t=.emp
def yj{l:List Nat}{d t:Nat}(h:jh (l.filter λt=> !ayQ t d) t=ab):jh l t=ab/\t≠d:=by
 simp only[jh,aAE]at h⊢;have⟨x,hx,hxt⟩:=h;have⟨h1,h2⟩:=azB.1 hx;have:=ay0 hxt
 grind
def kL{l:List Nat}{d t:Nat}(h:jh (d::l) t=ab):t=d\/jh l t=ab:=by
 simp_all[jh]
def fW{e:Env}{d t:Nat}{v:IV}(h:t≠d):(e.put (aa d) v).at t=e.at t:=by
 grind [Env.put,Env.at,T.hZ]
def cI{e:Env}{d:Nat}{v:IV}(h:d<e.n):(e.put (aa d) v).at d=v:=by
 simp_all[Env.put,Env.at,T.hZ]
def alI(e:Env)(d:Option Nat)(v:IV):(e.put d v).n=e.n:=by
 unfold Env.put
 grind
theorem lR.del{n0:Nat}{e:Env}{T:gg}(h:lR n0 e T)(d:Option Nat)(v:IV):lR n0 (e.put d v) (T.del d):=by
 cases d with
 |none=>exact h
 |some d=>
  refine⟨by rw[alI];exact h.n,λt ht=>?_,λt ht=>?_⟩
  .have⟨h1,h2⟩:=yj ht;rw[fW h2];exact h.cQ t h1
  .have⟨h1,h2⟩:=yj ht;rw[fW h2];exact h.emp t h1
def H0{n0:Nat}{e:Env}{T:gg}(h:lR n0 e T){x:Operand}(hx:CG T.cQ x=ab):FL n0 (aD e x):=by
 cases x with
 |tmp t=>exact h.cQ t hx
 |_=>cases hx
def ach{n0:Nat}{e:Env}{T:gg}(h:lR n0 e T){x:Operand}(hx:CG T.emp x=ab):aD e x=.emp:=by
 cases x with
 |tmp t=>exact h.emp t hx
 |_=>cases hx
def yk{x:Operand}(h:za o=aa x):cR o=.pure:=by
 unfold za at h;unfold cR
 grind
def Js{x:Operand}(h:za o=aa x){ρ:Operand->IV}{v:IV}{av:St}(hv:aA P ro ρ o σ=aa (.val v av)):v=ρ x:=by
 unfold za at h;unfold aA at hv;split at h<;>try (cases h;done)
 .rename_i ho;cases h;rw[ho]at hv;have:=aZ hv
  grind
 .rename_i ho;cases h;rw[ho]at hv
  repeat' split at hv
  all_goals try grind
  all_goals (have:=aZ hv;grind)
def lR.aqj{n0:Nat}{e:Env}{T:gg}{v:IV}{av:St}(h:lR n0 e T)(hv:aA P ro (aD e) o σ=aa (.val v av)):lR n0 (e.put o.dst v) (TU T o):=by
 have hd:=h.del o.dst v;unfold TU;split<;>try exact hd
 rename_i d eY;split<;>try omega
 have gB:d<e.n:=by simp_all[h.n]
 split
 .split
  .rename_i hx;refine⟨hd.n,λt ht=>?_,hd.emp⟩;rcases kL ht with rfl|ht
   .rw[eY,cI gB];have ho:=H0 h hx;simp only[aA,‹o.op=_›]at hv
    repeat' split at hv
    all_goals try grind
    .rename_i he _;rcases ho with⟨bz,Ol,ep',ext',h1,h2⟩|⟨cs,h1⟩|h1
     .rw[he]at h1;cases h1;have:=aZ hv;cases this;exact .inl ⟨_,_,_,_,rfl,h2⟩
     .grind
     .rw[he]at h1;cases h1
    .have:=aZ hv;cases this;exact .inr (.inl ⟨_,rfl⟩)
   .exact hd.cQ t ht
  omega
 .rename_i t0 parts ho;split<;>try exact hd
  refine⟨hd.n,hd.cQ,λt ht=>?_⟩;rcases kL ht with rfl|ht
  .rw[eY,cI gB];simp only[aA]at hv
   repeat' split at hv
   all_goals try grind
   all_goals first|(have:=aZ hv;grind)|omega|skip
  .exact hd.emp t ht
 .split<;>try exact hd
  rename_i x hp;split<;>try exact hd
  rename_i hx;refine⟨hd.n,λt ht=>?_,hd.emp⟩;rcases kL ht with rfl|ht
  .rw[eY,cI gB,Js hp hv];exact H0 h hx
  .exact hd.cQ t ht
def lR.aqk{n0:Nat}{e:Env}{T:gg}{v:IV}{ops:Array Oper}(h:lR n0 e T)(hw:(aY o ops e=af/\v=.undef)\/cR o=.call\/cR o=.effect):lR n0 (e.put o.dst v) (TU T o):=by
 have hd:=h.del o.dst v;unfold TU;split
 .rename_i d eY;split<;>try omega
  have gB:d<e.n:=by simp_all[h.n]
  rcases hw with⟨hw,rfl⟩|hw
  .split
   .split
    .refine⟨hd.n,λt ht=>?_,hd.emp⟩;rcases kL ht with rfl|ht
     .rw[eY,cI gB];exact .inr (.inr rfl)
     .exact hd.cQ t ht
    omega
   .grind [aY]
   .split
    .split
     .refine⟨hd.n,λt ht=>?_,hd.emp⟩;rcases kL ht with rfl|ht
      .rw[eY,cI gB];exact .inr (.inr rfl)
      .exact hd.cQ t ht
     omega
    omega
  .unfold cR at hw;split<;>try grind
   split
   .rename_i hp;have hk:=yk hp
    simp_all[cR]
   omega
 omega
def ZZ{n0:Nat}{e:Env}{t:TypeId}{a:Operand}{v:IV}{av:St}(ho:o.op=.load t a)(ha:FL n0 (aD e a))(hv:aA P ro (aD e) o σ=aa (.val v av)){au:St}(ED:∀id,id<n0->au.at id=σ.at id)(gq:Nat):
 aA P gq (aD e) o au=aa (.val v au):=by
 simp only[aA,ho]at hv⊢;rcases ha with⟨id,off,ep,ext,h1,h2⟩|⟨cs,h1⟩|h1
 .simp only[h1]at hv⊢;rw[ED id h2]
  repeat' split at hv
  all_goals simp_all[ret]
 .rw[h1]at hv⊢
  repeat' split at hv
  all_goals simp_all[ret]
 simp_all[IV.undef]
def afb{e:Env}{v:IV}{av:St}(h:OI P o=ab)(hv:aA P ro (aD e) o σ=aa (.val v av))(gq:Nat)(au:St):aA P gq (aD e) o au=aa (.val v au):=by
 unfold OI at h;split at h<;>try grind
 rename_i args ats ho
 have hl:∀x τ τ' u,qF P ats x τ=aa u->qF P ats x τ'=aa u:=by
  intro x τ τ' u hu;unfold qF at hu⊢
  grind
 simp only[aA,ho,fw]at hv⊢;split at hv<;>try grind
 have⟨u,hu,hv⟩:=ayR.1 hv
 grind
def alJ{e:Env}{a:Operand}{v:IV}{av:St}(hb:OH o=aa a)(ha:aD e a=.emp)(hv:aA P ro (aD e) o σ=aa (.val v av)):(∀gq,aA P gq (aD e) o σ=aa (.val v av))/\(av=σ\/∃ob,av=σ.add ob):=by
 unfold OH at hb;split at hb<;>try (cases hb;done)
 rename_i args ats fk;simp only[aA,fk]at hv⊢;unfold fw at hv⊢;split at hv
 .split at hv<;>try (cases hv;done)
  rename_i s x bF
  have hs:s=.emp:=by
   cases hl:args.toList with
   |nil=>rw[hl]at hb;cases hb
   |cons y l=>
    rw[hl]at hb bF;simp only[List.head?_cons,ayO]at hb;subst hb;simp only[List.map_cons,aBb]at bF;rw[<-bF.1,ha]
  subst hs;unfold mw at hv⊢
  repeat' split at hv
  all_goals try (cases hv;done)
  simp only[fv]at hv⊢;split at hv
  .have:=aZ hv;cases this;refine⟨λ_=>?_,.inl rfl⟩
   simp_all
  .refine⟨λ_=>by simp_all,?_⟩;unfold gl at hv
   repeat' split at hv
   all_goals try (cases hv;done)
   have:=aZ hv;cases this;exact .inr ⟨_,rfl⟩
 all_goals (first|(exfalso;simp_all;done)|(simp_all;done))
def lR.step{n0:Nat}{e:Env}{T:gg}{v:IV}{av:St}(j:Nat)(h:lR n0 e T)(hv:aA P ro (aD e) o σ=aa (.val v av)):lR n0 (e.put o.dst v) (Hn T o j):=
 have:=h.aqj hv
 ⟨this.n,this.cQ,this.emp⟩
def lR.skip{n0:Nat}{e:Env}{T:gg}{v:IV}{ops:Array Oper}(j:Nat)(h:lR n0 e T)(hw:(aY o ops e=af/\v=.undef)\/cR o=.call\/cR o=.effect):lR n0 (e.put o.dst v) (Hn T o j):=
 have:=h.aqk hw
 ⟨this.n,this.cQ,this.emp⟩
structure rQ(P:Program)(ops:Array Oper)(θ:Nat->Option Nat)(e:Env)(σ:St)(T:gg):Prop where
 tg:∀t h,(t,h)∈T.tg->∃id off ep ext,θ h=aa id/\e.at t=.ptr id off ep ext
 ld:∀i a d h,(i,a,d,h)∈T.ld->∃p ty id off ep ext,ops[i]?=aa p/\p.op=.load ty (.tmp a)/\p.dst=aa d/\θ h=aa id/\e.at a=.ptr id off ep ext/\aA P 0 (aD e) p σ=aa (.val (e.at d) σ)
 mg:∀t h,(t,h)∈T.mg->∃id,θ h=aa id/\e.at t=.map id
theorem rR:∀{l:List (Nat×Nat)} {t h:Nat},Aj l t=aa h->(t,h)∈l
 |[],_,_,h=>by cases h
 |(a,q)::l,t,h,hh=>by
  unfold Aj at hh;split at hh
  .simp_all
  .exact azg _ (rR hh)
def FM{p:Oper}{ty:TypeId}{a:Operand}(hp:p.op=.load ty a){ρ Ck:Operand->IV}(h:ρ a=Ck a)(ro:Nat)(σ:St):aA P ro ρ p σ=aA P ro Ck p σ:=by
 simp only[aA,hp,h]
def Ln{p:Oper}{ty:TypeId}{a:Operand}(hp:p.op=.load ty a){ρ:Operand->IV}{id off ep ext:Nat}{v:IV}{av:St}(ha:ρ a=.ptr id off ep ext)(hv:aA P ro ρ p σ=aa (.val v av)){au:St}(ED:au.at id=σ.at id)(gq:Nat):aA P gq ρ p au=aa (.val v au):=by
 simp only[aA,hp,ha]at hv⊢;rw[ED]
 repeat' split at hv
 all_goals simp_all[ret]
def alK{T:gg}{dst:Option Nat}{t h:Nat}(hm:(t,h)∈(T.del dst).tg):(t,h)∈T.tg/\dst≠aa t:=by
 cases dst with
 |none=>exact⟨hm,by simp⟩
 |some d=>
  have⟨h1,h2⟩:=azB.1 hm;exact⟨h1,λhe=>by simp_all⟩
def alL{T:gg}{dst:Option Nat}{i a d h:Nat}(hm:(i,a,d,h)∈(T.del dst).ld):(i,a,d,h)∈T.ld/\dst≠aa a/\dst≠aa d:=by
 cases dst with
 |none=>exact⟨hm,by simp,by simp⟩
 |some q=>
  have⟨h1,h2⟩:=azB.1 hm;exact⟨h1,λhe=>by cases he;simp at h2,λhe=>by cases he;simp at h2⟩
def kM{e:Env}{dst:Option Nat}{v:IV}{t:Nat}(h:dst≠aa t):(e.put dst v).at t=e.at t:=by
 cases dst with
 |none=>rfl
 |some d=>exact fW λhe=>h (by rw[he])
def rQ.DV{ops:Array Oper}{θ:Nat->Option Nat}{e:Env}{T:gg}(h:rQ P ops θ e σ T)(dst:Option Nat)(v:IV):∀t q,(t,q)∈(T.del dst).tg->∃id off ep ext,θ q=aa id/\(e.put dst v).at t=.ptr id off ep ext:=by
 intro t q hm;have⟨h1,h2⟩:=alK hm;rw[kM h2];exact h.tg t q h1
def rQ.tD{ops:Array Oper}{θ:Nat->Option Nat}{e:Env}{T:gg}(h:rQ P ops θ e σ T)(dst:Option Nat)(v:IV):∀i a d q,(i,a,d,q)∈(T.del dst).ld->∃p ty id off ep ext,ops[i]?=aa p/\p.op=.load ty (.tmp a)/\p.dst=aa d/\θ q=aa id/\(e.put dst v).at a=.ptr id off ep ext/\aA P 0 (aD (e.put dst v)) p σ=aa (.val ((e.put dst v).at d) σ):=by
 intro i a d q hm;have⟨h1,h2,h3⟩:=alL hm;have⟨p,ty,id,off,ep,ext,g1,g2,g3,g4,g5,g6⟩:=h.ld i a d q h1;refine⟨p,ty,id,off,ep,ext,g1,g2,g3,g4,by rw[kM h2];omega,?_⟩;rw[kM h3,<-g6];exact FM g2 (by show(e.put dst v).at a=e.at a;exact kM h2) _ _
def rQ.T3{ops:Array Oper}{θ:Nat->Option Nat}{e:Env}{T:gg}(h:rQ P ops θ e σ T)(dst:Option Nat)(v:IV):∀t q,(t,q)∈(T.del dst).mg->∃id,θ q=aa id/\(e.put dst v).at t=.map id:=by
 intro t q hm
 have h12:(t,q)∈T.mg/\dst≠aa t:=by
  cases dst with
  |none=>exact⟨hm,by simp⟩
  |some d=>
   have⟨h1,h2⟩:=azB.1 hm;exact⟨h1,λhe=>by simp_all⟩
 rw[kM h12.2];exact h.mg t q h12.1
def rQ.step{ops:Array Oper}{θ:Nat->Option Nat}{n0:Nat}{e:Env}{T:gg}{v:IV}{av:St}{j:Nat}(hj:ops[j]?=aa o)(h:rQ P ops θ e σ T)(hT:lR n0 e T)(hv:aA P ro (aD e) o σ=aa (.val v av)):rQ P ops θ (e.put o.dst v) av (Hn T o j):=by
 refine⟨λt q hm=>?_,λi a d q hm=>?_,λt q hm=>?_⟩
 .have hm:(t,q)∈TV T o:=hm;unfold TV at hm;split at hm
  .rename_i d s x f hg eY fk;split at hm<;>try exact h.DV _ _ t q hm
   rename_i hh Bi;split at hm<;>try exact h.DV _ _ t q hm
   rcases ayW.1 hm with he|hm
   .cases he;have⟨id,off,ep,ext,g1,g2⟩:=h.tg _ _ (rR Bi);have hx:aD e (.tmp x)=.ptr id off ep ext:=g2;have gB:t<e.n:=by simp_all[hT.n]
    rw[eY,cI gB];simp only[aA,fk]at hv
    repeat' split at hv
    all_goals try (cases hv;done)
    .rename_i he _;rw[hx]at he;cases he;have:=aZ hv
     grind
    grind
   .exact h.DV _ _ t q hm
  .rename_i d hg eY fk;split at hm<;>try exact h.DV _ _ t q hm
   rename_i x hp;split at hm<;>try exact h.DV _ _ t q hm
   rename_i hh Bi;split at hm<;>try exact h.DV _ _ t q hm
   rcases ayW.1 hm with he|hm
   .cases he;have⟨id,off,ep,ext,g1,g2⟩:=h.tg _ _ (rR Bi);have gB:t<e.n:=by simp_all[hT.n]
    rw[eY,cI gB,Js hp hv];exact⟨id,off,ep,ext,g1,g2⟩
   .exact h.DV _ _ t q hm
  .exact h.DV _ _ t q hm
 .have hm:(i,a,d,q)∈TX T o j:=hm;unfold TX at hm;split at hm
  .rename_i hk;obtain⟨rfl,_⟩:=Cu hk hv;exact h.tD _ _ i a d q hm
  .rename_i hk;obtain⟨rfl,lO⟩:=Cv hk hv;split at hm<;>try exact h.tD _ _ i a d q hm
   rename_i d' ty a' hg eY fk;split at hm<;>try exact h.tD _ _ i a d q hm
   rename_i hh Bi;split at hm<;>try exact h.tD _ _ i a d q hm
   rcases ayW.1 hm with he|hm
   .cases he;have bA:a≠d:=λhe=>by simp_all
    have gB:d<e.n:=by simp_all[hT.n]
    have⟨id,off,ep,ext,g1,g2⟩:=h.tg _ _ (rR Bi);have ha:(e.put o.dst v).at a=e.at a:=by rw[eY];exact fW bA
    refine⟨o,ty,id,off,ep,ext,hj,fk,eY,g1,by grind,?_⟩;rw[FM fk (Ck:=aD e) (show(e.put o.dst v).at a=e.at a from ha),lO 0,eY,cI gB]
   .exact h.tD _ _ i a d q hm
  grind
 .have hm:(t,q)∈T2 T o:=hm;unfold T2 at hm;split at hm<;>try exact h.T3 _ _ t q hm
  rename_i d x hg eY hp;split at hm<;>try exact h.T3 _ _ t q hm
  rename_i hh Bi;split at hm<;>try exact h.T3 _ _ t q hm
  rcases ayW.1 hm with he|hm
  .cases he;have⟨id,g1,g2⟩:=h.mg _ _ (rR Bi);have gB:t<e.n:=by simp_all[hT.n]
   rw[eY,cI gB,Js hp hv];exact⟨id,g1,g2⟩
  .exact h.T3 _ _ t q hm
def rQ.skip{ops:Array Oper}{θ:Nat->Option Nat}{e:Env}{T:gg}{v:IV}{av:St}{j:Nat}(h:rQ P ops θ e σ T)(hw:(aY o ops e=af/\av=σ)\/cR o=.call\/cR o=.effect):rQ P ops θ (e.put o.dst v) av (Hn T o j):=by
 have hgd:(aY o ops e=af/\av=σ)->o.guard≠ah:=λhw hg=>by
  simp_all[aY]
 refine⟨λt q hm=>?_,λi a d q hm=>?_,λt q hm=>?_⟩
 .have hm:(t,q)∈TV T o:=hm;unfold TV at hm;split at hm
  .rename_i d s x f hg eY fk
   simp_all[cR]
  .split at hm<;>try exact h.DV _ _ t q hm
   rename_i x hp;rcases hw with hw|hw
   .grind
   .rw[yk hp]at hw;grind
  .exact h.DV _ _ t q hm
 .have hm:(i,a,d,q)∈TX T o j:=hm;unfold TX at hm;split at hm
  .rcases hw with⟨_,rfl⟩|hw
   .exact h.tD _ _ i a d q hm
   grind
  .rcases hw with hw|hw
   .obtain⟨_,rfl⟩:=id hw;split at hm
    .grind
    .exact h.tD _ _ i a d q hm
   grind
  grind
 .have hm:(t,q)∈T2 T o:=hm;unfold T2 at hm;split at hm<;>try exact h.T3 _ _ t q hm
  rename_i d x hg eY hp;rcases hw with hw|hw
  .grind
  .rw[yk hp]at hw;grind
def Z0{ty:TypeId}{m k x:Operand}(ho:o.op=.mapUpdate ty m k x){ρ:Operand->IV}{id:Nat}(hm:ρ m=.map id){v:IV}{av:St}(hv:aA P ro ρ o σ=aa (.val v av)):∀bz,bz≠id->av.at bz=σ.at bz:=by
 simp only[aA,ho]at hv;split at hv<;>try grind
 split at hv<;>try grind
 rename_i hs;have:=aZ hv;cases this;simp only[qa]at hs
 repeat' split at hs
 all_goals grind [St.dt]
def QX{ty:TypeId}{a x:Operand}(ho:o.op=.store ty a x){ρ:Operand->IV}{id off ep ext:Nat}(ha:ρ a=.ptr id off ep ext){v:IV}{av:St}(hv:aA P ro ρ o σ=aa (.val v av)):av.n=σ.n/\∀bz,bz≠id->av.at bz=σ.at bz:=by
 unfold aA at hv
 repeat' split at hv
 all_goals try grind
 all_goals
  have:=aZ hv;cases this;exact⟨rfl,λbz bA=>by grind [St.dt]⟩
def Z1(n0:Nat)(x:IV):Prop:=(∀id off len cap ep s,x=.sl id off len cap ep s->id<n0)/\∀id off ep ext,x=.ptr id off ep ext->id<n0
structure pJ(P:Program)(ops:Array Oper)(n0:Nat)(e:Env)(σ:St)(T:gg):Prop where
 n:n0<=σ.n
 os:∀t,jh T.os t=ab->Z1 n0 (e.at t)
 ox:∀t,jh T.ox t=ab->FL n0 (e.at t)
 fr:∀t,jh T.fr t=ab->∃id off ep ext,n0<=id/\e.at t=.ptr id off ep ext
 lo:∀i a d,(i,a,d)∈T.lo->∃p ty,ops[i]?=aa p/\p.op=.load ty (.tmp a)/\p.dst=aa d/\FL n0 (e.at a)/\aA P 0 (aD e) p σ=aa (.val (e.at d) σ)
def T4{p:Oper}{ty:TypeId}{a:Operand}(hp:p.op=.load ty a){ρ:Operand->IV}{n0:Nat}{v:IV}{av:St}(ha:FL n0 (ρ a))(hv:aA P ro ρ p σ=aa (.val v av)){au:St}(ED:∀id,id<n0->au.at id=σ.at id)(gq:Nat):aA P gq ρ p au=aa (.val v au):=by
 rcases ha with⟨id,off,ep,ext,ha,ak⟩|⟨cs,ha⟩|ha
 .exact Ln hp ha hv (ED id ak) gq
 .simp only[aA,hp,ha]at hv⊢;split at hv<;>try grind
  simp_all[ret]
 .simp only[aA,hp,ha]at hv;cases hv
def T5{ty:TypeId}(ho:o.op=.alloc ty){ρ:Operand->IV}{v:IV}{av:St}(hv:aA P ro ρ o σ=aa (.val v av)):(∃off ep ext,v=.ptr σ.n off ep ext)/\∀id,id<σ.n->av.at id=σ.at id:=by
 simp only[aA,ho]at hv;split at hv<;>try grind
 have:=aZ hv
 grind [St.jO]
def OJ{f:gg->List Nat}{T:gg}(hf:∀d,f (T.del (aa d))=(f T).filter (λt=> !ayQ t d)){dst:Option Nat}{t:Nat}(hm:jh (f (T.del dst)) t=ab):jh (f T) t=ab/\dst≠aa t:=by
 cases dst with
 |none=>exact⟨hm,by simp⟩
 |some d=>
  rw[hf]at hm;have⟨h1,h2⟩:=yj hm
  grind
def alM{T:gg}{dst:Option Nat}{i a d:Nat}(hm:(i,a,d)∈(T.del dst).lo):(i,a,d)∈T.lo/\dst≠aa a/\dst≠aa d:=by
 cases dst with
 |none=>exact⟨hm,by simp,by simp⟩
 |some q=>
  have⟨h1,h2⟩:=azB.1 hm;exact⟨h1,λhe=>by cases he;simp at h2,λhe=>by cases he;simp at h2⟩
section
variable{ops:Array Oper}{n0:Nat}{e:Env}{T:gg}{v:IV}{av:St}{j:Nat}
def pJ.OK(h:pJ P ops n0 e σ T){dst:Option Nat}{t:Nat}(hm:jh (T.del dst).os t=ab):Z1 n0 ((e.put dst v).at t):=by
 obtain⟨h1,h2⟩:=OJ (f:=gg.os) (λ_=>rfl) hm;rw[kM h2];exact h.os t h1
def pJ.OL(h:pJ P ops n0 e σ T){dst:Option Nat}{t:Nat}(hm:jh (T.del dst).ox t=ab):FL n0 ((e.put dst v).at t):=by
 obtain⟨h1,h2⟩:=OJ (f:=gg.ox) (λ_=>rfl) hm;rw[kM h2];exact h.ox t h1
def pJ.Z2(h:pJ P ops n0 e σ T){dst:Option Nat}{t:Nat}(hm:jh (T.del dst).fr t=ab):∃id off ep ext,n0<=id/\(e.put dst v).at t=.ptr id off ep ext:=by
 obtain⟨h1,h2⟩:=OJ (f:=gg.fr) (λ_=>rfl) hm;rw[kM h2];exact h.fr t h1
def pJ.tD(h:pJ P ops n0 e σ T){dst:Option Nat}(ED:∀id,id<n0->av.at id=σ.at id){i a d:Nat}(hm:(i,a,d)∈(T.del dst).lo):∃p ty,ops[i]?=aa p/\p.op=.load ty (.tmp a)/\p.dst=aa d/\FL n0 ((e.put dst v).at a)/\aA P 0 (aD (e.put dst v)) p av=aa (.val ((e.put dst v).at d) av):=by
 have⟨h1,h2,h3⟩:=alM hm;have⟨p,ty,g1,g2,g3,g4,g5⟩:=h.lo i a d h1;refine⟨p,ty,g1,g2,g3,by rw[kM h2];omega,?_⟩;rw[kM h3,FM g2 (show aD (e.put dst v) (.tmp a)=aD e (.tmp a)from kM h2)];exact T4 g2 g4 g5 ED 0
def pJ.step(hj:ops[j]?=aa o)(h:pJ P ops n0 e σ T)(hT:lR n0 e T)(hv:aA P ro (aD e) o σ=aa (.val v av))(hn:σ.n<=av.n):pJ P ops n0 (e.put o.dst v) av (Hn T o j):=by
 refine⟨ay6 h.n hn,λt hm=>?_,λt hm=>?_,λt hm=>?_,λi a d hm=>?_⟩
 .have hm:jh (TY T o) t=ab:=hm;unfold TY at hm;split at hm<;>try exact h.OK hm
  rename_i d x hd hp;split at hm<;>try exact h.OK hm
  rename_i hc;rcases kL hm with rfl|hm
  .simp only[ayI]at hc;have ak:t<e.n:=by simp_all[hT.n]
   rw[hd,cI ak,Js hp hv];cases x with
   |tmp t'=>exact h.os t' hc.1
   |_=>cases hc.1
  .exact h.OK hm
 .have hm:jh (TZ T o) t=ab:=hm;unfold TZ at hm;split at hm<;>try exact h.OL hm
  rename_i d ty x ix hd fk;split at hm<;>try exact h.OL hm
  rename_i hc;rcases kL hm with rfl|hm
  .simp only[ayI]at hc;have ak:t<e.n:=by simp_all[hT.n]
   have hx:Z1 n0 (aD e x):=by
    cases x with
    |tmp t'=>exact h.os t' hc.1
    |_=>cases hc.1
   rw[hd,cI ak];simp only[aA,fk]at hv
   repeat' split at hv
   all_goals try grind
   all_goals
    have:=aZ hv;cases this
    first
     |exact .inr (.inl ⟨_,rfl⟩)
     |(rename_i Ho _;exact .inl ⟨_,_,_,_,rfl,hx.1 _ _ _ _ _ _ Ho⟩)
     |(rename_i Ho _ _;exact .inl ⟨_,_,_,_,rfl,hx.2 _ _ _ _ Ho⟩)
     |(exact .inl ⟨_,_,_,_,rfl,hx.1 _ _ _ _ _ _ Ho⟩)
  .exact h.OL hm
 .have hm:jh (T0 T o) t=ab:=hm;unfold T0 at hm;split at hm<;>try exact h.Z2 hm
  rename_i d ty hg hd fk;split at hm<;>try exact h.Z2 hm
  rcases kL hm with rfl|hm
  .have ak:t<e.n:=by simp_all[hT.n]
   obtain⟨⟨off,ep,ext,rfl⟩,_⟩:=T5 fk hv;rw[hd,cI ak];exact⟨_,_,_,_,h.n,rfl⟩
  .exact h.Z2 hm
 .have hm:(i,a,d)∈T1 T o j:=hm;unfold T1 at hm;split at hm
  .rename_i hk;obtain⟨rfl,_⟩:=Cu hk hv;exact h.tD (λ_ _=>rfl) hm
  .rename_i hk;obtain⟨rfl,lO⟩:=Cv hk hv;split at hm<;>try exact h.tD (λ_ _=>rfl) hm
   rename_i d' ty a' hg eY fk;split at hm<;>try exact h.tD (λ_ _=>rfl) hm
   rename_i hc;rcases ayW.1 hm with he|hm
   .cases he;simp only[ayI]at hc;have bA:a≠d:=λhe=>by simp_all
    have gB:d<e.n:=by simp_all[hT.n]
    have ha:(e.put o.dst v).at a=e.at a:=by rw[eY];exact fW bA
    refine⟨o,ty,hj,fk,eY,by rw[ha];exact h.ox a hc.1.1,?_⟩;rw[FM fk (Ck:=aD e) (show(e.put o.dst v).at a=e.at a from ha),lO 0,eY,cI gB]
   .exact h.tD (λ_ _=>rfl) hm
  .split at hm
   .rename_i fk;exact h.tD (λid hid=>(T5 fk hv).2 id (aAl hid h.n)) hm
   grind
  grind
def pJ.skip(h:pJ P ops n0 e σ T)(hT:lR n0 e T)(hn:n0<=av.n)(hw:(aY o ops e=af/\av=σ/\v=.undef)\/cR o=.call\/cR o=.effect):pJ P ops n0 (e.put o.dst v) av (Hn T o j):=by
 have hgd:(aY o ops e=af/\av=σ/\v=.undef)->o.guard≠ah:=λhw hg=>by
  simp_all[aY]
 refine⟨hn,λt hm=>?_,λt hm=>?_,λt hm=>?_,λi a d hm=>?_⟩
 .have hm:jh (TY T o) t=ab:=hm;unfold TY at hm;split at hm<;>try exact h.OK hm
  rename_i d x hd hp;split at hm<;>try exact h.OK hm
  rcases kL hm with rfl|hm
  .rcases hw with⟨_,_,rfl⟩|hw
   .have ak:t<e.n:=by simp_all[hT.n]
    rw[hd,cI ak];constructor<;>intros<;>contradiction
   .rw[yk hp]at hw;grind
  .exact h.OK hm
 .have hm:jh (TZ T o) t=ab:=hm;unfold TZ at hm;split at hm<;>try exact h.OL hm
  rename_i d ty x ix hd fk;split at hm<;>try exact h.OL hm
  rcases kL hm with rfl|hm
  .rcases hw with⟨_,_,rfl⟩|hw
   .have ak:t<e.n:=by simp_all[hT.n]
    rw[hd,cI ak];exact .inr (.inr rfl)
   simp_all[cR]
  .exact h.OL hm
 .have hm:jh (T0 T o) t=ab:=hm;unfold T0 at hm;split at hm
  .rename_i d ty hg hd fk
   simp_all[cR]
  .exact h.Z2 hm
 .have hm:(i,a,d)∈T1 T o j:=hm;unfold T1 at hm;split at hm
  .rcases hw with⟨_,rfl,_⟩|hw
   .exact h.tD (λ_ _=>rfl) hm
   grind
  .rcases hw with hw|hw
   .obtain⟨_,rfl,_⟩:=id hw;split at hm
    .grind
    .exact h.tD (λ_ _=>rfl) hm
   grind
  .rcases hw with⟨_,rfl,_⟩|hw
   .split at hm
    .exact h.tD (λ_ _=>rfl) hm
    grind
   grind
  grind
end
def aci{pl:ey}{T:gg}{j:Nat}(h:HZ pl T o j=ab):FJ pl j=ab:=by
 unfold HZ at h
 grind
def Jt{pl:ey}{j i:Nat}(h:FJ pl j=ab)(hi:i<j)(hk:bt pl i=.alloc\/bt pl i=.effect\/bt pl i=.call):ay7 (pl.cq.getD j 0) i=ab:=by
 have:=ayY.1 h i (aAi.2 hi);simp only[azp]at this;refine this.resolve_right λhh=>?_;unfold bt at hk
 grind
def ajA{pl:ey}{j i:Nat}(h:alH pl j=ab)(hi:i<j)(hk:bt pl i=.effect):ay7 (pl.cq.getD j 0) i=ab:=by
 have:=ayY.1 h i (aAi.2 hi)
 simp_all[bt]
def XV{pl:ey}{j i:Nat}(h:FK pl j=ab)(hi:i<j)(hk:bt pl i≠.pure):ay7 (pl.cq.getD j 0) i=ab:=by
 have:=ayY.1 h i (aAi.2 hi)
 simp_all[bt]
theorem H2:∀(l:List Piece) (b:T Ob),(∀p∈l,p.hi<=p.lo)->l.foldl dO b=b
 |[],_,_=>rfl
 |p::l,b,h=>by
  rw[azo,mC b p (h p (List.mem_cons_self ..))];exact H2 l b λq hq=>h q (azg _ hq)
theorem H3{n0:Nat}:∀(l:List Piece) (b:T Ob),(∀p∈l,n0<=p.lo)->∀id,id<n0->(l.foldl dO b).get id=b.get id
 |[],_,_,_,_=>rfl
 |p::l,b,h,id,hid=>by
  rw[azo,H3 l _ (λq hq=>h q (azg _ hq)) id hid,mj,if_neg]
  grind
structure oZ(pl:ey)(n0 j:Nat)(d:DS)(e:Env)(σ:St):Prop where
 e:d.e=e
 n:d.n=σ.n
 le:n0<=σ.n
 bs:∃i b rest,d.bs=(i,b)::rest/\(rest=[]\/(i<j/\bt pl i=.effect))/\d.aU.foldl dO b=σ.t/\b.WF
 aU:∀p∈d.aU,(p.hi<=p.lo\/(p.j<j/\(bt pl p.j=.alloc\/bt pl p.j=.call)))/\p.hi<=d.n/\n0<=p.lo
variable{ops:Array Oper}{pl:ey}{d:DS}{e e':Env}{au:St}{j n0:Nat}
def xA{b:T Ob}(hs:oZ pl n0 j d e σ)(dQ:d.aU.foldl dO b=σ.t)(ho:FJ pl j=ab):seen d.aU (pl.cq.getD j 0) b=σ.t:=by
 unfold seen;rw[vQ _ _ λp hp=>?_,dQ];rcases(hs.aU p hp).1 with h|⟨h1,h2⟩
 .omega
 .exact .inl (Jt ho h1 (h2.elim .inl λh=>.inr (.inr h)))
def acj(h:FK pl j=ab):FJ pl j=ab:=by
 refine ayY.2 λi hi=>?_;have:=ayY.1 h i hi
 grind
def KC{bits:Nat}{e:Env}{n:Nat}{aU:List Piece}{b:T Ob}{l:List (Oper×Nat)}(h:∀p i,(p,i)∈l->bt pl i=.load->ay7 bits i=ab):recheck P pl ops bits e n aU b l=ab:=by
 unfold recheck;rw[ayY];rintro⟨p,q⟩ Bg;simp only;split
 .rename_i vG;rw[h p q Bg vG];rfl
 .rfl
def CH{U:Self}{av:St}{v:IV}(hs:oZ pl n0 j d e σ)(hk:bt pl j=.effect)(hw:aY o ops e=ab)(iR:∀p i,(p,i)∈ops.toList.zipIdx.take j->(p,i)∈ops.toList.zipIdx/\i<j)(hA:FK pl j=ab)
 (hx:kW P U ro e o σ=aa (v,av))(lD:av.t.WF)(hn:σ.n<=av.n):∃d1,bW P U pl ro ops o j d=aa d1/\oZ pl n0 (j+1) d1 (e.put o.dst v) av:=by
 have⟨i,b,rest,cd,dw,dQ,lh⟩:=hs.bs;have oF:=xA hs dQ (acj hA);have bL:(⟨d.n,seen d.aU (pl.cq.getD j 0) b⟩:St)=σ:=by rw[oF,hs.n]
 refine⟨⟨e.put o.dst v,av.n,(j,av.t)::d.bs,d.aU.filter λp=> !ay7 (pl.cq.getD j 0) p.j⟩,?_,⟨rfl,rfl,ay6 hs.le hn,⟨j,av.t,d.bs,rfl,.inr ⟨by omega,hk⟩,?_,lD⟩,λp hp=>?_⟩⟩
 .unfold bW;rw[cd];simp only;rw[hs.e,hw,if_pos rfl];have c8:pl.kinds.getD j .effect=.effect:=hk;rw[c8];rw[bL,hx];simp only;rw[if_pos (KC λp q Bg vG=>XV hA (iR p q Bg).2 bc)]
 .refine Cy _ _ λp hp hf=>?_;rcases(hs.aU p hp).1 with h|⟨h1,h2⟩
  .exact h
  .rw[Jt (acj hA) h1 (h2.elim .inl λh=>.inr (.inr h))]at hf;grind
 .have vA:=(azB.1 hp).1;have⟨h1,h2,h3⟩:=hs.aU p vA
  grind
def ack{T:gg}{θ:Nat->Option Nat}(QY:∀k k' id,θ k=aa id->θ k'=aa id->k=k')(hL:rQ P ops θ e σ T)(hY:pJ P ops n0 e σ T){U:Self}{av:St}{v:IV}(hs:oZ pl n0 j d e σ)(hk:bt pl j=.effect)(hw:aY o ops e=ab)(iR:∀p i,(p,i)∈ops.toList.zipIdx.take j->(p,i)∈ops.toList.zipIdx/\i<j)(hX:HZ pl T o j=ab)
 (hv:aA P ro (aD e) o σ=aa (.val v av))(lD:av.t.WF)(hn:σ.n<=av.n):∃d1,bW P U pl ro ops o j d=aa d1/\oZ pl n0 (j+1) d1 (e.put o.dst v) av:=by
 have⟨i,b,rest,cd,dw,dQ,lh⟩:=hs.bs;have oF:=xA hs dQ (aci hX);have bL:(⟨d.n,seen d.aU (pl.cq.getD j 0) b⟩:St)=σ:=by rw[oF,hs.n]
 have hx:kW P U ro e o σ=aa (v,av):=by unfold kW;rw[hv]
 have aeW:∀p∈(d.aU.filter λp=> !ay7 (pl.cq.getD j 0) p.j),p.hi<=p.lo:=λp hp=>by
  have⟨np,hp2⟩:=azB.1 hp;rcases(hs.aU p np).1 with h|⟨h1,h2⟩
  .exact h
  .rw[Jt (aci hX) h1 (h2.elim .inl λh=>.inr (.inr h))]at hp2;grind
 refine⟨⟨e.put o.dst v,av.n,(j,av.t)::d.bs,d.aU.filter λp=> !ay7 (pl.cq.getD j 0) p.j⟩,?_,⟨rfl,rfl,ay6 hs.le hn,⟨j,av.t,d.bs,rfl,.inr ⟨by omega,hk⟩,?_,lD⟩,λp hp=>?_⟩⟩
 .unfold bW;rw[cd];simp only;rw[hs.e,hw,if_pos rfl];have c8:pl.kinds.getD j .effect=.effect:=hk;rw[c8];simp only;rw[bL,hx];simp only;rw[if_pos];unfold recheck;rw[ayY];rintro⟨p,q⟩ Bg;simp only;split
  .rename_i vG;have⟨ayr,TL⟩:=iR p q Bg;unfold HZ at hX
   have hse:seen (d.aU.filter λp=> !ay7 (pl.cq.getD j 0) p.j) (pl.cq.getD q 0) av.t=av.t:=by
    unfold seen;exact H2 _ _ λp hp=>aeW p (azB.1 hp).1
   have oV:ops[q]?=aa p:=by
    grind
   split at hX<;>try (cases hX;done)
   .rename_i ty a x hg fk;split at hX
    .rename_i g Bi;simp only[ayI,ayY]at hX;have hq:=hX.2 q (aAi.2 TL);rw[azp]at hq;rcases hq with hq|hq
     .grind
     .rw[vG]at hq;simp only[aAE,ayI,Bool.not_eq_true']at hq;have⟨⟨i',a',d',h'⟩,hm,ct,bA⟩:=hq;have:=ay0 ct;simp only at this;subst this;have⟨p',ty',id,off,ep,ext,g1,g2,g3,g4,g5,g6⟩:=hL.ld _ _ _ _ hm;rw[g1]at oV;cases oV;have⟨T6,auA,ep2,auB,f1,f2⟩:=hL.tg _ _ (rR Bi);have⟨e1,e2⟩:=QX fk (show aD e (.tmp a)=_ from f2) hv
      have Z3:id≠T6:=λhe=>by
       subst he;have:=QY _ _ _ g4 f1;subst this;simp at bA
      have MO:=Ln g2 (show aD e (.tmp a')=_ from g5) g6 (e2 id Z3) av.n;rw[g3];simp only;unfold loadAt;rw[hse,MO];simp[Sm.sm]
    .simp only[ayI,ayY]at hX;have hq:=hX.2.2 q (aAi.2 TL);rw[azp]at hq;rcases hq with hq|hq
     .grind
     .rw[vG]at hq;simp only[aAE]at hq;have⟨⟨i',a',d'⟩,hm,ct⟩:=hq;have:=ay0 ct;subst this;have⟨p',ty',g1,g2,g3,g5,g6⟩:=hY.lo _ _ _ hm;rw[g1]at oV;cases oV;have⟨T6,auA,ep2,auB,f1,f2⟩:=hY.fr a hX.1;have⟨e1,e2⟩:=QX fk (show aD e (.tmp a)=_ from f2) hv;have MO:=T4 g2 (show FL n0 (aD e (.tmp a'))from g5) g6 (λid hid=>e2 id aj) av.n;rw[g3];unfold loadAt;rw[hse,MO];simp[Sm.sm]
   .rename_i ty a mk x hg fk;split at hX<;>try grind
    rename_i g Bi;simp only[ayI,ayY]at hX;have hq:=hX.2 q (aAi.2 TL);rw[azp]at hq;rcases hq with hq|hq
    .grind
    .simp only[vG,aAE,ayI]at hq;have⟨⟨i',a',d',h'⟩,hm,ct,bA⟩:=hq;have:=ay0 ct;subst this;have⟨p',ty',id,off,ep,ext,g1,g2,g3,g4,g5,g6⟩:=hL.ld _ _ _ _ hm;rw[g1]at oV;cases oV;have⟨T6,f1,f2⟩:=hL.mg _ _ (rR Bi);have e2:=Z0 fk (show aD e (.tmp a)=_ from f2) hv
     have Z3:id≠T6:=λhe=>by
      subst he;have:=QY _ _ _ g4 f1
      simp_all
     have MO:=Ln g2 (show aD e (.tmp a')=_ from g5) g6 (e2 id Z3) av.n;rw[g3];unfold loadAt;rw[hse,MO];simp[Sm.sm]
  .rfl
 .exact H2 _ _ aeW
 .have vA:=(azB.1 hp).1;have⟨h1,h2,h3⟩:=hs.aU p vA
  grind
def noX{T:gg}(h:HZ pl T o j=ab)(hn:(∃ro ρ f args,aA P ro ρ o σ=aa (.enter f args))\/aY o ops e=af):False:=by
 unfold HZ at h;split at h<;>try grind
 .rename_i ty a x hg fk;rcases hn with⟨ro,ρ,f,args,hn⟩|hn
  .simp only[aA,fk]at hn
   repeat' split at hn
   all_goals try (cases hn;done)
   all_goals (have:=aZ hn;cases this)
  simp_all[aY]
 .rename_i ty a mk x hg fk;rcases hn with⟨ro,ρ,f,args,hn⟩|hn
  .simp only[aA,fk]at hn
   repeat' split at hn
   all_goals try (cases hn;done)
   all_goals (have:=aZ hn;cases this)
  simp_all[aY]
def MP{fr:Bool}{l:List (Oper×Nat)}{θ:Nat->Option Nat}(QY:∀k k' id,θ k=aa id->θ k'=aa id->k=k')(h:gr P ro ops pl fr l e σ e' au):
 ∀(k:Nat) (d:DS) (T:gg),ops.toList.zipIdx.drop k=l->oZ pl n0 k d e σ->ji P pl l T=ab->lR n0 e T->rQ P ops θ e σ T/\pJ P ops n0 e σ T->
  ∃SF:Nat->Self,(∀i,O P (SF i))/\∃d',j2 P SF pl ro ops l d=aa d'/\d'.e=e'/\d'.n=au.n/\∃i b rest,d'.bs=(i,b)::rest/\d'.aU.foldl dO b=au.t:=by
 have dR:∀{o:Oper} {j:Nat} {l:List (Oper×Nat)} {k:Nat},ops.toList.zipIdx.drop k=(o,j)::l->j=k/\ops.toList.zipIdx.drop (k+1)=l/\
  (∀p i,(p,i)∈ops.toList.zipIdx.take j->(p,i)∈ops.toList.zipIdx/\i<j)/\(∀o' i,(o',i)∈l->i≠j)/\ops[j]?=aa o:=by
  intro o j l k h;have h1:(ops.toList.zipIdx.drop k)[0]?=aa (o,j):=by rw[h];rfl
  rw[List.getElem?_drop,Nat.add_zero]at h1;rw[List.getElem?_zipIdx]at h1
  have hj:j=k:=by
   cases hk:ops.toList[k]? with
   |none=>rw[hk]at h1;cases h1
   |some o'=>rw[hk]at h1;simp at h1;omega
  have Cg:ops.toList.zipIdx.drop (k+1)=l:=by rw[<-aAR (i:=1) (j:=k),h];rfl
  have qi:ops[j]?=aa o:=by
   rw[hj];cases hk:ops.toList[k]? with
   |none=>rw[hk]at h1;cases h1
   |some o'=>
    rw[hk]at h1;simp at h1;rw[Array.getElem?_toList]at hk;rw[hk,h1.1]
  refine⟨hj,Cg,λp i hp=>⟨List.mem_of_mem_take hp,?_⟩,λo' i hi=>?_,qi⟩
  .obtain⟨m,hm,he⟩:=aBO hp;rw[List.length_take]at hm;rw[List.getElem_take,aCN]at he;cases he;omega
  .rw[<-Cg]at hi;obtain⟨m,hm,he⟩:=aBO hi;rw[List.getElem_drop,aCN]at he;cases he;omega
 induction h with
 |nil e σ=>
  intro k d T _ hs _ _ _;obtain⟨i,b,rest,h1,_,h3,_⟩:=hs.bs;exact⟨λ_=>Self.none,λ_=>qx,d,rfl,hs.e,hs.n,i,b,rest,h1,h3⟩
 | @skip o j l e σ e' au hw h ih=>
   intro k d T hl hs hc hT qT;obtain⟨rfl,hd,iR,ak,qi⟩:=dR hl;simp only[ji,ayI]at hc;obtain⟨cU,qP⟩:=hc;obtain⟨i,b,rest,cd,dw,dQ,lh⟩:=hs.bs;have kJ:∀p∈d.aU,(p.hi<=p.lo\/(p.j<j+1/\(bt pl p.j=.alloc\/bt pl p.j=.call)))/\p.hi<=d.n/\n0<=p.lo:=λp hp=>⟨(hs.aU p hp).1.imp id (λh=>⟨by omega,h.2⟩),(hs.aU p hp).2⟩
   have key:∃U,O P U/\∃d1,bW P U pl ro ops o j d=aa d1/\oZ pl n0 (j+1) d1 (e.put o.dst .undef) σ:=by
    refine⟨Self.none,qx,?_⟩;by_cases hk:bt pl j=.effect
    .refine⟨⟨d.e.put o.dst .undef,d.n,(j,b)::d.bs,d.aU⟩,?_,⟨by rw[hs.e],hs.n,hs.le,⟨j,b,d.bs,rfl,.inr ⟨by omega,hk⟩,dQ,lh⟩,kJ⟩⟩;unfold bW;rw[cd];simp only;rw[hs.e,hw,if_neg aw];have c8:pl.kinds.getD j .effect=.effect:=hk;have hA:FK pl j=ab:=by unfold mS at cU;rw[c8,azp]at cU;exact cU.elim id λh=>(noX (P:=P) (σ:=σ) h (.inr hw)).elim
     rw[c8];simp only;rw[if_pos (KC λp q Bg vG=>XV hA (iR p q Bg).2 (by rw[vG];simp))]
    .refine⟨{d with e:=d.e.put o.dst .undef},?_,⟨by rw[hs.e],hs.n,hs.le,⟨i,b,rest,cd,dw.imp id (λh=>⟨by omega,h.2⟩),dQ,lh⟩,kJ⟩⟩;unfold bW;rw[cd];simp only;rw[hs.e,hw,if_neg aw];have c8:pl.kinds.getD j .effect≠.effect:=hk;cases hq:pl.kinds.getD j .effect<;>first|exact absurd hq c8|simp only
   obtain⟨U,hU,d1,h1,h2⟩:=key;obtain⟨SF,iK,d',h3,h4⟩:=ih (j+1) d1 (Hn T o j) hd h2 qP (hT.skip j (.inl ⟨hw,rfl⟩)) ⟨qT.1.skip (.inl ⟨hw,rfl⟩),qT.2.skip hT qT.2.n (.inl ⟨hw,rfl,rfl⟩)⟩;obtain⟨rL,h5,h6⟩:=nw hU iK h1 h3 ak;exact⟨rL,h5,d',h6,h4⟩
 | @val o j l e σ e' au v av hw hv h ih=>
   intro k d T hl hs hc hT qT;obtain⟨rfl,hd,iR,ak,qi⟩:=dR hl;simp only[ji,ayI]at hc;obtain⟨cU,qP⟩:=hc;have⟨i,b,rest,cd,dw,dQ,lh⟩:=hs.bs;have rM:σ.t.WF:=dQ▸mD _ lh;have kJ:∀p∈d.aU,(p.hi<=p.lo\/(p.j<j+1/\(bt pl p.j=.alloc\/bt pl p.j=.call)))/\p.hi<=d.n/\n0<=p.lo:=λp hp=>⟨(hs.aU p hp).1.imp id (λh=>⟨by omega,h.2⟩),(hs.aU p hp).2⟩
   have one:∀(t:Go.Ev.T Ob),((av=σ)\/∃ob,av=σ.add ob/\t.get σ.n=aa ob)->(bt pl j=.alloc\/bt pl j=.call)->
    oZ pl n0 (j+1) ⟨d.e.put o.dst v,av.n,d.bs,⟨j,d.n,av.n,t⟩::d.aU⟩ (e.put o.dst v) av:=by
    intro t vE hk;refine⟨by rw[hs.e],rfl,ay6 hs.le (mB hv),⟨i,b,rest,cd,dw.imp id (λh=>⟨by omega,h.2⟩),?_,lh⟩,λp hp=>?_⟩
    .simp only[azo];rcases vE with rfl|⟨ob,rfl,ht⟩
     .rw[mC _ _ (by simp[hs.n]),dQ]
     .refine Go.Ev.T.WF.ext (mD _ (Ah lh _)) (rM.set _ _) λid=>?_
      have:=Cz (n:=σ.n) (ob:=ob) d.aU (dO b ⟨j,d.n,(σ.add ob).n,t⟩) b (λp hp=>by rw[<-hs.n];exact(hs.aU p hp).2.1) (λid=>by
       rw[mj,Go.Ev.T.hZ];simp only[hs.n,St.pD];by_cases hid:σ.n=id
       .subst hid;simp[ht]
       .rw[if_neg aj,if_neg hid]) id
      rw[this,dQ];rfl
    .rcases ayW.1 hp with rfl|hp
     .exact⟨.inr ⟨by simp,hk⟩,ayL _,by show n0<=d.n;rw[hs.n];exact hs.le⟩
     .have⟨h1,h2,h3⟩:=kJ p hp;exact⟨h1,by have:=mB hv;rw[hs.n]at h2;exact ay6 h2 this,h3⟩
   have key:∃U,O P U/\∃d1,bW P U pl ro ops o j d=aa d1/\oZ pl n0 (j+1) d1 (e.put o.dst v) av:=by
    refine⟨Self.none,qx,?_⟩;cases hk:bt pl j with
    |pure=>
     have c8:pl.kinds.getD j .effect=.pure:=hk;unfold mS at cU;rw[c8]at cU;have lE:cR o=.pure:=by simpa using cU
     obtain⟨rfl,lO⟩:=Cu lE hv;refine⟨{d with e:=d.e.put o.dst v},?_,⟨by rw[hs.e],hs.n,hs.le,⟨i,b,rest,cd,dw.imp id (λh=>⟨by omega,h.2⟩),dQ,lh⟩,kJ⟩⟩;unfold bW;rw[cd];simp only;rw[hs.e,hw,if_pos rfl];rw[c8];simp only;rw[lO 0 ⟨0,.lf⟩];simp[hs.e,cd]
    |alloc=>
     have c8:pl.kinds.getD j .effect=.alloc:=hk;unfold mS at cU;rw[c8]at cU;simp only[ayI,beq_iff_eq]at cU;have⟨t,lO,vE⟩:=MM cU.1 hv;refine⟨⟨d.e.put o.dst v,av.n,d.bs,⟨j,d.n,av.n,t⟩::d.aU⟩,?_,one t (vE.imp (λh=>h.1) λ⟨ob,h1,h2⟩=>⟨ob,h1,by rw[h2,Go.Ev.T.hZ,if_pos rfl]⟩) (.inl hk)⟩;unfold bW;rw[cd];simp only;rw[hs.e,hw,if_pos rfl];rw[c8];simp only;rw[hs.n,lO 0]
    |load=>
     have c8:pl.kinds.getD j .effect=.load:=hk;unfold mS at cU;rw[c8]at cU;simp only[ayI,beq_iff_eq,azp]at cU;have⟨lE,cU⟩:=cU;obtain⟨rfl,lO⟩:=Cv lE hv
     have fD:aA P d.n (aD e) o ⟨d.n,seen d.aU (pl.cq.getD j 0) b⟩=aa (.val v ⟨d.n,seen d.aU (pl.cq.getD j 0) b⟩):=by
      rcases cU with ho|⟨_,ho⟩
      .have oF:=xA hs dQ ho;have bL:(⟨d.n,seen d.aU (pl.cq.getD j 0) b⟩:St)=av:=by rw[oF,hs.n]
       rw[bL];exact lO d.n
      .rcases ho with ho|ho
       .exact afb ho hv _ _
       split at ho<;>try (cases ho;done)
       rename_i t a fk;refine ZZ fk (H0 hT ho) hv (λid hid=>?_) d.n;show(seen d.aU (pl.cq.getD j 0) b).get id=av.t.get id;unfold seen;rw[<-dQ,H3 _ _ (λp hp=>(hs.aU p (azB.1 hp).1).2.2) id hid,H3 _ _ (λp hp=>(hs.aU p hp).2.2) id hid]
     have Z4:(ay7 (pl.cq.getD j 0) i||nS P e o d.n v d.aU (pl.cq.getD j 0) rest)=ab:=by
      rcases dw with rfl|⟨h1,h2⟩
      .simp[nS]
      .have:ay7 (pl.cq.getD j 0) i=ab:=by
        rcases cU with ho|⟨ho,_⟩
        .exact Jt ho h1 (.inr (.inl h2))
        .exact ajA ho h1 h2
       rw[this];rfl
     refine⟨{d with e:=d.e.put o.dst v},?_,⟨by rw[hs.e],hs.n,hs.le,⟨i,b,rest,cd,dw.imp id (λh=>⟨by omega,h.2⟩),dQ,lh⟩,kJ⟩⟩;unfold bW;rw[cd];simp only;rw[hs.e,hw,if_pos rfl];rw[c8];simp only;rw[fD];simp only;rw[if_pos ⟨trivial,Z4⟩]
    |call=>
     have c8:pl.kinds.getD j .effect=.call:=hk;unfold mS at cU;rw[c8]at cU;simp only[ayI,azp]at cU;have⟨⟨_,ho⟩,cU⟩:=cU;rcases cU with cU|cU
     .exact(Hh cU hv).elim
     .split at cU<;>try (cases cU;done)
      rename_i a hb;have⟨lO,vE⟩:=alJ hb (ach hT cU) hv;have oF:=xA hs dQ ho;have bL:(⟨d.n,seen d.aU (pl.cq.getD j 0) b⟩:St)=σ:=by rw[oF,hs.n]
      refine⟨⟨d.e.put o.dst v,av.n,d.bs,⟨j,d.n,av.n,av.t⟩::d.aU⟩,?_,one av.t (vE.imp id λ⟨ob,h1⟩=>⟨ob,h1,by rw[h1];exact(by simp[St.add,Go.Ev.T.hZ])⟩) (.inr hk)⟩;unfold bW;rw[cd];simp only;rw[hs.e,hw,if_pos rfl];rw[c8];simp only;rw[bL];unfold kW;rw[lO d.n]
    |effect=>
     have c8:pl.kinds.getD j .effect=.effect:=hk;have hA:(FK pl j||HZ pl T o j)=ab:=by unfold mS at cU;rw[c8]at cU;exact cU
     rw[azp]at hA;rcases hA with hA|hA
     .refine CH hs hk hw iR hA ?_ (ZS hv rM) (mB hv);unfold kW;rw[hv]
     .exact ack QY qT.1 qT.2 hs hk hw iR hA hv (ZS hv rM) (mB hv)
   have⟨U,hU,d1,h1,h2⟩:=key;have⟨SF,iK,d',h3,h4⟩:=ih (j+1) d1 (Hn T o j) hd h2 qP (hT.step j hv) ⟨qT.1.step qi hT hv,qT.2.step qi hT hv (mB hv)⟩;have⟨rL,h5,h6⟩:=nw hU iK h1 h3 ak;exact⟨rL,h5,d',h6,h4⟩
 | @Sl o j l e σ e' au f args v hw hv jy h ih=>
   intro k d T hl hs hc hT qT;obtain⟨rfl,hd,iR,ak,qi⟩:=dR hl;simp only[ji,ayI]at hc;have⟨cU,qP⟩:=hc;have⟨i,b,rest,cd,dw,dQ,lh⟩:=hs.bs;have rM:σ.t.WF:=dQ▸mD _ lh;have kJ:∀p∈d.aU,(p.hi<=p.lo\/(p.j<j+1/\(bt pl p.j=.alloc\/bt pl p.j=.call)))/\p.hi<=d.n/\n0<=p.lo:=λp hp=>⟨(hs.aU p hp).1.imp id (λh=>⟨by omega,h.2⟩),(hs.aU p hp).2⟩
   have y7:∀gq,kW P (tC ah f args σ v σ) gq e o σ=aa (v,σ):=by
    intro gq;unfold kW;rw[FD hv gq σ];simp[tC]
   have jS:=sF hv
   have key:∃U,O P U/\∃d1,bW P U pl ro ops o j d=aa d1/\oZ pl n0 (j+1) d1 (e.put o.dst v) σ:=by
    refine⟨tC ah f args σ v σ,vP λgq _=>jy gq,?_⟩;cases hk:bt pl j with
    |pure=>
     have c8:pl.kinds.getD j .effect=.pure:=hk;unfold mS at cU;rw[c8]at cU;have lE:cR o=.pure:=by simpa using cU
     rw[lE]at jS;rcases jS with jS|jS<;>cases jS
    |alloc=>
     have c8:pl.kinds.getD j .effect=.alloc:=hk;unfold mS at cU;rw[c8]at cU;simp only[ayI,beq_iff_eq]at cU;rw[cU.1]at jS;rcases jS with jS|jS<;>cases jS
    |load=>
     have c8:pl.kinds.getD j .effect=.load:=hk;unfold mS at cU;rw[c8]at cU;simp only[ayI,beq_iff_eq]at cU;rw[cU.1]at jS;rcases jS with jS|jS<;>cases jS
    |call=>
     have c8:pl.kinds.getD j .effect=.call:=hk;unfold mS at cU;rw[c8]at cU;simp only[ayI]at cU;have zV:=xA hs dQ cU.1.2;refine⟨⟨d.e.put o.dst v,d.n,d.bs,⟨j,d.n,d.n,seen d.aU (pl.cq.getD j 0) b⟩::d.aU⟩,?_,⟨by rw[hs.e],hs.n,hs.le,⟨i,b,rest,cd,dw.imp id (λh=>⟨by omega,h.2⟩),?_,lh⟩,λp hp=>?_⟩⟩
     .unfold bW;rw[cd];simp only;rw[hs.e,hw,if_pos rfl];rw[c8];simp only;have bL:(⟨d.n,seen d.aU (pl.cq.getD j 0) b⟩:St)=σ:=by rw[zV,hs.n]
      rw[bL,y7,zV];simp only[hs.n]
     .simp only[azo];rw[mC _ _ aw,dQ]
     .rcases ayW.1 hp with rfl|hp
      .exact⟨.inl (ayL _),ayL _,by show n0<=d.n;rw[hs.n];exact hs.le⟩
      .exact kJ p hp
    |effect=>
     have c8:pl.kinds.getD j .effect=.effect:=hk;have hA:FK pl j=ab:=by unfold mS at cU;rw[c8,azp]at cU;exact cU.elim id λh=>(noX (ops:=ops) (e:=e) h (.inl ⟨_,_,_,_,hv⟩)).elim
     exact CH hs hk hw iR hA (y7 ro) rM (ayL _)
   have⟨U,hU,d1,h1,h2⟩:=key;obtain⟨SF,iK,d',h3,h4⟩:=ih (j+1) d1 (Hn T o j) hd h2 qP (hT.skip (ops:=ops) j (.inr jS)) ⟨qT.1.skip (.inr jS),qT.2.skip hT (by first|exact qT.2.n|(have:=hs.le;have:=h2.le;have:=h2.n;omega)) (.inr jS)⟩;have⟨rL,h5,h6⟩:=nw hU iK h1 h3 ak;exact⟨rL,h5,d',h6,h4⟩
 | @ZT o j l e σ e' au f args v ob hq hw hv jy h ih=>
   intro k d T hl hs hc hT qT;obtain⟨rfl,hd,iR,ak,qi⟩:=dR hl;simp only[ji,ayI]at hc;have⟨cU,qP⟩:=hc;have⟨i,b,rest,cd,dw,dQ,lh⟩:=hs.bs;have rM:σ.t.WF:=dQ▸mD _ lh;have kJ:∀p∈d.aU,(p.hi<=p.lo\/(p.j<j+1/\(bt pl p.j=.alloc\/bt pl p.j=.call)))/\p.hi<=d.n/\n0<=p.lo:=λp hp=>⟨(hs.aU p hp).1.imp id (λh=>⟨by omega,h.2⟩),(hs.aU p hp).2⟩
   have y7:∀gq,kW P (tC ah f args σ v (σ.add ob)) gq e o σ=aa (v,σ.add ob):=by
    intro gq;unfold kW;rw[FD hv gq σ];simp[tC]
   have jS:=sF hv
   have key:∃U,O P U/\∃d1,bW P U pl ro ops o j d=aa d1/\oZ pl n0 (j+1) d1 (e.put o.dst v) (σ.add ob):=by
    refine⟨tC ah f args σ v (σ.add ob),vP λgq _=>jy gq,?_⟩;cases hk:bt pl j with
    |pure=>
     have c8:pl.kinds.getD j .effect=.pure:=hk;simp only[mS,c8]at cU;have lE:cR o=.pure:=by simpa using cU
     rw[lE]at jS;rcases jS with jS|jS<;>cases jS
    |alloc=>
     have c8:pl.kinds.getD j .effect=.alloc:=hk;simp only[mS,c8,ayI,beq_iff_eq]at cU;rw[cU.1]at jS;rcases jS with jS|jS<;>cases jS
    |load=>
     have c8:pl.kinds.getD j .effect=.load:=hk;simp only[mS,c8,ayI,beq_iff_eq]at cU;rw[cU.1]at jS;rcases jS with jS|jS<;>cases jS
    |call=>
     have c8:pl.kinds.getD j .effect=.call:=hk;simp only[mS,c8,ayI]at cU;have zV:=xA hs dQ cU.1.2;refine⟨⟨d.e.put o.dst v,(σ.add ob).n,d.bs,⟨j,d.n,(σ.add ob).n,(σ.add ob).t⟩::d.aU⟩,?_,⟨by rw[hs.e],rfl,ay6 hs.le aw,⟨i,b,rest,cd,dw.imp id (λh=>⟨by omega,h.2⟩),?_,lh⟩,λp hp=>?_⟩⟩
     .unfold bW;rw[cd];simp only;rw[hs.e,hw,if_pos rfl];rw[c8];have bL:(⟨d.n,seen d.aU (pl.cq.getD j 0) b⟩:St)=σ:=by rw[zV,hs.n]
      rw[bL,y7]
     .simp only[azo];refine Go.Ev.T.WF.ext (mD _ (Ah lh _)) (rM.set _ _) λid=>?_
      have:=Cz (n:=σ.n) (ob:=ob) d.aU (dO b ⟨j,d.n,(σ.add ob).n,(σ.add ob).t⟩) b (λp hp=>by rw[<-hs.n];exact(hs.aU p hp).2.1) (λid=>by
       rw[mj,Go.Ev.T.hZ];simp only[hs.n,St.pD];by_cases hid:σ.n=id
       .subst hid;rw[if_pos aj,if_pos rfl];have:(σ.add ob).t.get σ.n=aa ob:=by simpa[St.at]using St.jO σ ob σ.n
        simp[this]
       .rw[if_neg aj,if_neg hid]) id
      rw[this,dQ];rfl
     .rcases ayW.1 hp with rfl|hp
      .exact⟨.inr ⟨by simp,.inr hk⟩,ayL _,by show n0<=d.n;rw[hs.n];exact hs.le⟩
      .have⟨h1,h2,h3⟩:=kJ p hp;exact⟨h1,by rw[hs.n]at h2;simp;omega,h3⟩
    |effect=>
     have c8:pl.kinds.getD j .effect=.effect:=hk;have hA:FK pl j=ab:=by simp only[mS,c8,azp]at cU;exact cU.elim id λh=>(noX (ops:=ops) (e:=e) h (.inl ⟨_,_,_,_,hv⟩)).elim
     exact CH hs hk hw iR hA (y7 ro) (rM.set _ _) aw
   have⟨U,hU,d1,h1,h2⟩:=key;obtain⟨SF,iK,d',h3,h4⟩:=ih (j+1) d1 (Hn T o j) hd h2 qP (hT.skip (ops:=ops) j (.inr jS)) ⟨qT.1.skip (.inr jS),qT.2.skip hT (by first|exact qT.2.n|(have:=hs.le;have:=h2.le;have:=h2.n;omega)) (.inr jS)⟩;have⟨rL,h5,h6⟩:=nw hU iK h1 h3 ak;exact⟨rL,h5,d',h6,h4⟩
 | @call o j l e σ e' au f args v av hk hw hv jy lD h ih=>
   intro k d T hl hs hc hT qT;obtain⟨rfl,hd,iR,ak,qi⟩:=dR hl;simp only[ji,ayI]at hc;have⟨cU,qP⟩:=hc;have⟨i,b,rest,cd,dw,dQ,lh⟩:=hs.bs;have rM:=dQ▸mD _ lh;have c8:pl.kinds.getD j .effect=.effect:=hk;have hA:FK pl j=ab:=by simp only[mS,c8,azp]at cU;exact cU.elim id λh=>(noX (ops:=ops) (e:=e) h (.inl ⟨_,_,_,_,hv⟩)).elim
   obtain⟨d1,h1,h2⟩:=CH (U:=tC (aa ro) f args σ v av) (v:=v) (av:=av) hs hk hw iR hA (by unfold kW;rw[hv];simp[tC]) (lD rM) jy.1;obtain⟨SF,iK,d',h3,h4⟩:=ih (j+1) d1 (Hn T o j) hd h2 qP (hT.skip (ops:=ops) j (.inr (sF hv))) ⟨qT.1.skip (.inr (sF hv)),qT.2.skip hT (by first|exact qT.2.n|(have:=hs.le;have:=h2.le;have:=h2.n;omega)) (.inr (sF hv))⟩;obtain⟨rL,h5,h6⟩:=nw (vP (R:=aa ro) λgq hR=>by rcases hR with hR|hR<;>cases hR;exact jy) iK h1 h3 ak;exact⟨rL,h5,d',h6,h4⟩
variable{rd:Option Nat}{fn:FuncId}{df:List Df}
def gD.Z5{id:Nat}{fr:Bool}{T:gg}(fR:P.follows .mixedOrders=ab)(gd:(bS ops).ok=ab)(bf:ji P (bS ops) ops.toList.zipIdx T=ab)(hT:lR σ.n e T){θ:Nat->Option Nat}(QY:∀k k' id,θ k=aa id->θ k'=aa id->k=k')(qT:rQ P ops θ e σ T/\pJ P ops σ.n e σ T)(lD:σ.t.WF)
 (h:gr P ro ops (bS ops) fr ops.toList.zipIdx e σ e' au):gD P ro rd fn (.region id ops ab) e df σ ⟨.normal,e',df,au⟩:=by
 obtain⟨SF,iK,d',h1,h2,h3,i,b,rest,h4,h5⟩:=MP (n0:=σ.n) QY h 0 ⟨e,σ.n,[(0,σ.t)],[]⟩ T aw ⟨rfl,rfl,ayL _,⟨0,σ.t,[],rfl,.inl rfl,rfl,lD⟩,λp hp=>by grind⟩ bf hT qT
 have fD:kX P SF ro ops e df σ=aa ⟨.normal,e',df,au⟩:=by
  unfold kX;rw[if_pos gd,h1];have⟨de,dn,dbs,afa⟩:=d'
  simp_all
 refine .mk (Fy (λi=>(iK i).2.2.1) (λi=>(iK i).2.2.2) fD) aw λN hN F ι a w Q hF hi he hd hQ=>?_;exact Lj fR (λi=>(iK i).1) (λi=>(iK i).2.1) (λi=>(iK i).2.2.1) (λi=>(iK i).2.2.2) N ro rd ops e df σ _ fD hN F ι a w Q id hF hi he hd hQ
def Lo(P:Program)(ro:Nat)(rd:Option Nat)(ops:Array Oper)(e:Env)(df:List Df)(σ:St)(e':Env)(au:St):Prop:=
 ∀N,au.n<=N->∀F ι a w Q,kH F rd ι->Inv N ι σ w->dc ι e a.tmps->mf ι df a.defers->uH N ro ι w σ ⟨.normal,e',df,au⟩ Q->wpAnyIn F 0 P .any ops Q ops.size (azF ops.size af) a {w with drawn:=w.drawn+1}
def Lo.draw(gd:(bS ops).ok=ab)(bf:Cw ops (bS ops)=ab)(lD:σ.t.WF)
 (h:gr P ro ops (bS ops) af ops.toList.zipIdx e σ e' au):Lo P ro rd ops e df σ e' au:=by
 obtain⟨SF,iK,d',h1,h2,h3,i,b,rest,h4,h5⟩:=QU bf h 0 ⟨e,σ.n,[(0,σ.t)],[]⟩ aw ⟨rfl,rfl,⟨0,σ.t,[],rfl,.inl rfl,rfl,lD⟩,λp hp=>by grind⟩
 have fD:kX P SF ro ops e df σ=aa ⟨.normal,e',df,au⟩:=by
  unfold kX;rw[if_pos gd,h1];have⟨de,dn,dbs,afa⟩:=d'
  simp_all
 exactλN hN F ι a w Q hF hi he hd hQ=>HU (λi=>(iK i).1) (λi=>(iK i).2.1) (λi=>(iK i).2.2.1) (λi=>(iK i).2.2.2) N ro rd ops e df σ _ fD hN F ι a w Q hF hi he hd hQ
def Lo.Z5{fr:Bool}{T:gg}(gd:(bS ops).ok=ab)(bf:ji P (bS ops) ops.toList.zipIdx T=ab)(hT:lR σ.n e T){θ:Nat->Option Nat}(QY:∀k k' id,θ k=aa id->θ k'=aa id->k=k')(qT:rQ P ops θ e σ T/\pJ P ops σ.n e σ T)(lD:σ.t.WF)
 (h:gr P ro ops (bS ops) fr ops.toList.zipIdx e σ e' au):Lo P ro rd ops e df σ e' au:=by
 obtain⟨SF,iK,d',h1,h2,h3,i,b,rest,h4,h5⟩:=MP (n0:=σ.n) QY h 0 ⟨e,σ.n,[(0,σ.t)],[]⟩ T aw ⟨rfl,rfl,ayL _,⟨0,σ.t,[],rfl,.inl rfl,rfl,lD⟩,λp hp=>by grind⟩ bf hT qT
 have fD:kX P SF ro ops e df σ=aa ⟨.normal,e',df,au⟩:=by
  unfold kX;rw[if_pos gd,h1];have⟨de,dn,dbs,afa⟩:=d'
  simp_all
 exactλN hN F ι a w Q hF hi he hd hQ=>HU (λi=>(iK i).1) (λi=>(iK i).2.1) (λi=>(iK i).2.2.1) (λi=>(iK i).2.2.2) N ro rd ops e df σ _ fD hN F ι a w Q hF hi he hd hQ
end
section
variable{P:Program}{N:Nat}{ι:Io}{w:World}{σ au:St}{e:Env}{rd:Option Nat}{fn:FuncId}{df:List Df}{CW:lz}{ops:Array Oper}{F:Fence}{n:Nat}{Q Q':Exit->Act->World->Prop}
def mem_ready{listed:Array Bool}{i:Nat}(hi:i<ops.size)(hf:listed[i]?=aa af)(h:∀o,ops[i]?=aa o->∀e∈o.after.toList,az7 .any e=ab->ie listed e.on):i∈azJ .any ops listed:=by
 unfold azJ;rw[azB,aAi];refine⟨hi,?_⟩;rw[Array.getD_eq_getD_getElem?,hf,aza hi];simp only[Option.getD_some,Bool.not_false,Bool.true_and,Option.map_some];rw[Array.all_eq_true'];intro e he;cases hb:az7 .any e with
 |false=>rfl
 |true=>
  have:=h _ (aza hi) e bc hb
  simp_all[ie]
def Lp{listed:Array Bool}{i:Nat}(hi:i<listed.size)(h:¬ie listed i):listed[i]?=aa af:=by
 unfold ie at h
 simp_all
abbrev Bf(ops:Array Oper)(j i:Nat):Prop:=ay7 ((K6 ops).getD j 0) i=ab
abbrev Z6(ops:Array Oper):Prop:=∀(j:Nat) (o:Oper),ops[j]?=aa o->∀e∈o.after.toList,az7 .any e=ab->e.on<j
def aql(hb:Z6 ops):∀(j:Nat),j<ops.size->∀i,Bf ops j i->i<j:=by
 intro j;induction j using Nat.strongRecOn with
 |_ j ih=>
  intro hj i lM;have ho:=aza hj;have⟨e,he,Hg,h⟩:=(haveI:=yP;EC ho lM)
  grind
def afc(hb:Z6 ops){k:Nat}(ht:∀i,k<=i->i<ops.size->∀i',i'<i->Bf ops i i'):∀(r m fuel:Nat) (listed:Array Bool) (a:Act) (w:World),m+r=ops.size->k<=m->r<=fuel->listed.size=ops.size->(∀i,i<ops.size->(ie listed i↔i<m))->
 wpOpsIn F n P ops Q (aAx m r) a w->wpAnyIn F n P .any ops Q fuel listed a w:=by
 intro r;induction r with
 |zero=>
  intro m fuel listed a w hm hk hf bo hl h
  have gx:azJ .any ops listed=[]:=by
   cases hr:azJ .any ops listed with
   |nil=>rfl
   |cons x xs=>
    have⟨h1,h2,_⟩:=rK (show x∈azJ .any ops listed by grind);have:=(hl x h1).2 aj
    simp_all[ie]
  cases fuel with
  |zero=>exact⟨gx,h⟩
  |succ fuel=>exact⟨λ_=>h,λi hi=>by grind⟩
 |succ r ih=>
  intro m fuel listed a w hm hk hf bo hl h;cases fuel with
  |zero=>omega
  |succ fuel=>
   have hms:m<ops.size:=aj
   have hmr:=mem_ready hms (Lp aj (λhc=>aD0 _ ((hl m hms).1 hc))) λo ho e he Hg=>by
    grind
   refine⟨λAY=>bc,λj hj=>?_⟩;have⟨TH,vd,o,qi,ae_⟩:=rK hj
   have hjm:=aCh λak=>by
    have:=(hl j TH).2 ak
    simp_all[ie]
   have hje:j=m:=by
    refine Nat.le_antisymm (aCh λak=>?_) hjm;have⟨e,he,Hg,hh⟩:=(haveI:=yP;EC qi (ht j aj TH m aj));have hle:=ae_ e he Hg;have py:=(hl e.on bc).1 hle;rcases hh with hh|hh
    .omega
    .have:=aql hb e.on aj m hh;omega
   subst hje;rw[aBf,wpOpsIn_cons]at h;refine wpOpIn_mono (λa w h=>?_) h;refine ih (j+1) fuel _ a w aj aj aj bc (λi hi=>?_) h;rw[AI aj]
   grind
def Oper.Z7{o:Oper}{a:Act}{w:World}{K K':Act->World->Prop}(h:∀a w,K a w->K' a w)(hq:∀e a w,e≠.normal->Q' e a w->Q e a w)
 (hh:o.wpIn F n P a w K Q'):o.wpIn F n P a w K' Q:=by
 have lets:LetsOut Q'->LetsOut Q:=λ⟨a,w,h⟩=>⟨a,w,hq _ _ _ aw h⟩;refine⟨hh.1,?_⟩;have hh:=hh.2;generalize(o.semAt F.round a.eval).run P w=r at*
 cases r with
 |ok x w'=>
  cases x<;>simp only[aD6]at hh⊢<;>
   first
    |grind
    |exact⟨hh.1,CallsIn.mono hh.2 (λe w'' he=>by grind)⟩
    |exact⟨hh.1,RowsIn.mono hh.2 (λ_ _ he=>h _ _ he)⟩
    |exact⟨hh.1,RoundIn.mono hh.2 (λe w'' he=>by grind)⟩
 |halt x w'=>cases x<;>simp only[aD6]at hh⊢<;>first|exact hh|grind
def ajB{pre:Array Oper}(hb:Z6 ops){k:Nat}(hk:k<=ops.size)(ht:∀i,k<=i->i<ops.size->∀i',i'<i->Bf ops i i')(ou:pre.size=k)(Cp:∀i,i<k->pre[i]?=ops[i]?)(oV:qf pre (bS pre))
 (hg:∀i o,i<k->ops[i]?=aa o->∀j want,o.guard=aa (j,want)->j<k)(hqn:∀a w,Q' .normal a w->wpOpsIn F n P ops Q (aAx k (ops.size- k)) a w)(hq:∀e a w,e≠.normal->Q' e a w->Q e a w):
 ∀(fuel:Nat) (lp l:Array Bool) (a:Act) (w:World),lp.size=k->l.size=ops.size->(∀i,i<k->(ie l i↔ie lp i))->(∀i,k<=i->i<ops.size->¬ie l i)->(∀i,i<k->ie lp i->∀i',Bf ops i i'->ie lp i')->
  wpAnyIn F n P .any pre Q' fuel lp a w->wpAnyIn F n P .any ops Q (fuel+(ops.size- k)) l a w:=by
 have main:∀(fuel:Nat) (lp l:Array Bool) (a:Act) (w:World),lp.size=k->l.size=ops.size->(∀i,i<k->(ie l i↔ie lp i))->(∀i,k<=i->i<ops.size->¬ie l i)->azJ .any pre lp=[]->Q' .normal a w->ops.size- k<=fuel->wpAnyIn F n P .any ops Q fuel l a w:=by
  intro fuel lp l a w h1 h2 h3 h4 h5 h6 h7;have bX:=QP oV aj h5;refine afc hb ht (ops.size- k) k fuel l a w aj (ayL _) h7 h2 (λi hi=>⟨λh=>aAV λhc=>h4 i hc hi h,λh=>(h3 i h).2 (bX i aj)⟩) (hqn _ _ h6)
 intro fuel;induction fuel with
 |zero=>
  intro lp l a w h1 h2 h3 h4 h5 h;exact main _ lp l a w h1 h2 h3 h4 h.1 h.2 aj
 |succ fuel ih=>
  intro lp l a w h1 h2 h3 h4 h5 h;by_cases hr:azJ .any pre lp=[]
  .exact main _ lp l a w h1 h2 h3 h4 hr (h.1 hr) aj
  .rw[Nat.add_right_comm]
   have up:∀j,j∈azJ .any pre lp->j∈azJ .any ops l:=by
    intro j hj;have⟨g1,g2,o,g3,g4⟩:=rK hj;have cj:j<k:=aj;rw[Cp j cj]at g3;refine mem_ready aj (Lp aj λhc=>?_) λo' ho' e he Hg=>?_
    .have:=(h3 j cj).1 hc;rw[this]at g2;cases g2
    .rw[g3]at ho';cases ho';have:=hb j o g3 e he Hg;exact(h3 e.on aj).2 (g4 e he Hg)
   refine⟨λAY=>?_,λj hj=>?_⟩
   .cases hx:azJ .any pre lp with
    |nil=>exact absurd hx hr
    |cons x xs=>
     have:=up x (by rw[hx];simp);rw[AY]at this;cases this
   .have⟨g1,g2,o,g3,g4⟩:=rK hj
    have ays:∀x,x<j->ie l x->x<k/\ie lp x:=λx hx hl=>by
     have:=aAV λhc=>h4 x hc aj hl;exact⟨this,(h3 x this).1 hl⟩
    by_cases cj:j<k
    .have g3':pre[j]?=aa o:=by rw[Cp j cj];exact g3
     have hjp:j∈azJ .any pre lp:=by
      refine mem_ready aj (Lp aj λhc=>?_) λo' ho' e he Hg=>?_
      .have:=(h3 j cj).2 hc;unfold ie at this
       grind
      grind
     have hw:=h.2 j hjp
     have hK:∀a w,wpAnyIn F n P .any pre Q' fuel (lp.setIfInBounds j ab) a w->wpAnyIn F n P .any ops Q (fuel+(ops.size- k)) (l.setIfInBounds j ab) a w:=by
      intro a w hh;refine ih _ _ a w bc bc (λi hi=>?_) (λi hi ct=>?_) (λi hi hl i' lM=>?_) hh
      .rw[AI aj,AI aj]
       grind
      .rw[AI aj]
       grind
      .rw[AI aj]at hl⊢;rcases hl with hl|rfl
       .grind
       .have⟨e,he,Hg,hh⟩:=(haveI:=yP;EC g3 lM)
        grind
     unfold wpOpIn at hw⊢;rw[g3']at hw;rw[g3];simp only at hw⊢
     have hwt:aBH o (yielded pre a.tmps)=aBH o (yielded ops a.tmps):=by
      unfold aBH;cases hgd:o.guard with
      |none=>rfl
      |some p=>
       grind [yielded]
     rw[hwt]at hw;split
     .rename_i hc;rw[if_pos hc]at hw;exact Oper.Z7 hK hq hw
     grind
    .exfalso;apply hr
     have bX:∀i,i<k->ie lp i:=by
      intro i hi;have⟨e,he,Hg,hh⟩:=(haveI:=yP;EC g3 (ht j aj g1 i aj))
      grind
     cases hx:azJ .any pre lp with
     |nil=>rfl
     |cons x xs=>
      have⟨q1,q2,_⟩:=rK (show x∈azJ .any pre lp by grind);have:=bX x aj;unfold ie at this
      grind
def Sp(ops:Array Oper)(k:Nat):Bool:=
 azK k ops.size&&(ops.toList.zipIdx.all λp=>(p.1.after.toList.all λe=> !az7 .any e||azy e.on p.2)&&
  (if azy p.2 k then(match p.1.guard with|some (j,_)=>azy j k|none=>ab)else(azT p.2).all λi=>ay7 ((K6 ops).getD p.2 0) i))
def cY.T7{id k:Nat}{e':Env}(fR:P.follows .mixedOrders=ab)(ht:Sp ops k=ab)(oV:(bS (ops.extract 0 k)).ok=ab)(Li:∀df,Lo P 0 rd (ops.extract 0 k) e df σ e' au)(hn:au.n<=N)
 (h:dK P N rd ops (ops.toList.drop k) e' df au CW):cY P N rd (.region id ops ab) e df σ CW:=by
 simp only[Sp,ayI,Nat.ble_eq,ayY]at ht;have⟨hk,ht⟩:=ht
 have aT:∀(i:Nat) (o:Oper),ops[i]?=aa o->(o,i)∈ops.toList.zipIdx:=λi o ho=>by
  grind
 have Z4:Z6 ops:=λj o ho e he Hg=>by
  have:=(ht _ (aT j o ho)).1 e he
  simp_all
 have aqm:∀i,k<=i->i<ops.size->∀i',i'<i->Bf ops i i':=λi hi ct i' ak=>by
  have:=(ht _ (aT i _ (aza ct))).2;rw[if_neg yO]at this
  grind
 have hg:∀i o,i<k->ops[i]?=aa o->∀j want,o.guard=aa (j,want)->j<k:=λi o hi ho j want hgd=>by
  have:=(ht _ (aT i o ho)).2
  simp_all
 have ou:(ops.extract 0 k).size=k:=bc
 have Cp:∀i,i<k->(ops.extract 0 k)[i]?=ops[i]? :=λi hi=>by
  grind
 intro B F ι a w Q hF hi he hd hQ;have⟨hB,ids,h1,h2,jA⟩:=hd;refine wpIn_region_any fR ?_
 have hz:∀m i,¬ie (azF m af) i:=by
  simp_all[ie,Array.getElem?_replicate]
 have hp:=Li (ids.map .xu++df) N hn F ι a w (λex a w=>match ex with
  |.normal=>wpOpsIn F 0 P ops Q (aAx k (ops.size- k)) a w
  |ex=>Q ex a w) hF hi he h1 (by
   intro a' w' aM ch i1 l1 e1 d1 p1;show wpOpsIn F 0 P ops Q (aAx k (ops.size- k)) a' w';have:=h B F aM a' w' Q k rfl (hF.mono l1.ext) i1 e1 ⟨ay6 hB l1.size,ids,d1,λid hid=>(h2 id hid).step hi l1,jA⟩ (λex e' au hc=>(hQ ex e' au hc).from hi l1 hn)
   grind)
 rw[ou]at hp
 have:=ajB (Q:=Q) (n:=0) Z4 hk aqm ou Cp (haveI:=yP;ab8 oV) hg (λa w h=>h) (λex a w bA h=>by grind) k (azF k af) (azF ops.size af) a {w with drawn:=w.drawn+1} aw aw
  (λi _=>⟨λh=>absurd h (hz _ i),λh=>absurd h (hz _ i)⟩) (λi _ _=>hz _ i) (λi _ h=>absurd h (hz _ i)) hp
 grind
end
section
variable{P:Program}{N:Nat}{ι:Io}{w:World}{σ au:St}{e:Env}{rd:Option Nat}{fn:FuncId}{df:List Df}{CW:lz}{ops:Array Oper}{o:Oper}{l:List Oper}
def alN(t m:Nat)(h:m<1000000):((t+1)*1000000+m) % 1000000=m:=aj
def ahA(t m:Nat):1000000<=(t+1)*1000000+m:=aj
def aqn{kt:Nat}(h:1000000<=kt)(h0:kt=0):False:=aj
def H4{kt:Nat}(h:1000000<=kt):oX kt=ab:=by
 unfold oX;rw[azp];exact .inr (by simpa using h)
def Left.init(ds:List IV):Left ds [] ds:=by
 refine⟨ds.zipIdx,by simp,by simp[List.zipIdx_map_snd,List.nodup_range'],λp hp=>⟨?_,by simp⟩,λi hi _=>?_⟩
 .obtain⟨a,b⟩:=p;exact aAe.1 hp
 .exact⟨(ds[i],i),aAe.2 (ayG hi),rfl⟩
theorem zC{α β:Type}(f:α->β):∀(l:List α) (i:Nat),(l.map f).eraseIdx i=(l.eraseIdx i).map f
 |[],_=>rfl
 |_::_,0=>rfl
 |_::l,i+1=>by simp[zC f l i]
def Left.empty{ds:List IV}{seen:List Nat}{rem:List IV}(h:Left ds seen rem)(hs:∀i,i<ds.length->i∈seen):rem=[]:=by
 obtain⟨ps,rfl,_,h3,_⟩:=h;cases ps with
 |nil=>rfl
 |cons p ps=>
  obtain⟨h1,h2⟩:=h3 p aw;exact absurd (hs _ (ayH.1 h1).1) h2
theorem T8{p:Nat->Nat->Prop}:∀(n:Nat),(∀i,i<n->∃b,∀N,b<=N->p i N)->∃b,∀i,i<n->∀N,b<=N->p i N
 |0,_=>⟨0,λi hi=>absurd hi (Nat.not_lt_zero _)⟩
 |n+1,h=>by
  obtain⟨b,hb⟩:=T8 n λi hi=>h i aj;obtain⟨c,hc⟩:=h n aj;refine⟨max b c,λi hi N hN=>?_⟩;by_cases he:i=n
  .subst he;exact hc N aj
  .exact hb i aj N aj
def Left.has{ds:List IV}{seen:List Nat}{rem:List IV}(h:Left ds seen rem){i:Nat}(hi:i<ds.length)(hn:i∉seen):∃(j:Nat) (y:IV),rem[j]?=aa y/\ds[i]?=aa y/\Left ds (seen++[i]) (rem.eraseIdx j):=by
 obtain⟨ps,rfl,h2,h3,h4⟩:=h;obtain⟨p,hp,rfl⟩:=h4 i hi hn;obtain⟨j,hj⟩:=aCx.1 hp;refine⟨j,p.1,by simp[hj],(h3 p hp).1,ps.eraseIdx j,by rw[zC],?_,λq hq=>?_,λi hi hn=>?_⟩
 .rw[<-zC];exact h2.sublist (List.eraseIdx_sublist _ _)
 .obtain⟨k,hk,hkq⟩:=aB6.1 hq;have rS:=List.mem_of_getElem? hkq;refine⟨(h3 q rS).1,?_⟩;simp only[ayS,ayU,not_or];refine⟨(h3 q rS).2,λhe=>hk ?_⟩;have a1:(ps.map (·.2))[k]?=aa p.2:=by simp[hkq,he]
  have a2:(ps.map (·.2))[j]?=aa p.2:=by simp[hj]
  have lE:=(ayH.1 a1).1;exact(List.getElem?_inj lE h2).1 (a1.trans a2.symm)
 .simp only[ayS,ayU,not_or]at hn;obtain⟨q,hq,rfl⟩:=h4 i hi hn.1;obtain⟨k,hk⟩:=aCx.1 hq;refine⟨q,aB6.2 ⟨k,λhe=>?_,hk⟩,rfl⟩;subst he;rw[hj]at hk;cases hk;exact hn.2 rfl
def OM(n:Nat)(hn:0<n)(w:World):∃i w',i<n/\(choose (.mapNext n)).run P w=.ok i w'/\(w'=w\/w'={w with drawn:=w.drawn+1}):=by
 by_cases h:n<=1
 .exact⟨0,w,hn,by simp[choose,aAz,aAB,h],.inl rfl⟩
 .exact⟨w.tape w.drawn (.mapNext n) % n,_,Nat.mod_lt _ hn,by simp[choose,aAz,aAB,h,Question.cut],.inr rfl⟩
def W8{r m:Nat}{res:Array MapEntry}{seen:Array Nat}{n clock:Nat}{t:TypeId}(hh:w.heap[r]?=aa (.mapIter (aa m) n seen n))(Kp:w.heap[m]?=aa (.map res clock))(hn:clock=n)(hb:∀e∈res,e.born<n):
 ∃w0,(w0=w\/w0={w with drawn:=w.drawn+1})/\(((∀e∈res,e.born∈seen)/\(aAX (.pointer (aa ⟨r,0,ah⟩)) af t).run P w=.ok (.tuple #[.bool af]) w0)\/
  ∃e∈res,e.born∉seen/\(aAX (.pointer (aa ⟨r,0,ah⟩)) af t).run P w=.ok (.tuple #[.bool ab,e.key,e.val]) {w0 with heap:=w0.heap.setIfInBounds r (.mapIter (aa m) n (seen.push e.born) n)}):=by
 subst hn
 have cH:¬((!seen.isEmpty&& !res.isEmpty&&res.all (λe=>decide (e.born≥clock)))=ab):=by
  intro hc;simp only[ayI,Array.all_eq_true_iff_forall_mem,decide_eq_true_eq]at hc;have bA:res.size≠0:=by have:=hc.1.2;simpa using this
  have:=hc.2 (res[0]'aj) aw
  have:=hb (res[0]'aj) aw
  omega
 have hold:∀left:Array MapEntry,(∀e∈left,e∈res)->left.filter (λe=>decide (e.born<clock))=left:=λleft hl=>by
  rw[Array.filter_eq_self];intro a ha;simp[hb a (hl a ha)]
 have gp:∀left:Array MapEntry,(∀e∈left,e∈res)->left.filter (λe=>decide (e.born≥clock))= #[]:=λleft hl=>by
  rw[Array.filter_eq_empty_iff];intro a ha;have:=hb a (hl a ha);simp;omega
 have ic:∀e∈res.filter (λe=> !seen.contains e.born),e∈res:=λe he=>(aB0.1 he).1;generalize Sq:res.filter (λe=> !seen.contains e.born)=left at ic;by_cases hl:left= #[]
 .subst hl;refine⟨w,.inl rfl,.inl ⟨λe he=>?_,?_⟩⟩
  .have h1:e∉res.filter (λe=> !seen.contains e.born):=by rw[Sq];simp
   refine azs λhn=>h1 (aB0.2 ⟨he,?_⟩);simpa using hn
  .simp only[aAX,ayT,c7 (P:=P) hh aw,ayM,c7 (P:=P) Kp aw];rw[if_neg cH];simp only[ayT,Sq,hold #[] ic,gp #[] ic];simp[choose,aAz,aAB]
 .have bo:0<(left.map aa).size:=by
   have:left.size≠0:=by simpa using hl
   simp;omega
  obtain⟨c,w0,hc,ia,XW⟩:=OM (P:=P) (left.map aa).size bo w;have qd:c<left.size:=by simpa using hc
  have oq:left[c]∈left:=aw;refine⟨w0,XW,.inr ⟨left[c],ic _ oq,?_,?_⟩⟩
  .have:left[c]∈res.filter (λe=> !seen.contains e.born):=by rw[Sq];exact oq
   have:=(aB0.1 this).2;simpa using this
  .have QA:w0.heap[r]?=aa (.mapIter (aa m) clock seen clock):=by
    rcases XW with rfl|rfl<;>exact hh
   have XX:left.isEmpty=af:=by simpa using hl
   simp only[aAX,ayT,c7 (P:=P) hh aw,ayM,c7 (P:=P) Kp aw];rw[if_neg cH];simp only[ayT,Sq,hold left ic,gp left ic,XX,Bool.false_eq_true,if_false,Array.empty_append,Array.append_empty,ia,ayM];have:(left.map aa)[c]?=aa (aa left[c]):=by simp[qd]
   rw[this];simp only[ayT,gC (P:=P) QA aw,ayM,ay9]
def dK.aqo{it:Operand}{id m:Nat}{es:List (Value×IV×Nat)}{seen:List Nat}{clock:Nat}(hw:aY o ops e=ab)(ho:o.op=.next it af)(hit:aD e it=.ptr id 0 0 1)
 (aT:σ.at id=aa (.kV (aa m) es.length seen es.length))(Tn:σ.at m=aa (.map es clock))(hc:Canon es clock)(hN:σ.n<=N)
 (h0:(∀i,i<es.length->i∈seen)->dK P N rd ops l (e.put o.dst (.aF [.bool af])) df σ CW)
 (h1:∀i en,es[i]?=aa en->i∉seen->dK P N rd ops l (e.put o.dst (.aF [.bool ab,lift en.1,en.2.1])) df (σ.put id (.kV (aa m) es.length (seen++[i]) es.length)) CW):dK P N rd ops (o::l) e df σ CW:=by
 refine .cons hw λB F ι a w Q k hl hF hi he hd hQ=>?_;refine⟨λf _=>hF.fn f,?_⟩;rw[aAo _ _ _ (λc hc=>by rw[ho]at hc;cases hc)];have hr:=he.eval it;rw[hit]at hr;generalize hq:a.eval it=q at hr;cases hr with
 |ptr _ _ _ _ lo yW hle=>
  have ak:lo.b<w.heap.size:=hi.gU id _ ⟨_,_,yW,rfl⟩;obtain⟨l',mr,cJ,hh,lm,s6,rfl⟩:=hi.obj id _ aT;rw[yW]at cJ;cases cJ;obtain⟨lm',res,HK,Kp,tP⟩:=hi.obj m _ Tn;rw[s6]at HK;cases HK;have jy:=hc.1
  have Z8:∀(i:Nat) (r:MapEntry),res[i]?=aa r->i<es.length/\r.born=i:=by
   intro i r hr;have ct:i<es.length:=by have:=(azx.1 hr).1;rw[tP.1];exact this
   exact⟨ct,((tP.2 i es[i] r (ayG ct) hr).2.2).trans (hc.2 i _ (ayG ct))⟩
  have A4:∀r∈res,∃i,res[i]?=aa r:=λr hr=>by
   obtain⟨i,hi,rfl⟩:=Array.mem_iff_getElem.1 hr;exact⟨i,aza hi⟩
  obtain⟨w0,XW,j8⟩:=W8 (P:=P) (t:=o.type) hh Kp jy (λr hr=>by
   obtain⟨i,hi⟩:=A4 r hr;have:=Z8 i r hi;omega)
  have HS:Inv N ι σ w0:=by rcases XW with rfl|rfl;exact hi;exact hi.same rfl
  have afd:Le 0 ι w σ ι w0 σ:=by rcases XW with rfl|rfl;exact Le.refl _ _ _ _;exact Le.same rfl rfl rfl rfl
  rcases j8 with⟨bX,ia⟩|⟨r,Bj,hrs,ia⟩
  .have hx:(execOp a.eval o).run P w=.ok (.value (.tuple #[.bool af])) w0:=by
    simp only[execOp,ho,hq];simp only[ayT,aEa,ia];rfl
   rw[hx,aBt];refine h0 (λi hi=>?_) B F ι _ w0 Q (k+1) hl hF HS (he.put (sD (aN.cons (.raw _) aN.nil)) _) (by have:=hd.step hi afd;cases o.dst<;>exact this) (λex e' au hc=>(hQ ex e' au hc).from hi afd hN);have ct:i<res.size:=by rw[<-tP.1];exact hi
   have:=bX res[i] aw;rw[(Z8 i res[i] (aza ct)).2]at this;simpa using this
  .obtain⟨i,s8⟩:=A4 r Bj;obtain⟨zb,Xx⟩:=Z8 i r s8
   have hx:(execOp a.eval o).run P w=.ok (.value (.tuple #[.bool ab,r.key,r.val])) {w0 with heap:=w0.heap.setIfInBounds lo.b (.mapIter (aa lm.b) es.length (seen.toArray.push r.born) es.length)}:=by
    simp only[execOp,ho,hq];simp only[ayT,aEa,ia];rfl
   rw[hx,aBt];obtain⟨hk,hv,hb⟩:=tP.2 i es[i] r (ayG zb) s8;have xB:lo.b<w0.heap.size:=by rcases XW with rfl|rfl<;>exact ak
   obtain⟨r1,r2⟩:=HS.xz (ro:=0) (fB:=.kV (aa m) es.length (seen++[i]) es.length) (go:=.mapIter (aa lm.b) es.length (seen.toArray.push r.born) es.length) aT (Nat.zero_le _) yW ⟨lo,aa lm.b,yW,by simp[xB,Xx],lm,s6,rfl⟩;have ON:=Le.then hi hN afd r2;refine h1 i es[i] (ayG zb) (by rw[Xx]at hrs;simpa using hrs) B F ι _ _ Q (k+1) hl hF r1 (he.put ?_ _) (by have:=hd.step hi ON;cases o.dst<;>exact this) (λex e' au hc=>(hQ ex e' au hc).from hi ON hN);rw[<-hk];exact sD (aN.cons (.raw _) (aN.cons (Rv.lift _) (aN.cons hv aN.nil)))
end
section
inductive SE where
 |var (i:Nat)
 |i (n:Int)
 |k (k:IntKind) (n:Int)
 |b (t:Bool)
 |s (l:List UInt8)
 |raw (v:Value)
 |ok (e:SE)
 |mq (n:Nat) (e:SE)
 |aP (e:SE) (j:Nat)
 |idx (s:Nat) (e i:SE)
 |lk (s:Nat) (e i:SE) (j:Nat)
 |len (e:SE)
 |uL (e:SE)
 |an
 |ac (a r:SE)
 |tr (s:Nat) (r:SE)
 |tp (r:SE)
 |cat (s bytes:Nat) (e f:SE)
 |zD (s:Nat) (e i x:SE)
 |sub (s:Nat) (e lo hi:SE)
 |proj (e:SE) (j:Nat)
 |bin (op:BinOp) (t:TypeId) (a b:SE)
 |un (op:UnOp) (a:SE)
 |cv (src dst:TypeId) (a:SE)
 |mx (big:Bool) (a b:SE)
 |MQ (e i:SE)
 |Lq (e lo hi:SE)
 |rw(e:SE)
 |rws (e:SE)
 |has (kt:TypeId) (m key:SE)
 |get (kt:TypeId) (m key z:SE)
 |ins (kt:TypeId) (m key x:SE)
 |dec (w:Nat) (a p:SE)
 deriving Inhabited
inductive aq where
 |fail (why:Nat)
 |ret (e:SE)
 |test (e:SE) (a b:aq)
 |bind (e:SE) (k:aq)
 |aC (e:SE) (k:aq)
 |call (f:FuncId) (new:Bool) (args:SE) (k:aq)
 |loop (init:SE) (body:aq)
 |pick (es x:SE) (a b:aq)
 |same (es x:SE) (k:aq)
 |uniq (k:aq)
 |tV (body:aq) (m:Nat) (cont:aq)
 |next (lv:Nat) (args:SE)
 |bad (d f id n0 nm:Nat) (hd:List (Nat×Nat×PV SE)) (hl:List (LO SE)) (g:List (Nat×Nat×PV SE)) (l:List (LO SE))
 deriving Inhabited
section eqs
def alO(a b:IntKind):Bool:=a==b
def kN{α:Type}(f:α->α->Bool):List α->List α->Bool
 |[],[]=>ab
 |a::as,b::bs=>f a b&&kN f as bs
 |_,_=>af
def SE.eq:SE->SE->Bool
 |.var x,.var y=>ayQ x y
 |.i x,.i y=>x==y
 |.k j x,.k j' y=>alO j j'&&x==y
 |.b x,.b y=>x==y
 |.s x,.s y=>kN (·==·) x y
 |.ok x,.ok y=>x.eq y
 |.aP e j,.aP f j'=>ayQ j j'&&e.eq f
 |.idx q e x,.idx q' e' x'=>ayQ q q'&&e.eq e'&&x.eq x'
 |.lk q e x j,.lk q' e' x' j'=>ayQ q q'&&ayQ j j'&&e.eq e'&&x.eq x'
 |.len e,.len f=>e.eq f
 |.uL e,.uL f=>e.eq f
 |.an,.an=>ab
 |.ac a r,.ac a' r'=>a.eq a'&&r.eq r'
 |.tr q r,.tr q' r'=>ayQ q q'&&r.eq r'
 |.tp r,.tp r'=>r.eq r'
 |.proj e j,.proj f j'=>ayQ j j'&&e.eq f
 |.bin op t x y,.bin op' t' x' y'=>op==op'&&ayQ t t'&&x.eq x'&&y.eq y'
 |.un op x,.un op' x'=>op==op'&&x.eq x'
 |.cv q d x,.cv q' d' x'=>ayQ q q'&&ayQ d d'&&x.eq x'
 |.mx t x y,.mx t' x' y'=>t==t'&&x.eq x'&&y.eq y'
 |.rw x,.rw y=>x.eq y
 |.MQ e x,.MQ e' x'=>e.eq e'&&x.eq x'
 |.dec w e x,.dec w' e' x'=>ayQ w w'&&e.eq e'&&x.eq x'
 |_,_=>af
end eqs
structure SS where
 g:List (Nat×Nat×PV SE)
 l:List (LO SE)
 n:Nat
 lv:Nat
 nt:Nat
 deriving Inhabited
def SS.ln(V:SS):Nat×Nat:=(V.lv,V.nt)
structure Hint where
 d:Nat
 f:Nat
 id:Nat
 MR:List (Nat×Nat×Nat)
 Bl:List (Nat×Nat)
 drop:List (Nat×Nat)
 Bm:List (Nat×Nat×Nat)
 deriving Inhabited
structure fe where
 pure:List Nat
 Z9:List Nat
 stop:List Nat
 hints:List Hint
 rows:List Nat
section run
variable(P:Program)(cfg:fe)
def fieldAt(s:TypeId)(f:Nat):Option (Nat×Nat):=
 match P.underlying s with
 |some (.struct fields)=>match fields[f]? with
  |some fd=>match aX P fd.type with
   |some sz=>aa (fd.offset,sz)
   |none=>ah
  |none=>ah
 |_=>ah
def elemOf(t:TypeId):Option TypeId:=
 match P.underlying t with
 |some (.slice e)=>aa e
 |_=>ah
def ve:Nat->TypeId->List TypeId
 |0,_=>[]
 |n+1,t=>match P.underlying t with
  |some (.struct fields)=>fields.toList.flatMap λf=>ve n f.type
  |some (.array m e)=>(List.replicate m (ve n e)).flatten
  |_=>[t]
def Ju(t:TypeId):Bool:=
 match P.underlying t with
 |some .bool|some (.int _)|some .string=>ab
 |_=>af
def Bo(t:TypeId):Value->Cl SE
 |.bool b=>.v (.b b)
 |.int .i64 n=>.v (.i n)
 |.int k n=>.v (.k k n)
 |.string b=>.v (.s b.data.toList)
 |.slice ah 0 0=>match(elemOf P t).bind (aX P)with
  |some s=>if ayQ s 0 then .v (.raw (.slice ah 0 0))else .nl ab s
  |none=>.v (.raw (.slice ah 0 0))
 |.agg _|.tuple _=>.un
 |v=>.v (.raw v)
def Z_{α β γ:Type}(f:α->β->γ):List α->List β->List γ
 |a::as,b::bs=>f a b::Z_ f as bs
 |_,_=>[]
def OO(t:TypeId):Value->PV SE
 |.agg cs=>if ayQ (ve P 9 t).length cs.toList.length then .ag (Z_ (Bo P) (ve P 9 t) cs.toList)else .one .un
 |v=>.one (Bo P t v)
def zeroCells(t:TypeId):List (Cl SE):=
 match db P t with
 |some z=>if ayQ (ve P 9 t).length z.cells.toList.length then Z_ (Bo P) (ve P 9 t) z.cells.toList else z.cells.toList.map λ_=>.un
 |none=>[]
def isAgg(t:TypeId):Bool:=(tx P t)==aa ab
def bP(d:Nat)(V:SS)(t:TypeId):Operand->PV SE
 |.tmp x=>(cz d x V.g).getD (.one .un)
 |.const v=>OO P t v
 |.func f=>.one (.fn f [])
 |.global _=>.one .un
def fE{α:Type}:PV α->List (Cl α)
 |.one c=>[c]
 |.ag cs=>cs
 |.tu _=>[.un]
def xC:List (Cl SE)->Bool
 |[]=>ab
 |.un::_=>af
 |_::cs=>xC cs
def SS.b_(V:SS)(d:Nat)(dst:Option Nat)(pv:PV SE):SS:=
 match dst with
 |none=>V
 |some t=>{V with g:=OG d t pv V.g}
def SS.ll(V:SS)(d:Nat)(dst:Option Nat):SS:=
 match dst with
 |none=>V
 |some t=>{V with g:=FH d t V.g}
def SS.vg(V:SS)(k:Nat):SS:={V with g:=MN k V.g,l:=V.l.map (LO.drop k)}
def SS.setObj(V:SS)(k:Nat)(o:LO SE):SS:={V with l:=V.l.set k o}
def ff:List SE->SE
 |[]=>.an
 |a::as=>.ac a (ff as)
def nV(k:Nat)(V:SS):SS:=
 match V.l[k]? with
 |some (.row s af cut fr es)=>V.setObj k (.row s ab cut fr es)
 |_=>V
def KD(V:SS):Cl SE->Option (Bool×SE×SS)
 |.v z=>aa (ab,z,V)
 |.w fr z=>aa (fr,z,V)
 |.nl _ s=>aa (af,.tr s .an,V)
 |.sr k=>match V.l[k]? with
  |some (.row _ _ _ fr es)=>aa (fr,es,nV k V)
  |_=>ah
 |_=>ah
def Bp(V:SS):List (Cl SE)->Option (Bool×List SE×SS)
 |[]=>aa (af,[],V)
 |c::cs=>match KD V c with
  |some (f1,z,V)=>match Bp V cs with
   |some (f2,zs,V)=>aa (f1||f2,z::zs,V)
   |none=>ah
  |none=>ah
def vV(V:SS):PV SE->Option (Bool×SE×SS)
 |.one c=>KD V c
 |.ag cs=>match Bp V cs with
  |some (f,zs,V)=>aa (f,ff zs,V)
  |none=>ah
 |.tu vs=>match T9 V vs with
  |some (f,zs,V)=>aa (f,.tp (ff zs),V)
  |none=>ah
where T9 (V:SS):List (Bool×List (Cl SE))->Option (Bool×List SE×SS)
 |[]=>aa (af,[],V)
 |(a,cs)::vs=>match Bp V cs with
  |some (f1,zs,V)=>match T9 V vs with
   |some (f2,ys,V)=>match a,zs with
    |true,zs=>aa (f1||f2,ff zs::ys,V)
    |false,[z]=>aa (f1||f2,z::ys,V)
    |_,_=>ah
   |none=>ah
  |none=>ah
def xD:List (Cl SE)->Bool
 |[]=>ab
 |.v _::cs=>xD cs
 |.nl _ _::cs=>xD cs
 |_::_=>af
def qz:PV SE->Bool
 |.one c=>xD [c]
 |.ag cs=>xD cs
 |.tu _=>af
def ofType(t:TypeId)(e:SE):PV SE:=
 if isAgg P t then .ag ((azT ((aX P t).getD 0)).map λj=>.v (.aP e j))else .one (.v (.ok e))
def uc(t:TypeId)(e:SE)(k:aq):aq:=if isAgg P t then .aC (.mq ((aX P t).getD 0) e) k else .aC (.ok e) k
def T_(e:SE):Nat->List TypeId->aq->aq
 |_,[],k=>k
 |j,t::ts,k=>uc P t (.proj e j) (T_ e (j+1) ts k)
def vk(e:SE)(V:SS)(k:PV SE->SS->aq):aq:=.aC e (k (.one (.v e)) V)
def OP(e:SE):Nat->List TypeId->List (Bool×List (Cl SE))
 |_,[]=>[]
 |j,t::ts=>(isAgg P t,fE (ofType P t (.proj e j)))::OP e (j+1) ts
def kz(d:Nat)(V:SS):List Operand->List TypeId->List (PV SE)
 |x::xs,t::ts=>bP P d V t x::kz d V xs ts
 |x::xs,[]=>bP P d V 0 x::kz d V xs []
 |[],_=>[]
def Ua(d:Nat)(V:SS):List Operand->Option (List (Nat×Nat))
 |[]=>aa []
 |x::xs=>match bP P d V 0 x with
  |.one (.pt k 0 ext)=>match Ua d V xs with
   |some l=>aa ((k,ext)::l)
   |none=>ah
  |_=>ah
def EK(cells:List (Cl SE))(off:Nat)(new:List (Cl SE)):List (Cl SE):=cells.take off++new++cells.drop (off+new.length)
def pK(get:Nat->Operand->List (Cl SE))(place:Nat->Option (Nat×Nat)):List (Nat×Operand)->List (Cl SE)->Option (List (Cl SE))
 |[],cs=>aa cs
 |(j,x)::ps,cs=>match place j with
  |some (off,sz)=>
   let new:=get j x
   if xC new&&ayQ new.length sz&&azK (off+sz) cs.length then pK get place ps (EK cs off new)else ah
  |none=>ah
def alP(fields:Array Field)(j:Nat):TypeId:=((fields[j]?).map (·.type)).getD 0
def ajC(fields:Array Field)(j:Nat):Option (Nat×Nat):=(fields[j]?).bind λf=>(aX P f.type).map λs=>(f.offset,s)
def XZ(s j:Nat):Option (Nat×Nat):=aa (j*s,s)
def MS:SE->Bool
 |.i _|.k _ _|.b _|.s _=>ab
 |_=>af
def rdT(V:SS)(c:Cl SE)(t:TypeId):Option (Bool×SE×SS×List SE):=
 match c with
 |.v z=>if Ju P t then aa (af,z,V,if MS z then[]else[z])else aa (ab,z,V,[])
 |c=>match KD V c with
  |some (fr,z,V)=>aa (fr,z,V,[])
  |none=>ah
def aaa(V:SS):List (Cl SE)->List TypeId->Option (Bool×List SE×SS×List SE)
 |[],_=>aa (af,[],V,[])
 |c::cs,t::ts=>match rdT P V c t with
  |some (f1,z,V,r1)=>match aaa V cs ts with
   |some (f2,zs,V,r2)=>aa (f1||f2,z::zs,V,r1++r2)
   |none=>ah
  |none=>ah
 |_::_,[]=>ah
def Bq(s:Nat):Nat->List SE->List SE
 |0,_=>[]
 |n+1,zs=>ff (zs.take s)::Bq s n (zs.drop s)
def Ub(zero:List (Cl SE)):Nat->List (Cl SE)
 |0=>[]
 |n+1=>zero++Ub zero n
def acm(ts:List TypeId):Nat->List TypeId
 |0=>[]
 |n+1=>ts++acm ts n
def aab:List SE->aq->aq
 |[],k=>k
 |e::es,k=>.aC (.rw e) (aab es k)
def newVar(V:SS)(e:SE)(k:SE->SS->aq):aq:=.bind e (k (.var V.n) {V with n:=V.n+1})
def newObj(V:SS)(o:LO SE)(k:Nat->SS->aq):aq:=k V.l.length {V with l:=V.l++[o]}
def aac(t:TypeId)(a:PV SE)(V:SS)(k:PV SE->SS->aq):aq:=
 let ag:=isAgg P t
 match aX P t,tx P t with
 |none,_=>.fail 1
 |_,ah=>.fail 1
 |some s,aa _=>
  let out (cs:List (Cl SE)):aq:=if ag then(if ayQ cs.length s then k (.ag cs) V else .fail 2)else match cs with
   |[c]=>k (.one c) V
   |_=>.fail 3
  match a with
  |.one (.pt j off ext)=>match V.l[j]? with
   |some (.var cs)=>if azK s ext&&azK (off+s) cs.length then out ((cs.drop off).take s)else .fail 4
   |_=>.fail 5
  |.one (.tp cs)=>if azK s cs.length then out (((cs.map .v).drop 0).take s)else .fail 4
  |.one (.tw fr cs)=>if azK s cs.length then out (((cs.map (.w fr)).drop 0).take s)else .fail 4
  |.one (.pr j i off ext)=>match V.l[j]? with
   |some (.row sz _ _ fr es)=>if azK s ext then out ((((azT sz).map λq=>.w fr (.lk sz es i q)).drop off).take s)else .fail 4
   |_=>.fail 6
  |_=>.fail 7
def EL(bytes:Nat)(s:Nat)(base:Cl SE)(fr:Bool)(es:SE)(V:SS)(k:PV SE->SS->aq):aq:=
 match base with
 |.nl _ s'=>if ayQ s s' then newVar V (.cat s bytes (.tr s .an) es) λz V=>newObj V (.row s af af fr z) λj V=>k (.one (.sr j)) V else .fail 10
 |.sr j=>match V.l[j]? with
  |some (.row s' st cut dG aW)=>
   if ayQ s s'&& !(st&&cut)then newVar V (.cat s bytes aW es) λz V=>k (.one (.sr j)) (((V.vg j)).setObj j (.row s st cut (fr||dG) z))else .fail 11
  |_=>.fail 12
 |_=>.fail 13
def aqp(j:Nat):Cl SE->Bool
 |.sr j'=> !ayQ j j'
 |_=>ab
def xE(V:SS)(et:TypeId)(s:Nat)(base:Cl SE):Cl SE->Option (Bool×SE×Bool)
 |.sr j=>match V.l[j]? with
  |some (.row s' _ _ fr es)=>if ayQ s s'&&aqp j base then aa (fr,es,af)else ah
  |_=>ah
 |.nl _ _=>aa (af,.tr s .an,af)
 |.w fr z=>aa (fr,z,af)
 |.v z=>if(ve P 9 et).all (Ju P)then aa (af,z,ab)else aa (ab,z,af)
 |_=>ah
def aad(o:Option (LO SE))(s:Nat)(cut fr:Bool)(es:SE):Bool:=
 match o with
 |some (.row s' af zE dG aW)=>ayQ s s'&&cut==zE&&fr==dG&&es.eq aW
 |_=>af
def FN(t:TypeId):Option SE:=
 match db P t with
 |some (.bool b)=>aa (.b b)
 |some (.int q n)=>aa (.k q n)
 |some (.string b)=>aa (.s b.data.toList)
 |_=>ah
def Jv:List (Cl SE)->Option (List SE)
 |[]=>aa []
 |.v e::ds=>match Jv ds with
  |some es=>aa (e::es)
  |none=>ah
 |_::_=>ah
def zd:List (Cl SE)->Option (List SE)
 |[]=>aa []
 |c::ds=>match c with
  |.v e|.w _ e=>(zd ds).map (e::·)
  |.nl _ s=>(zd ds).map (.tr s .an::·)
  |_=>ah
def Lr:PV SE->Option SE
 |.one (.v e)=>aa e
 |.one (.w _ e)=>aa e
 |.ag cs=>(zd cs).map ff
 |_=>ah
def OQ(kt:TypeId)(m key x:PV SE)(V:SS)(k:PV SE->SS->aq):aq:=
 match m,Lr key,Lr x with
 |.one (.mp j),aa ke,aa xe=>match V.l[j]? with
  |some (.mp rO es)=>if ayQ kt rO&& !oX kt then newVar V (.ins kt es ke xe) λz V=>k (.one .un) (V.setObj j (.mp kt z))else .fail 63
  |_=>.fail 64
 |_,_,_=>.fail 65
def X0(kt et:TypeId)(m key:PV SE)(ok:Bool)(V:SS)(k:PV SE->SS->aq):aq:=
 match m,Lr key,FN P et with
 |.one (.mp j),aa ke,aa z0=>match V.l[j]? with
  |some (.mp rO es)=>if ayQ kt rO&& !oX kt then newVar V (.ok (.rw (.get kt es ke z0))) λr V=>
    if ok then newVar V (.has kt es ke) λh V=>k (.tu [(af,[.v r]),(af,[.v h])]) V else k (.one (.v r)) V
   else .fail 67
  |_=>.fail 68
 |_,_,_=>.fail 69
def Sr(t:TypeId):Bool:=
 match db P t with
 |some (.agg cs)=>cs.toList.isEmpty
 |_=>af
def OS(kt et:TypeId)(m key:PV SE)(ok:Bool)(V:SS)(k:PV SE->SS->aq):aq:=
 match m,Lr key,(match db P et with|some (.agg _)=>zd (zeroCells P et)|_=>ah),aX P et with
 |.one (.mp j),aa ke,aa zs,aa n=>match V.l[j]? with
  |some (.mp rO es)=>if ayQ kt rO&& !oX kt then newVar V (.mq n (.get kt es ke (ff zs))) λr V=>
    let cs:List (Cl SE):=(azT n).map λj=>.w ab (.aP r j)
    if ok then newVar V (.has kt es ke) λh V=>k (.tu [(ab,cs),(af,[.v h])]) V else k (.ag cs) V
   else .fail 67
  |_=>.fail 68
 |_,_,_,_=>.fail 70
def OT(kt:TypeId)(m key:PV SE)(V:SS)(k:PV SE->SS->aq):aq:=
 match m,Lr key with
 |.one (.mp j),aa ke=>match V.l[j]? with
  |some (.mp rO es)=>if ayQ kt rO&& !oX kt then .aC (.mq 0 (.get kt es ke .an)) (newVar V (.has kt es ke) λh V=>k (.tu [(ab,[]),(af,[.v h])]) V)else .fail 67
  |_=>.fail 68
 |_,_=>.fail 69
def Ls(d:Nat)(V:SS)(aae:SE):Option Operand->Option SE
 |none=>aa aae
 |some o=>match bP P d V 3 o with
  |.one (.v e)=>aa e
  |_=>ah
def stood(V:SS):Cl SE->Bool
 |.sr j=>match V.l[j]? with
  |some (.row _ st _ _ _)=>st
  |_=>af
 |_=>af
def OU(d:Nat)(t:TypeId)(x:PV SE)(lo hi mx:Option Operand)(V:SS)(k:PV SE->SS->aq):aq:=
 match P.underlying t,x,mx with
 |some (.slice el),.one c,ah=>match aX P el with
  |some s=>match c,lo,hi,stood V c with
   |.sr j,aa l,ah,af=>match V.l[j]?,bP P d V 3 l with
    |some (.row s' af cut fr es),.one (.v e)=>if ayQ s s' then .aC (.sub s es e (.len es)) (k (.one (.sv j e)) V)else .fail 24
    |_,_=>.fail 25
   |c,lo,hi,_=>match(match c with|.v _|.nl _ _|.sr _=>KD V c|_=>ah)with
    |some (fr,z,V2)=>match Ls P d V (.i 0) lo,Ls P d V (.len z) hi with
     |some l,aa h=>newVar V2 (.sub s z l h) λy V=>k (.one (.w fr y)) V
     |_,_=>.fail 26
    |none=>.fail 27
  |none=>.fail 28
 |_,_,_=>.fail 29
def uM:PV SE->Option SE
 |.one (.v e)=>aa e
 |.one (.w _ e)=>aa e
 |_=>ah
def mxS(big:Bool)(dq:List (PV SE))(V:SS)(k:PV SE->SS->aq):aq:=
 match dq with
 |[a,b]=>match uM a,uM b with
  |some a,aa b=>vk (.ok (.rw (.mx big a b))) V k
  |_,_=>.fail 75
 |_=>.fail 76
def isStr(t:TypeId):Bool:=match P.underlying t with
 |some .string=>ab
 |_=>af
def Lt(d:Nat)(x:PV SE)(lo hi mx:Option Operand)(V:SS)(k:PV SE->SS->aq):aq:=
 match uM x,mx with
 |some a,ah=>match Ls P d V (.i 0) lo,Ls P d V (.uL a) hi with
  |some l,aa h=>newVar V (.Lq a l h) λz V=>k (.one (.v z)) V
  |_,_=>.fail 20
 |_,_=>.fail 21
def aaf(d:Nat)(t:TypeId)(l c:Operand)(V:SS)(k:PV SE->SS->aq):aq:=
 match P.underlying t,bP P d V 0 l,uM (bP P d V 0 c)with
 |some (.slice el),.one (.v (.i 0)),aa ce=>match aX P el,db P el,(P.info? el).map (·.bytes)with
  |some s,aa z,aa bytes=>if !ayQ s 0&&ayQ z.cells.size s&&azK bytes 1000000&&(z.cells.toList.map IV.raw).all Ev.ao then
    .aC (.dec 7 ce (.b ab)) (newObj V (.row s af af af (.tr s .an)) λj V=>k (.one (.sr j)) V)else .fail 202
  |_,_,_=>.fail 202
 |some (.slice el),pl,aa ce=>match uM pl,aX P el,db P el,FN P el,(P.info? el).map (·.bytes)with
  |some le,aa s,aa z,aa ze,aa bytes=>if le.eq ce&&ayQ s 1&&azK bytes 1000000&&ayQ z.cells.size 1&&(z.cells.toList.map IV.raw).all Ev.ao then
    newVar V (.dec 10 ce ze) λe V=>newObj V (.row 1 af af af e) λj V=>k (.one (.sr j)) V else .fail 202
  |_,_,_,_,_=>.fail 202
 |_,_,_=>.fail 202
def aag(t:TypeId)(e:SE):Bool×List (Cl SE):=
 if isAgg P t then(ab,(azT ((aX P t).getD 0)).map λj=>.w ab (.aP e j))else if Ju P t then(af,[.v (.ok (.rw e))])else(af,[.w ab (.ok e)])
def MT(t:TypeId)(e:SE)(k:aq):aq:=
 if isAgg P t then .aC (.mq ((aX P t).getD 0) e) k else if Ju P t then .aC (.ok (.rw e)) k else .aC (.ok e) k
def acn(d:Nat)(it:Operand)(V:SS)(k:PV SE->SS->aq):aq:=
 match bP P d V 0 it with
 |.one (.mp j)=>match V.l[j]? with
  |some (.mp kt x)=>if azK 1000000 kt then(match V.l[kt % 1000000]?,P.underlying (kt/1000000- 1)with
   |some (.mp pz es),aa (.map _ et)=>if oX pz then .fail 191 else .same es x (MT P pz (.proj (.proj x 2) 0) (MT P et (.proj (.proj x 2) 1) (k (.tu [aag P pz (.proj (.proj x 2) 0),aag P et (.proj (.proj x 2) 1)]) V)))
   |_,_=>.fail 191)else .fail 191
  |_=>.fail 191
 |_=>.fail 191
def Uc(d:Nat)(t:TypeId)(x:PV SE)(lo hi mx:Option Operand)(V:SS)(k:PV SE->SS->aq):Option aq:=
 match P.underlying t,x,lo,hi,mx with
 |some (.slice el),.one c,ah,aa h,ah=>match bP P d V 3 h,aX P el,c with
  |.one (.v (.i 0)),aa s,.nl ab s'=>if ayQ s s' then aa (k (.one (.nl ab s)) V)else ah
  |.one (.v (.i 0)),aa s,.sr j=>match V.l[j]? with
   |some (.row s' af _ fr es)=>if ayQ s s' then aa (.aC (.idx s es (.i 0)) (k (.one (.sr j)) ((V.vg j).setObj j (.row s af ab fr (.tr s .an)))))else ah
   |_=>ah
  |_,_,_=>ah
 |_,_,_,_,_=>ah
def jj(d:Nat)(o:Oper)(V:SS)(k:PV SE->SS->aq):aq:=
 match o.op with
 |.makeFunc (.func f) first cap=>if first.toList.isEmpty then match Ua P d V cap.toList with
   |some bs=>k (.one (.fn f bs)) V
   |none=>.fail 60
  else .fail 61
 |.makeMap t r=>match r,P.underlying t with
  |none,aa (.map kt _)=>if oX kt then .fail 76 else newObj V (.mp kt (.tp .an)) λj V=>k (.one (.mp j)) V
  |_,_=>.fail 62
 |.makeSlice t l c=>aaf P d t l c V k
 |.mapUpdate t m key x|.insert t m key x=>match P.underlying t with
  |some (.map kt et)=>OQ kt (bP P d V t m) (bP P d V kt key) (bP P d V et x) V k
  |_=>.fail 66
 |.lookup t m key ok=>match P.underlying t with
  |some (.map kt et)=>if ok&&Sr P et then OT kt (bP P d V t m) (bP P d V kt key) V k else if isAgg P et then OS P kt et (bP P d V t m) (bP P d V kt key) ok V k else X0 P kt et (bP P d V t m) (bP P d V kt key) ok V k
  |_=>.fail 70
 |.range t x=>match P.underlying t,uM (bP P d V t x)with
  |some .string,aa a=>.aC (.uL a) (newObj V (.mp 0 (.tp (.ac a (.ac (.i 0) .an)))) λj V=>k (.one (.mp j)) V)
  |some (.map _ _),_=>match bP P d V t x with
   |.one (.mp m)=>match V.l[m]? with
    |some (.mp kt es)=>if oX kt|| !azy m 1000000 then .fail 77 else .aC (.dec 9 es (.b ab)) (newObj V (.mp ((t+1)*1000000+m) (.tp (.ac es (.ac es .an)))) λj V=>k (.one (.mp j)) V)
    |_=>.fail 77
   |_=>.fail 77
  |_,_=>.fail 77
 |.next it ab=>match bP P d V 0 it with
  |.one (.mp j)=>match V.l[j]? with
   |some (.mp kt es)=>if ayQ kt 0 then .test (.dec 0 (.proj es 0) (.proj es 1))
     (newVar V (.tp (.ac (.proj es 0) (.ac (.dec 2 (.proj es 0) (.proj es 1)) .an))) λz V=>k (.tu [(af,[.v (.b ab)]),(af,[.v (.proj es 1)]),(af,[.v (.dec 1 (.proj es 0) (.proj es 1))])]) (V.setObj j (.mp 0 z)))
     (k (.tu [(af,[.v (.b af)])]) V)else .fail 78
   |_=>.fail 79
  |_=>.fail 79
 |.entry it=>acn P d it V k
 |.index t x ix=>match P.underlying t,uM (bP P d V t x),uM (bP P d V 0 ix)with
  |some .string,aa a,aa b=>vk (.MQ a b) V k
  |_,_,_=>.fail 74
 |.slice t x lo hi mx=>match Uc P d t (bP P d V t x) lo hi mx V k with
  |some f=>f
  |none=>if isStr P t then Lt P d (bP P d V t x) lo hi mx V k else OU P d t (bP P d V t x) lo hi mx V k
 |.call c=>match c.callee with
  |.builtin .cap=>match kz P d V c.args.toList c.argTypes.toList,(c.argTypes[0]?).bind P.underlying with
   |[.one (.nl ab _)],aa (.slice _)=>k (.one (.v (.i 0))) V
   |_,_=>.fail 207
  |.builtin .max=>mxS ab (kz P d V c.args.toList c.argTypes.toList) V k
  |_=>.fail 201
 |_=>.fail 200
def aah(et t1:TypeId)(base x:Cl SE)(V:SS)(k:PV SE->SS->aq):aq:=
 match P.underlying t1,base,x with
 |some (.int _),.nl ab s,.v n=>match aX P et,db P et,FN P et,(P.info? et).map (·.bytes)with
  |some s',aa z,aa ze,aa bytes=>if ayQ s 1&&ayQ s' 1&&azK bytes 1000000&&ayQ z.cells.size 1&&(z.cells.toList.map IV.raw).all Ev.ao then
    newVar V (.dec 8 n ze) λe V=>newObj V (.row 1 af af af e) λj V=>k (.one (.sr j)) V else .fail 208
  |_,_,_,_=>.fail 208
 |_,_,_=>.fail 208
def Ud(i:SE)(f:Nat->aq):Nat->Nat->aq
 |_,0=>.fail 85
 |c,m+1=>.test (.bin .lss 3 i (.i (c+1))) (f c) (Ud i f (c+1) m)
def X1(i:SE)(f:Nat->aq)(n:Nat):aq:=.test (.bin .lss 3 i (.i 0)) (.fail 85) (Ud i f 0 n)
def gN(d:Nat)(o:Oper)(V:SS)(k:PV SE->SS->aq):aq:=
 let get (t:TypeId) (x:Operand):PV SE:=bP P d V t x
 match o.op with
 |.move x|.assign x=>k (get o.type x) V
 |.pick c a b=>match get 0 c with
  |.one (.v (.b ab))=>k (get o.type a) V
  |.one (.v (.b af))=>k (get o.type b) V
  |_=>.fail 40
 |.alloc t=>let cs:=zeroCells P t;if(db P t).isNone then .fail 38 else newObj V (.var cs) λj V=>k (.one (.pt j 0 cs.length)) V
 |.box t x=>let cs:=fE (get t x);if !xC cs then .fail 39 else newObj V (.var cs) λj V=>k (.one (.pt j 0 cs.length)) V
 |.load t a=>aac P t (get 0 a) V k
 |.store t a x=>match get 0 a with
  |.one (.pt j off ext)=>match V.l[j]? with
   |some (.var cs)=>
    let new:=fE (get t x)
    if xC new&&azK new.length ext&&azK (off+new.length) cs.length&&(aX P t)==aa new.length then k (.one .un) (V.setObj j (.var (EK cs off new)))else .fail 41
   |_=>.fail 42
  |.one (.pr j i off ext)=>match V.l[j]? with
   |some (.row s af cut fr es)=>
    let new:=fE (get t x)
    if ayQ off 0&&ayQ new.length s&&ayQ s ext&&aX P t==aa s&&xC new&&(isAgg P t||ayQ s 1)then
     match Bp V new with
     |some (f,zs,V2)=>if aad V2.l[j]? s cut fr es then newVar V2 (.zD s es i (if isAgg P t then ff zs else zs.headD .an)) λz V=>k (.one .un) (V.setObj j (.row s af cut (fr||f) z))else .fail 43
     |none=>.fail 43
    else .fail 44
   |_=>.fail 45
  |_=>.fail 46
 |.nilCheck x=>match get 0 x with
  |.one (.pt a b c)=>k (.one (.pt a b c)) V
  |.one (.fn _ _)=>.fail 47
  |.one (.tp a)=>k (.one (.tp a)) V
  |_=>.fail 47
 |.binOp op t x y _=>match get t x,get t y with
  |.ag cs,.ag ds=>match Bp V cs,Bp V ds with
   |some (_,a,_),aa (_,b,_)=>vk (.ok (.bin op t (ff a) (ff b))) V k
   |_,_=>.fail 48
  |.one (.v a),.one (.v b)=>vk (.ok (.bin op t a b)) V k
  |.one (.w _ a),.one (.v b)=>vk (.ok (.bin op t a b)) V k
  |.one (.v a),.one (.w _ b)=>vk (.ok (.bin op t a b)) V k
  |.one (.w _ a),.one (.w _ b)=>vk (.ok (.bin op t a b)) V k
  |_,_=>.fail 50
 |.unOp op _ x=>match get 0 x with
  |.one (.v (.b t))=>match op with
   |.not=>k (.one (.v (.b (!t)))) V
   |_=>.fail 51
  |.one (.v a)=>vk (.ok (.un op a)) V k
  |.one (.w _ a)=>vk (.ok (.un op a)) V k
  |_=>.fail 52
 |.convert src dst x=>match get src x with
  |.one (.v a)=>vk (.ok (.cv src dst a)) V k
  |.one (.w _ a)=>vk (.ok (.cv src dst a)) V k
  |_=>.fail 53
 |.build t parts=>match P.underlying t with
  |some (.struct fields)=>
   if !(fields.all λf=>(aX P f.type).isSome)||(db P t).isNone then .fail 53 else
   match pK (λj x=>fE (bP P d V (alP fields j) x)) (ajC P fields) parts.toList (zeroCells P t)with
   |some cs=>k (.ag cs) V
   |none=>.fail 54
  |some (.array _ et)=>match aX P et with
   |some s=>if(db P t).isNone then .fail 53 else
    match pK (λ_ x=>fE (bP P d V et x)) (XZ s) parts.toList (zeroCells P t)with
    |some cs=>k (.ag cs) V
    |none=>.fail 55
   |none=>.fail 56
  |_=>.fail 56
 |.buildSlice t len parts=>match elemOf P t with
  |some et=>match aX P et,db P et with
   |some s,aa z=>if ayQ s 0|| !ayQ z.cells.size s|| !azK (len*s) 1048576 then .fail 58 else
    if ayQ len 0 then(if parts.toList.isEmpty then k (.one (.nl af s)) V else .fail 58)else
    match pK (λ_ x=>fE (bP P d V et x)) (XZ s) parts.toList (Ub (zeroCells P et) len)with
    |some cs=>match aaa P V cs (acm (ve P 9 et) len)with
     |some (fr,zs,V,rws)=>if !(isAgg P et||ayQ s 1)then .fail 57 else
      aab (if fr then[]else rws) (newObj V (.row s af af fr (.tr s (ff (if isAgg P et then Bq s len zs else zs)))) λj V=>k (.one (.sr j)) V)
     |none=>.fail 57
    |none=>.fail 57
   |_,_=>.fail 58
  |none=>.fail 59
 |.fieldAddr s x f=>match fieldAt P s f with
  |some (fo,sz)=>if ayQ sz 0 then .fail 71 else match get 0 x with
   |.one (.pt j off ext)=>if azK (fo+sz) ext then k (.one (.pt j (off+fo) sz)) V else .fail 72
   |.one (.tp cs)=>if azK (fo+sz) cs.length then k (.one (.tp ((cs.drop fo).take sz))) V else .fail 73
   |.one (.tw fr cs)=>if azK (fo+sz) cs.length then k (.one (.tw fr ((cs.drop fo).take sz))) V else .fail 73
   |.one (.pr j i off ext)=>if azK (fo+sz) ext then k (.one (.pr j i (off+fo) sz)) V else .fail 74
   |_=>.fail 75
  |none=>.fail 76
 |.field t x f=>match get t x,fieldAt P t f with
  |.ag cs,aa (fo,sz)=>match P.underlying t with
   |some (.struct fields)=>
    if azK (fo+sz) cs.length&&(tx P ((fields[f]?).map (·.type)|>.getD 0)).isSome then
     if isAgg P ((fields[f]?).map (·.type)|>.getD 0)then(if ayQ ((cs.drop fo).take sz).length sz then k (.ag ((cs.drop fo).take sz)) V else .fail 77)else match(cs.drop fo).take sz with
     |[c]=>k (.one c) V
     |_=>.fail 78
    else .fail 79
   |_=>.fail 79
  |_,_=>.fail 80
 |.indexAddr t x ix=>match P.underlying t,get 3 ix,uM (get 3 ix)with
  |some (.slice et),_,aa i=>match aX P et with
   |some s=>match get t x with
    |.one (.v z)=>newVar V (.idx s z i) λe V=>uc P et e (k (.one (.tp (if isAgg P et then(azT s).map (λj=>.aP e j)else[.ok e]))) V)
    |.one (.w fr z)=>newVar V (.idx s z i) λe V=>uc P et e (k (.one (.tw fr (if isAgg P et then(azT s).map (λj=>.aP e j)else[.ok e]))) V)
    |.one (.sr j)=>match V.l[j]? with
     |some (.row s' _ _ _ es)=>if ayQ s s' then .aC (.idx s es i) (k (.one (.pr j i 0 s)) V)else .fail 81
     |_=>.fail 82
    |_=>.fail 83
   |none=>.fail 84
  |some (.array n et),.one (.v (.i i)),_=>match aX P et,get t x with
   |some s,.one (.pt j off ext)=>if !ayQ s 0&&decide (0<=i)&&azy i.toNat n&&azK (i.toNat*s+s) ext then k (.one (.pt j (off+i.toNat*s) s)) V else .fail 85
   |some s,.one (.tp cs)=>.fail 86
   |_,_=>.fail 87
  |some (.array n et),_,aa i=>match aX P et,get t x with
   |some s,.one (.pt j off ext)=>if !ayQ s 0&&azK (n*s) ext&&azK n 8 then X1 i (λc=>k (.one (.pt j (off+c*s) s)) V) n else .fail 85
   |_,_=>.fail 87
  |_,_,_=>.fail 88
 |.extract x i=>match get 0 x with
  |.tu vs=>match vs[i]? with
   |some (ab,cs)=>k (.ag cs) V
   |some (af,[c])=>k (.one c) V
   |_=>.fail 93
  |_=>.fail 94
 |.call c=>match c.callee with
  |.builtin b=>match b,kz P d V c.args.toList c.argTypes.toList with
   |.len,[pv]=>match(c.argTypes[0]?).bind P.underlying with
    |some .string=>match pv with
     |.one (.v z)=>vk (.uL z) V k
     |.one (.w _ z)=>vk (.uL z) V k
     |_=>.fail 96
    |some (.slice _)=>match pv with
     |.one (.v z)=>vk (.len z) V k
     |.one (.w _ z)=>vk (.len z) V k
     |.one (.nl _ _)=>k (.one (.v (.i 0))) V
     |.one (.sr j)=>match V.l[j]? with
      |some (.row _ _ _ _ es)=>vk (.len es) V k
      |_=>.fail 95
     |_=>.fail 96
    |some (.map _ _)=>match pv with
     |.one (.mp j)=>match V.l[j]? with
      |some (.mp kt es)=>if oX kt then .fail 95 else vk (.dec 9 es (.b ab)) V k
      |_=>.fail 95
     |_=>.fail 96
    |_=>.fail 96
   |.append,[.one base,.one x]=>match c.argTypes[0]?,c.argTypes[1]? with
    |some t0,aa t1=>match elemOf P t0,elemOf P t1 with
     |some et,aa _=>match aX P et,db P et,(P.info? et).map (·.bytes)with
      |some s,aa z,aa bytes=>if ayQ s 0|| !ayQ z.cells.size s then .fail 97 else
       match xE P V et s base x with
       |some (fr,es,raw)=>if raw then .aC (.rws es) (EL bytes s base fr es V k)else EL bytes s base fr es V k
       |none=>.fail 98
      |_,_,_=>.fail 101
     |some et,ah=>aah P et t1 base x V k
     |_,_=>.fail 102
    |_,_=>.fail 102
   |.len,_=>.fail 105
   |.append,_=>.fail 105
   |_,_=>jj P d o V k
  |_=>.fail 106
 |_=>jj P d o V k
inductive zf where
 |normal
 |exit (id:Nat)
 |ret
 |cg (t:TypeId) (pv:PV SE)
abbrev Kx:=TypeId->PV SE->SS->aq
inductive Want where
 |run|skip|test (t:Nat) (e:SE) (want:Bool)|fail
def vW(ops:Array Oper)(d:Nat)(V:SS)(o:Oper):Want:=
 match o.guard with
 |none=>.run
 |some (j,want)=>match(ops[j]?).bind (·.dst)with
  |some t=>if !azy t V.nt then .fail else match cz d t V.g with
   |some (.one (.v (.b x)))=>if x==want then .run else .skip
   |some (.one (.v e))=>.test t e want
   |some (.one (.w _ e))=>.test t e want
   |_=>.fail
  |none=>.fail
def EM(l:List (Nat×Nat×Nat))(d t j:Nat):Bool:=l.any λ(a,b,c)=>ayQ a d&&ayQ b t&&ayQ c j
def o0(l:List (Nat×Nat))(a b:Nat):Bool:=l.any λ(c,d)=>ayQ a c&&ayQ b d
def alQ(ch:Bool)(mode:Nat)(c:Cl SE)(n:Nat)(init:List SE):Cl SE×Nat×List SE:=
 match mode,c with
 |1,.v z=>(.v (.var n),n+1,z::init)
 |1,.nl _ s=>(.v (.var n),n+1,.tr s .an::init)
 |2,.v z=>(.w ab (.var n),n+1,z::init)
 |2,.w _ z=>(.w ab (.var n),n+1,z::init)
 |2,.nl _ s=>(.w ab (.var n),n+1,.tr s .an::init)
 |_,c=>
  if ch then match c with
   |.v z=>(.v (.var n),n+1,z::init)
   |.w fr z=>(.w fr (.var n),n+1,z::init)
   |c=>(c,n,init)
  else(c,n,init)
def Ss(ch:Nat->Bool):Nat->List (Cl SE)->Nat->List SE->List (Cl SE)×Nat×List SE
 |_,[],n,init=>([],n,init)
 |j,c::cs,n,init=>
  let(c,n,init):=alQ (ch j) 0 c n init
  let(cs,n,init):=Ss ch (j+1) cs n init
  (c::cs,n,init)
def aco(h:Hint)(d t:Nat):Nat:=if EM h.Bm d t 2 then 2 else if EM h.Bm d t 1 then 1 else 0
def ahB(ch:Nat->Bool):Nat->List (Bool×List (Cl SE))->Nat->List SE->List (Bool×List (Cl SE))×Nat×List SE
 |_,[],n,init=>([],n,init)
 |j,(a,cs)::vs,n,init=>
  let(cs,n,init):=Ss ch j cs n init
  let(vs,n,init):=ahB ch (j+cs.length) vs n init
  ((a,cs)::vs,n,init)
def OV(h:Hint):List (Nat×Nat×PV SE)->Nat->List SE->List (Nat×Nat×PV SE)×Nat×List SE
 |[],n,init=>([],n,init)
 |(d,t,pv)::g,n,init=>
  if o0 h.drop d t then OV h g n init else
  match pv with
  |.one c=>
   let(c,n,init):=alQ (EM h.MR d t 0) (aco h d t) c n init
   let(g,n,init):=OV h g n init
   ((d,t,.one c)::g,n,init)
  |.ag cs=>
   let(cs,n,init):=Ss (EM h.MR d t) 0 cs n init
   let(g,n,init):=OV h g n init
   ((d,t,.ag cs)::g,n,init)
  |.tu vs=>
   let(vs,n,init):=ahB (EM h.MR d t) 0 vs n init
   let(g,n,init):=OV h g n init
   ((d,t,.tu vs)::g,n,init)
def AL(d t:Nat)(V:SS):SS:=
 match cz d t V.g with
 |some (.one (.sr k))=>match V.l[k]? with
  |some (.row _ _ _ fr es)=>(nV k V).b_ d (aa t) (.one (.w fr es))
  |_=>V
 |_=>V
def settle:List (Nat×Nat×Nat)->SS->SS
 |[],V=>V
 |(d,t,m)::ws,V=>settle ws (if ayQ m 2 then AL d t V else V)
def zg(L:List (LO SE)):List (Nat×Nat×PV SE)->SS->SS
 |[],W=>W
 |(d,t,.one (.sr k))::g,W=>zg L g (match L[k]? with
  |some (.row _ ab _ _ _)=>(match cz d t W.g with
   |some (.one (.sr k'))=>nV k' W
   |_=>W)
  |_=>W)
 |_::g,W=>zg L g W
def Jw(ws:List (Nat×Nat×Nat))(H W:SS):SS:=zg H.l H.g (settle ws W)
def afe(h:Hint):Nat->List (LO SE)->Nat->List SE->List (LO SE)×Nat×List SE
 |_,[],n,init=>([],n,init)
 |k,o::l,n,init=>
  let(o,n,init):=(match o with
   |.var cs=>
    let(cs,n,init):=Ss (o0 h.Bl k) 0 cs n init
    (LO.var cs,n,init)
   |.row s st cut fr es=>if o0 h.Bl k 0 then(.row s (st||o0 h.Bl k 1) (cut||o0 h.Bl k 2) (fr||o0 h.Bl k 3) (.var n),n+1,es::init)else(.row s (st||o0 h.Bl k 1) (cut||o0 h.Bl k 2) (fr||o0 h.Bl k 3) es,n,init)
   |.mp kt es=>if o0 h.Bl k 0 then(.mp kt (.var n),n+1,es::init)else(.mp kt es,n,init)
   |.lp c st snap=>(.lp c st snap,n,init)
   |.dead=>(.dead,n,init):LO SE×Nat×List SE)
  let(l,n,init):=afe h (k+1) l n init
  (o::l,n,init)
def EN(d t j:Nat)(V:SS):SS:=
 match cz d t V.g with
 |some (.one (.nl _ s))=>if ayQ j 0 then{V with l:=V.l++[.row s af af af (.tr s .an)],g:=OG d t (.one (.sr V.l.length)) V.g}else V
 |some (.ag cs)=>match cs[j]? with
  |some (.nl _ s)=>{V with l:=V.l++[.row s af af af (.tr s .an)],g:=OG d t (.ag (cs.set j (.sr V.l.length))) V.g}
  |_=>V
 |_=>V
def EO(k j:Nat)(V:SS):SS:=
 match V.l[k]? with
 |some (.var cs)=>match cs[j]? with
  |some (.nl _ s)=>{V with l:=V.l.set k (.var (cs.set j (.sr V.l.length)))++[.row s af af af (.tr s .an)]}
  |_=>V
 |some (.row _ _ _ _ _)=>if ayQ j 1 then nV k V else V
 |_=>V
def xF(h:Hint):List (Nat×Nat×Nat)->SS->SS
 |[],V=>V
 |(d,t,j)::l,V=>xF h l (if ayQ (aco h d t) 0 then EN d t j V else V)
def xG:List (Nat×Nat)->SS->SS
 |[],V=>V
 |(k,j)::l,V=>xG l (EO k j V)
def xH(h:Hint)(V:SS):SS:=xG h.Bl.reverse (xF h h.MR.reverse V)
def ym:Cl SE->List Nat
 |.pt k _ _|.sr k|.sv k _|.pr k _ _ _|.mp k|.yl k=>[k]
 |.fn _ bs=>bs.map (·.1)
 |_=>[]
def H5:PV SE->List Nat
 |.one c=>ym c
 |.ag cs=>cs.flatMap ym
 |.tu vs=>vs.flatMap λp=>p.2.flatMap ym
def reach(l:List (LO SE)):Nat->List Nat->List Nat->List Nat
 |0,_,seen=>seen
 |_,[],seen=>seen
 |n+1,k::ks,seen=>if seen.any (ayQ k)then reach l n ks seen else
  match l[k]? with
  |some (.var cs)=>reach l n (cs.flatMap ym++ks) (k::seen)
  |some (.mp kt _)=>reach l n (if azK 1000000 kt then(kt % 1000000)::ks else ks) (k::seen)
  |some (.lp _ _ snap)=>reach l n (snap.flatMap (λq=>H5 q.2)++ks) (k::seen)
  |_=>reach l n ks (k::seen)
def marks(seen:List Nat):Nat->List (LO SE)->List (LO SE)
 |_,[]=>[]
 |k,o::os=>(if seen.any (ayQ k)then o else .dead)::marks seen (k+1) os
def Su:Nat->List (LO SE)->List Nat
 |_,[]=>[]
 |k,.lp _ st _::os=>if azy st 2 then k::Su (k+1) os else Su (k+1) os
 |k,_::os=>Su (k+1) os
def gcS(V:SS):SS:={V with l:=marks (reach V.l 2000 (Su 0 V.l++V.g.flatMap λp=>H5 p.2.2) []) 0 V.l}
def SE.zX(n:Nat):SE->Bool
 |.var x=>azy x n
 |.i _|.k _ _|.b _|.s _|.raw _|.an=>ab
 |.ok e|.mq _ e|.aP e _|.len e|.uL e|.tr _ e|.tp e|.proj e _|.un _ e|.cv _ _ e|.rw e|.rws e=>e.zX n
 |.idx _ e f|.lk _ e f _|.ac e f|.cat _ _ e f|.bin _ _ e f|.mx _ e f|.MQ e f|.has _ e f|.dec _ e f=>e.zX n&&f.zX n
 |.zD _ e f g|.sub _ e f g|.Lq e f g|.ins _ e f g=>e.zX n&&f.zX n&&g.zX n
 |.get _ e f g=>e.zX n&&f.zX n&&g.zX n
structure Mt where
 args:List (Nat×SE)
 eu:List (Nat×Nat)
def uN{α:Type}(l:List (Nat×α))(k:Nat):Option α:=
 match l with
 |[]=>ah
 |(a,b)::l=>if ayQ a k then aa b else uN l k
def CI(n nm:Nat)(h e:SE)(m:Mt):Option Mt:=
 match h with
 |.var i=>if azy i n then(if h.eq e then aa m else ah)else if azK nm i then ah else(match uN m.args i with
  |some e'=>if e'.eq e then aa m else ah
  |none=>aa {m with args:=(i,e)::m.args})
 |h=>if h.zX n&&h.eq e then aa m else ah
def OW(h e:Nat)(m:Mt):Option Mt:=
 match uN m.eu h with
 |some e'=>if ayQ e e' then aa m else ah
 |none=>if m.eu.any (λp=>ayQ p.2 e)then ah else aa {m with eu:=(h,e)::m.eu}
def Ue(n nm:Nat):List SE->List SE->Mt->Option Mt
 |[],[],m=>aa m
 |a::as,b::bs,m=>match CI n nm a b m with
  |some m=>Ue n nm as bs m
  |none=>ah
 |_,_,_=>ah
def alR:List (Nat×Nat)->List (Nat×Nat)->Mt->Option Mt
 |[],[],m=>aa m
 |(a,x)::as,(b,y)::bs,m=>if ayQ x y then(match OW a b m with
  |some m=>alR as bs m
  |none=>ah)else ah
 |_,_,_=>ah
def alS(n nm:Nat)(h e:Cl SE)(m:Mt):Option Mt:=
 match h,e with
 |.un,_=>aa m
 |.v a,.v b=>CI n nm a b m
 |.w f a,.w f' b=>if f|| !f' then CI n nm a b m else ah
 |.w f a,.v b=>if f then CI n nm a b m else ah
 |.v a,.nl _ s=>CI n nm a (.tr s .an) m
 |.w _ a,.nl _ s=>CI n nm a (.tr s .an) m
 |.nl a s,.nl b s'=>if a==b&&ayQ s s' then aa m else ah
 |.pt k o x,.pt k' o' x'=>if ayQ o o'&&ayQ x x' then OW k k' m else ah
 |.tp a,.tp b=>Ue n nm a b m
 |.tw f a,.tw f' b=>if f|| !f' then Ue n nm a b m else ah
 |.sr k,.sr k'=>OW k k' m
 |.mp k,.mp k'=>OW k k' m
 |.yl k,.yl k'=>OW k k' m
 |.fn f a,.fn f' b=>if ayQ f f' then alR a b m else ah
 |_,_=>ah
def Sv(n nm:Nat):List (Cl SE)->List (Cl SE)->Mt->Option Mt
 |[],[],m=>aa m
 |a::as,b::bs,m=>match alS n nm a b m with
  |some m=>Sv n nm as bs m
  |none=>ah
 |_,_,_=>ah
def ahC(n nm:Nat):List (Bool×List (Cl SE))->List (Bool×List (Cl SE))->Mt->Option Mt
 |[],[],m=>aa m
 |(x,a)::as,(y,b)::bs,m=>if x==y then(match Sv n nm a b m with
  |some m=>ahC n nm as bs m
  |none=>ah)else ah
 |_,_,_=>ah
def ahD(n nm:Nat)(h e:PV SE)(m:Mt):Option Mt:=
 match h,e with
 |.one a,.one b=>alS n nm a b m
 |.ag as,.ag bs=>Sv n nm as bs m
 |.tu as,.tu bs=>ahC n nm as bs m
 |_,_=>ah
def alT(n nm:Nat)(g:List (Nat×Nat×PV SE)):List (Nat×Nat×PV SE)->Mt->Option Mt
 |[],m=>aa m
 |(d,t,pv)::h,m=>match cz d t g with
  |some Hm=>match ahD n nm pv Hm m with
   |some m=>alT n nm g h m
   |none=>ah
  |none=>ah
def ahE(n nm:Nat):List (Nat×PV SE)->List (Nat×PV SE)->Mt->Option Mt
 |[],[],m=>aa m
 |p::ps,q::qs,m=>if ayQ p.1 q.1 then(match ahD n nm p.2 q.2 m with
  |some m=>ahE n nm ps qs m
  |none=>ah)else ah
 |_,_,_=>ah
def auC(n nm:Nat)(h e:LO SE)(m:Mt):Option Mt:=
 match h,e with
 |.var cs,.var ds=>Sv n nm cs ds m
 |.row s st cut fr es,.row s' dM zE dG aW=>if ayQ s s'&&st==dM&&(cut|| !zE)&&(fr|| !dG)then CI n nm es aW m else ah
 |.mp kt es,.mp rO aW=>if ayQ kt rO then CI n nm es aW m else ah
 |.lp c st sn,.lp c' dM xi=>if ayQ c c'&&ayQ st dM then ahE n nm sn xi m else ah
 |.dead,_=>aa m
 |_,_=>ah
def aff(n nm:Nat)(l:List (LO SE)):Nat->List (LO SE)->Mt->Option Mt
 |_,[],m=>aa m
 |k,o::os,m=>
  match o with
  |.dead=>aff n nm l (k+1) os m
  |o=>match OW k ((uN m.eu k).getD k) m with
  |some m=>match l[(uN m.eu k).getD k]? with
   |some o'=>match auC n nm o o' m with
    |some m=>aff n nm l (k+1) os m
    |none=>ah
   |none=>ah
  |none=>ah
def Uf(n:Nat)(m:Mt):Nat->List SE->Option (List SE)
 |0,acc=>aa acc
 |j+1,acc=>match uN m.args (n+j)with
  |some e=>Uf n m j (e::acc)
  |none=>ah
def isLive(l:List (LO SE))(k:Nat):Bool:=
 match l[k]? with
 |some .dead|none=>af
 |_=>ab
def alU(l:List (LO SE))(k:Nat):Bool:=
 match l[k]? with
 |some (.mp _ _)=>ab
 |_=>af
def Lu(H:SS):Bool:=
 (H.g.all λp=>(H5 p.2.2).all (isLive H.l))&&H.l.all λ|.var cs=>(cs.flatMap ym).all (isLive H.l)|.mp kt _=>azy kt 1000000||alU H.l (kt % 1000000)|.lp _ _ sn=>(sn.flatMap λq=>H5 q.2).all (isLive H.l)|_=>ab
def yn(n:Nat)(args:List SE)(h e:SE):Bool:=
 match h with
 |.var x=>if azy x n then h.eq e else(match args[x- n]? with
  |some a=>a.eq e
  |none=>af)
 |h=>h.zX n&&h.eq e
def FO(eu:List (Nat×Nat))(h e:Nat):Bool:=
 match uN eu h with
 |some e'=>ayQ e e'
 |none=>af
def rT(n:Nat)(args:List SE)(eu:List (Nat×Nat))(h e:Cl SE):Bool:=
 match h,e with
 |.un,_=>ab
 |.v a,.v b=>yn n args a b
 |.w f a,.w f' b=>(f|| !f')&&yn n args a b
 |.w f a,.v b=>f&&yn n args a b
 |.v a,.nl _ s=>yn n args a (.tr s .an)
 |.w _ a,.nl _ s=>yn n args a (.tr s .an)
 |.nl a s,.nl b s'=>a==b&&ayQ s s'
 |.pt k o x,.pt k' o' x'=>ayQ o o'&&ayQ x x'&&FO eu k k'
 |.tp a,.tp b=>kN (yn n args) a b
 |.sr k,.sr k'=>FO eu k k'
 |.mp k,.mp k'=>FO eu k k'
 |.yl k,.yl k'=>FO eu k k'
 |.fn f a,.fn f' b=>ayQ f f'&&kN (λ(p q:Nat×Nat)=>ayQ p.2 q.2&&FO eu p.1 q.1) a b
 |_,_=>af
def Jy(n:Nat)(args:List SE)(eu:List (Nat×Nat))(h e:PV SE):Bool:=
 match h,e with
 |.one a,.one b=>rT n args eu a b
 |.ag as,.ag bs=>kN (rT n args eu) as bs
 |.tu as,.tu bs=>kN (λ(p q:Bool×List (Cl SE))=>p.1==q.1&&kN (rT n args eu) p.2 q.2) as bs
 |_,_=>af
def alV(n:Nat)(args:List SE)(eu:List (Nat×Nat))(g:List (Nat×Nat×PV SE))(h:List (Nat×Nat×PV SE)):Bool:=
 h.all λ(d,t,pv)=>match cz d t g with
  |some Hm=>Jy n args eu pv Hm
  |none=>af
def zF(n:Nat)(args:List SE)(eu:List (Nat×Nat))(h e:LO SE):Bool:=
 match h,e with
 |.var cs,.var ds=>kN (rT n args eu) cs ds
 |.row s st cut fr es,.row s' dM zE dG aW=>ayQ s s'&&st==dM&&(cut|| !zE)&&(fr|| !dG)&&yn n args es aW
 |.mp kt es,.mp rO aW=>ayQ kt rO&&yn n args es aW&&(azy kt 1000000||FO eu (kt % 1000000) (kt % 1000000))
 |.lp c st sn,.lp c' dM xi=>ayQ c c'&&ayQ st dM&&kN (λ(p q:Nat×PV SE)=>ayQ p.1 q.1&&p.2.rN&&Jy n args eu p.2 q.2) sn xi
 |_,_=>af
def Ug(n:Nat)(args:List SE)(eu:List (Nat×Nat))(l:List (LO SE)):Nat->List (LO SE)->Bool
 |_,[]=>ab
 |k,o::os=>(match o with
  |.dead=>ab
  |o=>match uN eu k with
   |some k'=>match l[k']? with
    |some o'=>zF n args eu o o'
    |none=>af
   |none=>af)&&Ug n args eu l (k+1) os
def afg(eu:List (Nat×Nat)):Bool:=eu.all λp=>eu.all λq=> !ayQ p.2 q.2||ayQ p.1 q.1
def inst(n m:Nat)(H V:SS):Option (List SE×List (Nat×Nat)):=
 if !Lu H then ah else match alT n (n+m) V.g H.g ⟨[],[]⟩with
 |some mt=>match aff n (n+m) V.l 0 H.l mt with
  |some mt=>match Uf n mt m []with
   |some args=>if alV n args mt.eu V.g H.g&&Ug n args mt.eu V.l 0 H.l&&afg mt.eu&&ayQ args.length m then aa (args,mt.eu)else ah
   |none=>ah
  |none=>ah
 |none=>ah
def AM:Code->Nat
 |.region id _ _=>id
 |.seq a _=>AM a
 |.block _ a=>AM a
 |.loop a=>AM a
 |.scope a=>AM a
 |_=>0
abbrev nW:=Bool->Nat->Nat->Code->SS->(zf->SS->aq)->aq
section step
variable(self:nW)(kx:Kx)
def setArgs(d:Nat):Nat->List (PV SE)->List (Nat×Nat×PV SE)
 |_,[]=>[]
 |j,pv::dq=>(d,j,pv)::setArgs d (j+1) dq
def eM(d:Nat):List (Nat×Nat×PV SE)->List (Nat×Nat×PV SE)
 |[]=>[]
 |(d',t,pv)::g=>if ayQ d' d=ab then eM d g else(d',t,pv)::eM d g
def Uh(t:TypeId)(pa:PV SE)(V:SS):Option (PV SE):=
 match aX P t,tx P t,pa with
 |some s,aa _,.one (.pt j off ext)=>match V.l[j]? with
  |some (.var cs)=>if azK s ext&&azK (off+s) cs.length then(if isAgg P t then aa (.ag ((cs.drop off).take s))else match(cs.drop off).take s with
   |[c]=>aa (.one c)
   |_=>ah)else ah
  |_=>ah
 |_,_,_=>ah
def tE(d:Nat)(V:SS):List ResultVar->Option (List (PV SE))
 |[]=>aa []
 |.tmp t::rs=>match tE d V rs with
  |some dq=>aa ((cz d t V.g).getD (.one .un)::dq)
  |none=>ah
 |.cell a t::rs=>match cz d a V.g with
  |some pa=>match Uh P t pa V,tE d V rs with
   |some pv,aa dq=>aa (pv::dq)
   |_,_=>ah
  |none=>ah
def H6(dq:List (PV SE)):PV SE:=
 match dq with
 |[]=>.one .un
 |[pv]=>pv
 |dq=>.tu (dq.map λpv=>match pv with
  |.one c=>(af,[c])
  |.ag cs=>(ab,cs)
  |.tu _=>(af,[.un]))
def o5(d f:Nat)(dst:Option Nat)(g:FuncId)(args:List (PV SE))(V:SS)(k:PV SE->SS->aq):aq:=
 match P.funcs[g]? with
 |some fn=>match fn.body with
  |some body=>
   if cfg.stop.any (ayQ g)then .fail 119 else if azK args.length fn.ntmps&&fn.name != "runtime.NumGoroutine" then
    self af (d+1) (f*1000+dst.getD 999+1) body {V with g:=setArgs (d+1) 0 args++eM (d+1) V.g,nt:=fn.ntmps} λex W=>match ex with
     |.exit _=>.fail 111
     |.cg t pv=>kx t pv {W with g:=eM (d+1) W.g,nt:=V.nt}
     |_=>match tE P (d+1) W fn.results.toList with
      |some dq=>k (H6 dq) {W with g:=eM (d+1) W.g,nt:=V.nt}
      |none=>.fail 110
   else .fail 112
  |none=>.fail 113
 |none=>.fail 114
def rU:aq->Option (SS×SS)
 |.test _ a b=>match rU a with
  |some x=>aa x
  |none=>rU b
 |.bind _ k|.aC _ k|.call _ _ _ k|.loop _ k|.uniq k|.same _ _ k=>rU k
 |.pick _ _ a b=>match rU a with
  |some x=>aa x
  |none=>rU b
 |.tV a _ b=>match rU a with
  |some x=>aa x
  |none=>rU b
 |.bad 999999 n lv _ _ hg hl g l=>aa (⟨hg,hl,n,lv,0⟩,⟨g,l,n,lv,0⟩)
 |_=>ah
def guardOf(g:FuncId):Option TypeId:=(cfg.rows.find? λn=>azK 1000000 n&&ayQ (n % 1000000) g).map λn=>n/1000000- 1
def Jz(g:FuncId)(bs:List (Nat×Nat))(args:List (PV SE)):Option (TypeId×FuncId×List (Nat×Nat)):=
 match bs,args with
 |[],[.one (.fn c xj)]=>(guardOf cfg g).map λt=>(t,c,xj)
 |_,_=>ah
def H7(d:Nat)(V:SS):Option Nat:=
 match cz d 2 V.g with
 |some (.one (.pt j 0 1))=>match V.l[j]? with
  |some (.var [.v (.i z)])=>if z==0 then aa j else ah
  |_=>ah
 |_=>ah
def MU(d f:Nat)(dst:Option Nat)(g:FuncId)(t:TypeId)(c:FuncId)(xj:List (Nat×Nat))(V:SS)(k:PV SE->SS->aq):aq:=
 .call (3*P.funcs.size+g) ab (ff [.i t])<|
  o5 P cfg self (λt' pv W=>match pv,H7 (d+1) W with
   |.ag [.v e],aa j=>if ayQ t' t then .aC (.rw e) (k (.one (.v e)) {W with g:=eM (d+1) W.g,nt:=V.nt,l:=((W.l++[LO.dead]).set W.l.length LO.dead).set j (.var [.v e])})else .fail 171
   |_,_=>.fail 172) (d+1) (f*1000+dst.getD 999+1) ah c (xj.map λ(k,ext)=>.one (.pt k 0 ext))
   {V with n:=V.n+1,l:=V.l++[.var [.v (.i 0)]],g:=(d+1,2,.one (.pt V.l.length 0 1))::eM (d+1) V.g,nt:=3} λ_ W=>match H7 (d+1) W with
    |some j=>k (.one (.v (.i 0))) {W with g:=eM (d+1) W.g,nt:=V.nt,l:=W.l.set j (.var [.v (.i 0)])}
    |none=>.fail 173
def JA(d f:Nat)(dst:Option Nat)(g:FuncId)(args:List (PV SE))(V:SS)(k:PV SE->SS->aq):aq:=
 match Jz cfg g [] args with
 |some (t,c,xj)=>match P.funcs[g]? with
  |some fn=>if fn.body.isSome&&fn.name != "runtime.NumGoroutine" then MU P cfg self d f dst g t c xj V k else .fail 18
  |none=>.fail 18
 |none=>o5 P cfg self kx d f dst g args V k
def JB(d f:Nat)(dst:Option Nat)(g:FuncId)(args:List (PV SE))(V:SS)(k:SS->aq):aq:=
 let V1:SS:={V with lv:=V.lv+1}
 match rU (JA P cfg self (λ_ _ _=>.fail 0) d f dst g args V1 λpv W=>let W:=W.b_ d dst pv;.bad 999999 W.n W.lv 0 0 W.g W.l W.g W.l)with
 |none=>.fail 150
 |some (V2,_)=>
  let h:=(cfg.hints.find? λh=>ayQ h.d d&&ayQ h.f f&&ayQ h.id (1000000+dst.getD 999)).getD ⟨d,f,1000000+dst.getD 999,[],[],[],[]⟩
  let Vg:=gcS (xH h (settle h.Bm V2))
  let(g',n,init):=OV h Vg.g V.n []
  let(l',n,_):=afe h 0 Vg.l n init
  let H:SS:=⟨g',l',V.n+(n- V.n),V.lv,V.nt⟩
  .tV (JA P cfg self kx d f dst g args V1 λpv W=>
   let W:=xH h (settle h.Bm (W.b_ d dst pv))
   match inst V.n (n- V.n) H W with
   |some (args,_)=>.next V.lv (ff args)
   |none=>.bad d f (1000000+dst.getD 999) V.n n H.g H.l W.g W.l) (n- V.n) (k H)
def DW(V:SS):List (PV SE)->Option (List SE×SS)
 |[]=>aa ([],V)
 |pv::dq=>match vV V pv with
  |some (_,z,V)=>match DW V dq with
   |some (zs,V)=>aa (z::zs,V)
   |none=>ah
  |none=>ah
def Lv:List (PV SE)->Bool
 |[]=>ab
 |.tu _::_=>af
 |_::l=>Lv l
def Sw(fn:Func)(V:SS)(r:SE)(k:PV SE->SS->aq):aq:=
 match fn.resultTypes.toList with
 |[t]=>uc P t r (k (ofType P t r) V)
 |ts=>T_ P r 0 ts (k (.tu (OP P r 0 ts)) V)
def JC(g:FuncId)(zs:List SE)(j:Nat)(V:SS)(k:PV SE->SS->aq):aq:=
 match V.l[j]? with
 |some (.row s af af _ es)=>if azy g P.funcs.size then .aC (.rws es) (.call (P.funcs.size+g) ab (ff (es::zs)) (k (.one (.sr j)) ((({V with n:=V.n+1}:SS).vg j).setObj j (.row s af af af (.var V.n)))))else .fail 13
 |_=>.fail 14
def vh:List (PV SE)->List (Nat×Nat)×List (PV SE)
 |.one (.pt k 0 ext)::r=>((k,ext)::(vh r).1,(vh r).2)
 |r=>([],r)
def Br(V:SS):List (Nat×Nat)->Option (List (List SE))
 |[]=>aa []
 |(k,n)::l=>match V.l[k]? with
  |some (.var ds)=>if ayQ ds.length n then(match Jv ds,Br V l with
   |some es,aa r=>aa (es::r)
   |_,_=>ah)else ah
  |_=>ah
def distinct:List Nat->Bool
 |[]=>ab
 |k::l=> !(l.any (ayQ k))&&distinct l
def ni(y:SE):Nat->List (Nat×Nat)->List (LO SE)->List (LO SE)
 |_,[],L=>L
 |i,(k,n)::l,L=>ni y (i+1) l (L.set k (.var ((azT n).map λq=>.v (.aP (.proj y (i+1)) q))))
def afh(g:FuncId)(l:List (Nat×Nat))(rest:List (PV SE))(V:SS)(k:PV SE->SS->aq):aq:=
 match DW V rest,Br V l,P.funcs[g]? with
 |some (zs,_),aa H8,aa fn=>if !rest.all qz then .fail 161 else if !distinct (l.map (·.1))then .fail 162 else match fn.resultTypes.toList with
  |[t]=>.call (2*P.funcs.size+g) ab (.ac (ff (H8.map ff)) (ff zs)) (uc P t (.proj (.var V.n) 0) (k (ofType P t (.proj (.var V.n) 0)) {V with n:=V.n+1,l:=ni (.var V.n) 0 l V.l}))
  |_=>.fail 163
 |_,_,_=>.fail 164
def afi(g:FuncId)(args:List (PV SE))(V:SS)(k:PV SE->SS->aq):aq:=
 if !(vh args).1.isEmpty then afh P g (vh args).1 (vh args).2 V k else
 match args with
 |.one c::rest=>match DW V rest with
  |some (zs,_)=>if !rest.all qz then .fail 16 else match c with
   |.sr j=>JC P g zs j V k
   |.nl _ s=>newObj V (.row s af af af (.tr s .an)) λj V=>JC P g zs j V k
   |_=>.fail 17
  |none=>.fail 15
 |_=>.fail 15
def xI(g:FuncId):Bool:=azy g 100000&&cfg.rows.any (ayQ (g+500000))
def AN:fe:={cfg with rows:=cfg.rows.filter λn=>azy n 500000||azK 600000 n}
def eC(g:FuncId):Nat:=
 match P.funcs[g]? with
 |some fn=>match fn.resultTypes.toList with
  |[t]=>match P.underlying t with
   |some (.slice el)=>(aX P el).getD 0
   |_=>0
  |_=>0
 |none=>0
def Ui(g:FuncId)(args:List (PV SE))(V:SS)(k:PV SE->SS->aq):aq:=
 match DW V args,P.funcs[g]? with
 |some (zs,V'),aa fn=>if Lv args&&(fn.body.isSome&&fn.name != "runtime.NumGoroutine")then
   .call (4*P.funcs.size+g) ab (ff zs) (k (.one (.sr V'.l.length)) {V' with n:=V'.n+1,l:=V'.l++[.row (eC P g) af af af (.var V'.n)]})else .fail 181
 |_,_=>.fail 181
def qj(d:Nat)(V:SS):List (Nat×PV SE):=V.g.filterMap λp=>if ayQ p.1 d then(match cz d p.2.1 V.g with
 |some pv=>if pv.rN then aa (p.2.1,pv)else ah
 |none=>ah)else ah
def MV(d:Nat)(sn:List (Nat×PV SE)):List (Nat×Nat×PV SE):=sn.map λq=>(d,q.1,q.2)
def JD(d:Nat):List Tmp->List (PV SE)->List (Nat×Nat×PV SE)->List (Nat×Nat×PV SE)
 |p::ps,a::as,g=>JD d ps as (OG d p a g)
 |_,_,g=>g
def auD(j c:Nat)(sn:List (Nat×PV SE))(ex:zf)(W:SS)(k:PV SE->SS->aq):aq:=
 match ex with
 |.normal=>k (.one (.v (.b ab))) {W with l:=W.l.set j (.lp c 0 sn)}
 |.ret=>k (.one (.v (.b af))) {W with l:=W.l.set j (.lp c 2 [])}
 |.exit i=>k (.one (.v (.b af))) {W with l:=W.l.set j (.lp c (i+4) [])}
 |.cg _ _=>.fail 192
def Uj(pv:PV SE)(j:Nat):Bool:=
 match pv with
 |.one (.yl j')=>ayQ j j'
 |_=>af
def Uk(Cx:Cs)(d f:Nat)(dst:Option Nat)(fo:Operand)(j:Nat)(args:List (PV SE))(V:SS)(k:PV SE->SS->aq):aq:=
 match V.l[j]? with
 |some (.lp c 0 sn)=>match Cx[c]? with
  |some rc=>if ayQ args.length rc.ps.length&&rc.ps.all (λp=>azy p rc.n)then
    self ab (d+1) (f*1000+dst.getD 999+1) rc.gL {V with g:=JD (d+1) rc.ps args (MV (d+1) sn++eM (d+1) V.g),nt:=rc.n} λex W=>match ex,W.l[j]? with
     |.normal,aa (.lp c1 0 sn1)=>if ayQ c c1&&Uj (bP P d W 0 fo) j then
       self ab (d+1) (f*1000+dst.getD 999+1) rc.bd {W with l:=W.l.set j (.lp c 1 sn1)} λex W=>match W.l[j]? with
        |some (.lp c2 1 sn2)=>if ayQ c c2&&Uj (bP P d W 0 fo) j then auD j c sn2 ex {W with g:=eM (d+1) W.g,nt:=V.nt} k else .fail 193
        |_=>.fail 193
      else .fail 194
     |_,_=>.fail 194
   else .fail 195
  |none=>.fail 195
 |_=>.fail 196
def auE:Bool:=cfg.hints.any λh=>ayQ h.d 999998
variable(Cx:Cs)
def aai(d f0:Nat)(s9:Bool)(o:Oper)(c:Call)(V:SS)(k:PV SE->SS->aq):aq:=
 match c.callee with
 |.builtin _=>gN P d o V k
 |.value f=>match bP P d V 0 f with
  |.one (.fn g bs)=>
   let args:=kz P d V c.args.toList c.argTypes.toList
   match Jz cfg g bs args with
   |some (t,cf,xj)=>match P.funcs[g]? with
    |some fn=>if !s9&&fn.body.isSome&&fn.name != "runtime.NumGoroutine" then MU P cfg self d f0 o.dst g t cf xj V k else .fail 18
    |none=>.fail 18
   |none=>
   if bs.isEmpty&&xI cfg g then Ui P g args V k
   else if bs.isEmpty&&cfg.rows.any (ayQ g)then
    match P.funcs[g]? with
    |some fn=>if !s9&&fn.body.isSome&&fn.name != "runtime.NumGoroutine" then afi P g args V k else .fail 18
    |none=>.fail 18
   else if bs.isEmpty&&cfg.pure.any (ayQ g)then
    match DW V args,P.funcs[g]? with
    |some (zs,V'),aa fn=>if Lv args&&fn.body.isSome&&fn.name != "runtime.NumGoroutine" then .call g (!args.all qz) (ff zs) (Sw P fn {V' with n:=V'.n+1} (.var V'.n) k)else .fail 115
    |_,_=>.fail 115
   else if s9 then .fail 116 else o5 P cfg self kx d f0 o.dst g (args++bs.map λ(k,ext)=>.one (.pt k 0 ext)) V k
  |.one (.yl j)=>if s9 then .fail 116 else Uk P self Cx d f0 o.dst f j (kz P d V c.args.toList c.argTypes.toList) V k
  |_=>.fail 117
 |.invoke .. =>.fail 118
def MW(d f0:Nat)(s9:Bool)(o:Oper)(V:SS)(k:PV SE->SS->aq):aq:=
 match o.op with
 |.call c=>aai P cfg self kx Cx d f0 s9 o c V k
 |_=>gN P d o V k
def Sx:SE->Option IV
 |.i n=>aa (.int n)
 |.b t=>aa (.bool t)
 |_=>ah
def ahF:IV->Option SE
 |.raw (.int .i64 n)=>aa (.i n)
 |.raw (.bool b)=>aa (.b b)
 |_=>ah
def Ul(d:Nat)(V:SS)(o:Oper):Option (PV SE):=
 match o.op with
 |.binOp op t x y _=>match bP P d V t x,bP P d V t y with
  |.one (.v a),.one (.v b)=>match Sx a,Sx b with
   |some u,aa v=>((tz P op t x y u v).bind ahF).map λe=>.one (.v e)
   |_,_=>ah
  |_,_=>ah
 |.index t x ix=>match P.underlying t,bP P d V t x,bP P d V 0 ix with
  |some (.array n el),.ag cs,.one (.v (.i z))=>match aX P el,tx P el with
   |some s,aa _=>if 0<=z/\z<n/\z.toNat*s+s<=cs.length then(if isAgg P el then aa (.ag ((cs.drop (z.toNat*s)).take s))else match(cs.drop (z.toNat*s)).take s with
    |[c]=>aa (.one c)
    |_=>ah)else ah
   |_,_=>ah
  |_,_,_=>ah
 |_=>ah
def ahG:Bool:=cfg.hints.any λh=>ayQ h.d 999999
def aaj(d:Nat)(V:SS)(o:Oper):Option (SE×Nat×Cl SE):=
 match o.op with
 |.call c=>match c.callee with
  |.builtin .append=>match kz P d V c.args.toList c.argTypes.toList with
   |[.one base,.one x]=>match c.argTypes[0]?,c.argTypes[1]? with
    |some t0,aa t1=>match elemOf P t0,elemOf P t1 with
     |some et,aa _=>match aX P et,db P et,(P.info? et).map (·.bytes)with
      |some s,aa z,aa bytes=>if ayQ s 0|| !ayQ z.cells.size s|| !azK bytes 1000000 then ah else
       match xE P V et s base x,base with
       |some (_,es,_),.nl b w=>aa (es,s,.nl b w)
       |_,_=>ah
      |_,_,_=>ah
     |_,_=>ah
    |_,_=>ah
   |_=>ah
  |_=>ah
 |_=>ah
def MX(d:Nat)(V:SS)(o:Oper):Option (Nat×Nat×TypeId×SE×SE):=
 match o.op with
 |.next it af=>match bP P d V 0 it with
  |.one (.mp j)=>match V.l[j]? with
   |some (.mp kt x)=>if azK 1000000 kt then(match V.l[kt % 1000000]? with
    |some (.mp pz es)=>if oX pz then ah else aa (j,kt,pz,es,x)
    |_=>ah)else ah
   |_=>ah
  |_=>ah
 |_=>ah
def aak(j kt:Nat)(pz:TypeId)(es x:SE)(V:SS)(k:PV SE->SS->aq):aq:=
 match P.underlying (kt/1000000- 1)with
 |some (.map _ _)=>.pick es x (k (.tu [(af,[.v (.b af)])]) V)
   (k (.tu [(af,[.v (.b ab)]),(af,[.un]),(af,[.un])]) {V with n:=V.n+2,l:=V.l.set j (.mp kt (.var (V.n+1)))})
 |_=>.fail 190
def FP(d f0:Nat)(s9:Bool)(o:Oper)(V:SS)(k:PV SE->SS->aq):aq:=
 match(if s9 then ah else MX P d V o)with
 |some (j,kt,pz,es,x)=>aak P j kt pz es x V k
 |none=>match(if !s9&&auE cfg then aaj P d V o else ah)with
 |some (es,s,c)=>.aC (.sub s es (.len es) (.i 0)) (k (.one c) V)
 |none=>match(if !s9&&ahG cfg then Ul P d V o else ah)with
  |some pv=>k pv V
  |none=>MW P cfg self kx Cx d f0 s9 o V k
def Bs(d:Nat)(s9:Bool)(o:Oper)(V:SS):Option (FuncId×List (PV SE)):=
 if s9 then ah else match o.op with
 |.call c=>match c.callee with
  |.value f=>match bP P d V 0 f with
   |.one (.fn g bs)=>if cfg.Z9.any (ayQ g)&& !(bs.isEmpty&&cfg.pure.any (ayQ g))then aa (g,kz P d V c.args.toList c.argTypes.toList++bs.map λ(k,ext)=>.one (.pt k 0 ext))else ah
   |_=>ah
  |_=>ah
 |_=>ah
def vX(sk:List Nat):Option Nat->List Nat
 |some t=>sk.filter λx=> !ayQ x t
 |none=>sk
def JE(sk:List Nat):Option Nat->List Nat
 |some t=>t::vX sk (aa t)
 |none=>sk
def o6(sk:List Nat)(ops:Array Oper)(o:Oper):Bool:=
 match o.guard with
 |some (j,_)=>match(ops[j]?).bind (·.dst)with
  |some t=>jh sk t
  |none=>af
 |none=>af
def Um(t:TypeId):Bool:=
 match P.underlying t with
 |some (.interface _)=>af
 |some _=>ab
 |none=>af
def aal(d:Nat)(V:SS)(o:Oper)(rest:List Oper):Option (TypeId×PV SE):=
 match o.op,rest with
 |.makeInterface t x,[p]=>match p.op,o.dst,o.guard,p.guard with
  |.panic (.tmp a),aa b,ah,ah=>if ayQ a b&&Um P t then aa (t,bP P d V t x)else ah
  |_,_,_,_=>ah
 |_,_=>ah
def gP(d f0:Nat)(s9:Bool)(ops:Array Oper):List Nat->List Oper->SS->(SS->aq)->aq
 |_,[],V,k=>k V
 |sk,o::rest,V,k=>
  if !(match o.dst with|some t=>azy t V.nt|none=>ab)then .fail 121 else
  match(if s9 then ah else aal P d V o rest)with
  |some (t,pv)=>kx t pv (V.ll d o.dst)
  |none=>
  let run (V:SS):aq:=match Bs P cfg d s9 o V with
   |some (g,args)=>JB P cfg self kx d f0 o.dst g args V λV=>gP d f0 s9 ops (vX sk o.dst) rest V k
   |none=>FP P cfg self kx Cx d f0 s9 o V λpv V=>gP d f0 s9 ops (vX sk o.dst) rest (V.b_ d o.dst pv) k
  let skip (V:SS):aq:=gP d f0 s9 ops (JE sk o.dst) rest (V.ll d o.dst) k
  match(if o6 sk ops o then .skip else vW ops d V o)with
  |.run=>run V
  |.skip=>skip V
  |.test t e want=>.test e ((if want then run else skip) (V.b_ d (aa t) (.one (.v (.b ab))))) ((if want then skip else run) (V.b_ d (aa t) (.one (.v (.b af)))))
  |.fail=>.fail 120
def xJ(d:Nat)(V:SS):gg:=⟨V.nt,(V.g.filterMap λ(d',t,_)=>if ayQ d d' then aa t else ah).filter (λt=>match cz d t V.g with
 |some (.one (.pt _ _ _))=>ab
 |some (.one (.tp _))=>ab
 |_=>af),[],V.g.filterMap λ(d',t,_)=>if ayQ d d' then(match cz d t V.g with
  |some (.one (.pt k _ _))=>aa (t,k)
  |_=>ah)else ah,[],(V.g.filterMap λ(d',t,_)=>if ayQ d d' then aa t else ah).filter (λt=>match cz d t V.g with
 |some (.one (.v _))=>ab
 |some (.one (.w _ _))=>ab
 |_=>af),[],[],[],V.g.filterMap λ(d',t,_)=>if ayQ d d' then(match cz d t V.g with
  |some (.one (.mp k))=>(match V.l[k]? with
   |some (.mp kt _)=>if oX kt then ah else aa (t,k)
   |_=>ah)
  |_=>ah)else ah⟩
def aqq(d:Nat)(a:Code)(V:SS):Option Nat:=
 match a with
 |.seq (.region _ ops af) _=>match ops.toList with
  |[o]=>match o.op with
   |.binOp .lss _ (.tmp i) (.const (.int .i64 n)) _=>match cz d i V.g with
    |some (.one (.v (.i z)))=>if z==0&&decide (0<=n)&&decide (n<=4)then aa (n.toNat+1)else ah
    |_=>ah
   |_=>ah
  |_=>ah
 |_=>ah
def X2:Code->Bool
 |.seq a _=>X2 a
 |.region _ ops _=>ops.toList.any λo=>match o.op with
  |.next _ af=>ab
  |_=>af
 |_=>af
def OX(jB:Bool)(d f:Nat)(a:Code)(k:zf->SS->aq):Nat->SS->aq
 |0,_=>.fail 180
 |n+1,V=>self jB d f a V λex W=>match ex with
  |.normal=>OX jB d f a k n W
  |ex=>k ex W
def CJ(c j:Nat):Nat->List (LO SE)->Bool
 |_,[]=>ab
 |k,.lp c' st _::os=>(ayQ k j||azK 2 st||azy c' c)&&CJ c j (k+1) os
 |k,_::os=>CJ c j (k+1) os
def alW(j c st:Nat)(W:SS)(k:zf->SS->aq):aq:=
 match st with
 |0=>k .normal {W with l:=W.l.set j (.lp c 3 [])}
 |1=>.fail 136
 |2=>k .ret {W with l:=W.l.set j (.lp c 2 [])}
 |3=>.fail 136
 |i+4=>k (.exit i) {W with l:=W.l.set j (.lp c (i+4) [])}
def aqr:Bool:=cfg.hints.any λh=>ayQ h.d 999997
def W9(ops:Array Oper)(f:Operand):Operand:=
 match f with
 |.tmp t=>match ops.toList.find? λo=>match o.dst with|some t'=>ayQ t t'|none=>af with
  |some o=>match o.op with
   |.move x=>x
   |_=>f
  |none=>f
 |f=>f
def ajD(d:Nat)(V:SS)(ops:Array Oper)(o:Oper):Bool:=
 match o.op with
 |.call c=>match c.callee with
  |.value f=>match bP P d V 0 (W9 ops f)with
   |.one (.yl _)=>ab
   |.one (.fn g bs)=>aqr cfg&& !(bs.isEmpty&&(xI cfg g||cfg.pure.any (ayQ g)))
   |_=>af
  |_=>af
 |_=>af
def cutAt(d:Nat)(V:SS)(ops:Array Oper):Option Nat:=ops.toList.findIdx? (ajD P cfg d V ops)
variable(jk:Cs->nW)
def xK:nW:=λjB d f c V k=>
 match c with
 |.skip|.label _=>k .normal V
 |.region _ ops draw=>
  if draw then match cutAt P cfg d V ops with
   |some j=>if Sp ops j&&(bS (ops.extract 0 j)).ok&&(Cw (ops.extract 0 j) (bS (ops.extract 0 j))||ji P (bS (ops.extract 0 j)) (ops.extract 0 j).toList.zipIdx (xJ d V))then
     gP P (if ji P (bS (ops.extract 0 j)) (ops.extract 0 j).toList.zipIdx (xJ d V)then cfg else AN cfg) (jk Cx) (λt pv V=>k (.cg t pv) V) Cx d f ab (ops.extract 0 j) [] (ops.extract 0 j).toList V λV=>gP P cfg (jk Cx) (λt pv V=>k (.cg t pv) V) Cx d f af ops [] (ops.toList.drop j) V λV=>k .normal V
    else .fail 130
   |none=>(if(bS ops).ok&&(Cw ops (bS ops)||ji P (bS ops) ops.toList.zipIdx (xJ d V))then gP P (if ji P (bS ops) ops.toList.zipIdx (xJ d V)then cfg else AN cfg) (jk Cx) (λt pv V=>k (.cg t pv) V) Cx d f ab ops [] ops.toList V λV=>k .normal V else .fail 130)
  else gP P cfg (jk Cx) (λt pv V=>k (.cg t pv) V) Cx d f af ops [] ops.toList V λV=>k .normal V
 |.seq a b=>jk Cx jB d f a V λex V=>match ex with
  |.normal=>jk Cx jB d f b V k
  |ex=>k ex V
 |.cond c a b=>match bP P d V 0 c with
  |.one (.v (.b ab))=>jk Cx jB d f a V k
  |.one (.v (.b af))=>jk Cx jB d f b V k
  |.one (.v e)=>match c with
   |.tmp t=>if !azy t V.nt then .fail 131 else .test e (jk Cx jB d f a (V.b_ d (aa t) (.one (.v (.b ab)))) k) (jk Cx jB d f b (V.b_ d (aa t) (.one (.v (.b af)))) k)
   |_=>.fail 131
  |.one (.w _ e)=>match c with
   |.tmp t=>if !azy t V.nt then .fail 131 else .test e (jk Cx jB d f a (V.b_ d (aa t) (.one (.v (.b ab)))) k) (jk Cx jB d f b (V.b_ d (aa t) (.one (.v (.b af)))) k)
   |_=>.fail 131
  |_=>.fail 132
 |.block id a=>jk Cx jB d f a V λex V=>match ex with
  |.exit bz=>if ayQ id bz then k .normal V else k (.exit bz) V
  |ex=>k ex V
 |.loop a=>match(if ahG cfg then aqq d a V else ah)with
  |some n=>OX (jk Cx) jB d f a k n V
  |none=>
  let id:=AM a
  let h:=(cfg.hints.find? λh=>ayQ h.d d&&ayQ h.f f&&ayQ h.id id).getD ⟨d,f,id,[],[],[],[]⟩
  let V0:=xH h (settle h.Bm V)
  let Vg:=gcS {V0 with g:=V0.g.filter λp=> !o0 h.drop p.1 p.2.1}
  let(g,n,init):=OV h Vg.g Vg.n []
  let(l,n,_):=afe h 0 Vg.l n init
  let H:SS:=⟨g,l,V0.n+(n- V0.n),V.lv+1,V.nt⟩
  match inst V0.n (n- V0.n) H V0 with
  |some (args,_)=>(if X2 a then aq.uniq else λk=>k)<|.loop (ff args) (jk Cx jB d f a H λex W=>match ex with
   |.normal=>match inst V0.n (n- V0.n) H (Jw h.Bm H W)with
    |some (args,_)=>.next V.lv (ff args)
    |none=>.bad d f id V0.n n H.g H.l W.g W.l
   |ex=>k ex W)
  |none=>.bad d f id V0.n n H.g H.l V0.g V0.l
 |.scope a=>jk Cx jB d f a V k
 |.exit id=>k (.exit id) V
 |.ret=>k .ret V
 |.rangeFunc g params assign body=>if jB then .fail 134 else match bP P d V 0 g with
  |.one (.fn F bs)=>
   o5 P cfg (jk (Cx++[⟨params.toList,assign,body,V.nt⟩])) (λ_ _ _=>.fail 135) (d+1) (f*1000+800+AM body % 190) ah F (.one (.yl V.l.length)::bs.map λ(k,ext)=>.one (.pt k 0 ext))
    {V with g:=(d+1,0,.one (.yl V.l.length))::eM (d+1) V.g,l:=V.l++[.lp Cx.length 0 (qj d V)],nt:=1} λ_ W=>match cz (d+1) 0 W.g,W.l[V.l.length]? with
     |some (.one (.yl j)),aa (.lp c' st _)=>if ayQ j V.l.length&&ayQ c' Cx.length&&CJ Cx.length V.l.length 0 W.l then alW V.l.length Cx.length st {W with g:=eM (d+1) W.g,nt:=V.nt} k else .fail 137
     |_,_=>.fail 137
  |_=>.fail 138
 |_=>.fail 133
end step
def exec(n:Nat):Cs->nW:=Nat.rec (λ_ _ _ _ _ _ _=>.fail 140) (λ_ s Cx=>xK P cfg Cx s) n
def h_:Nat->List TypeId->List (PV SE)
 |_,[]=>[]
 |j,t::ts=>ofType P t (.var j)::h_ (j+1) ts
def zh:Nat->List TypeId->aq->aq
 |_,[],k=>k
 |j,t::ts,k=>uc P t (.var j) (zh (j+1) ts k)
def aI(n:Nat)(new:Bool)(f:FuncId):aq:=
 match P.funcs[f]? with
 |some fn=>match fn.body with
  |some c=>
   if azK fn.params.size fn.ntmps then
    zh P 0 fn.params.toList<|exec P cfg n [] af 0 f c ⟨setArgs 0 0 (h_ P 0 fn.params.toList),[],fn.params.size,0,fn.ntmps⟩ λex V=>match ex with
     |.exit _=>.fail 141
     |.cg _ _=>.fail 146
     |_=>match tE P 0 V fn.results.toList with
      |some dq=>match vV V (H6 dq)with
       |some (fr,z,_)=>.ret (if new&&fr then .rw z else z)
       |none=>.fail 142
      |none=>.fail 110
   else .fail 143
  |none=>.fail 144
 |none=>.fail 145
end run
end
abbrev aq.nt(e:SE)(a b:aq):aq:=.aC e (.test e a b)
abbrev aq.nr(e:SE):aq:=.aC e (.ret e)
abbrev aq.nx(n:Nat)(e r:SE):aq:=.aC e (.next n (.ac e r))
abbrev rV(a b:Nat):SE:=.aP (.var a) b
abbrev QZ(a:BinOp)(b:TypeId)(c d:SE):SE:=.ok (.bin a b c d)
abbrev tW(a b c:SE):SE:=.ac a (.ac b c)
abbrev jT(a:Nat):SE:=.ok (.var a)
abbrev Uo(a:BinOp)(b:TypeId)(c:SE)(d:Int):SE:=QZ a b c (.i d)
abbrev Bt(a b:SE)(c d:aq):aq:=.aC a (.nt b c d)
abbrev Bu(a b:Nat):SE:=.len (rV a b)
abbrev fg:SE:=.b af
abbrev iC(a:SE):SE:=.ac a .an
abbrev Q0(a:BinOp)(b:TypeId)(c:Nat)(d:Int):SE:=Uo a b (.var c) d
abbrev eH(a b:SE)(c:aq):aq:=.aC a (.aC b c)
abbrev DX(a:SE)(b c:Nat)(d:SE):SE:=tW a (rV b c) d
abbrev FQ(a b c d:Nat)(e:SE):SE:=DX (rV a b) c d e
abbrev bC:aq:=.ret fg
abbrev rW(a b:Nat):SE:=.mq a (.var b)
abbrev o7(a:Nat)(b c:SE)(d:aq):aq:=.bind (.idx a b c) d
abbrev qH(a:FuncId)(b:SE)(c:aq):aq:=.call a af b c
abbrev nc(a:Nat):SE:=.len (jT a)
abbrev OY(a:Nat)(b:BinOp)(c:TypeId)(d:Nat)(e:Int)(f:SE):aq:=.nx a (Q0 b c d e) f
abbrev auF(a:Nat)(b:TypeId)(c:Nat)(d:Int)(e:SE):aq:=OY a .add b c d e
abbrev alX(a:BinOp)(b:TypeId)(c d:Nat)(e:Int):SE:=Uo a b (rV c d) e
abbrev nX(a:Nat)(b:SE)(c:Nat)(d:aq):aq:=o7 a b (.var c) d
abbrev Lw(a b:Nat)(c:aq):aq:=.aC (rW a b) c
abbrev Lx(a:BinOp)(b:TypeId)(c:Nat)(d:SE):SE:=QZ a b (.var c) d
abbrev afj(a b c d e f g h:Nat)(i:SE):SE:=FQ a b c d (FQ e f g h i)
abbrev eI(a b:SE):SE:=tW a b .an
abbrev fy(a:FuncId)(b:SE)(c:aq):aq:=qH a (iC b) c
abbrev H9(a b:Nat):SE:=.proj (.var a) b
abbrev auG(a:UnOp)(b:SE):SE:=.ok (.un a b)
abbrev vY(a:SE):SE:=auG .not a
abbrev bj:SE:=.i 0
abbrev auH(a:BinOp)(b:TypeId)(c d:Nat)(e:Int)(f g:aq):aq:=.nt (alX a b c d e) f g
abbrev bp:SE:=jT 0
abbrev vZ(a:TypeId)(b:Nat)(c:SE):SE:=Lx .lss a b c
abbrev auI(a b:Nat)(c:Int)(d:SE):aq:=auF a 3 b c d
abbrev zG(a b:Nat)(c:SE):aq:=auI a b 1 c
abbrev uO(a:Nat):SE:=iC (.var a)
abbrev gQ(a b:SE)(c d:aq):aq:=Bt a (vY b) c d
abbrev zH(a:Nat):SE:=Bu 0 a
abbrev Up(a:BinOp)(b:TypeId)(c d:SE)(e f:aq):aq:=.nt (QZ a b c d) e f
abbrev o8(a:SE)(b:Nat):SE:=eI a (.var b)
abbrev eZ(a:Nat)(b:aq):aq:=.aC (jT a) b
abbrev aam(a:SE)(b:BinOp)(c:TypeId)(d:SE)(e:Int)(f g:aq):aq:=Bt a (Uo b c d e) f g
abbrev OZ(a b:SE)(c d:aq):aq:=.loop a (.nt b c d)
abbrev v7(a b c:Nat):aq:=zG a b (uO c)
abbrev v8(a:Nat):SE:=.tr a .an
abbrev kb(a:Nat)(b:SE)(c d e:Nat)(f:aq):aq:=nX a b c (Lw d e f)
abbrev FR(a:SE)(b:TypeId)(c:Nat)(d:SE)(e f:aq):aq:=OZ a (vZ b c d) e f
abbrev gR(a b c:SE):SE:=tW a b (iC c)
abbrev bR:SE:=jT 1
abbrev rX(a b:Nat)(c d:SE)(e:aq):aq:=.bind (.cat a b c d) e
abbrev gE(a:Nat):SE:=rV a 1
abbrev fF:SE:=.b ab
abbrev uP(a b:Nat):aq:=zG a b .an
abbrev nY(a:Nat)(b:aq):aq:=.aC (zH a) b
abbrev aan(a:SE):aq:=.ret (.tp a)
abbrev Ly(a b c d:Nat):SE:=FQ a b c d .an
abbrev cT:SE:=.var 5
abbrev iY:SE:=iC bj
abbrev Bv(a b:SE):aq:=aan (eI a b)
abbrev mE(a:BinOp)(b c:Nat)(d:Int)(e f:aq):aq:=auH a 3 b c d e f
abbrev Bw(a:SE)(b:BinOp)(c:TypeId)(d e:SE)(f g:aq):aq:=Bt a (QZ b c d e) f g
abbrev auJ(a b c:SE)(d e:aq):aq:=.loop a (Bt b c d e)
abbrev v_(a:Int):aq:=.ret (.i a)
abbrev alY(a b:SE)(c:TypeId)(d:Nat)(e:SE)(f g:aq):aq:=auJ a b (vZ c d e) f g
abbrev aao(a:FuncId)(b c d e f g h i:Nat)(j:SE)(k:aq):aq:=fy a (afj b c d e f g h i j) k
abbrev xL(a b:Nat)(c:Int)(d e:aq):aq:=mE .eql a b c d e
abbrev bJ:SE:=jT 2
abbrev lS(a b:Nat)(c:SE)(d:aq):aq:=eH (rW a b) c d
abbrev FT(a b:Nat):SE:=o8 (.var a) b
abbrev gF:aq:=.ret fF
abbrev dp:SE:=gE 0
abbrev uQ(a b c d e:SE):SE:=tW a b (tW c d e)
abbrev cE:SE:=nc 0
abbrev iE(a b:SE)(c:aq):aq:=gQ a b bC c
abbrev tG(a b c:Nat)(d:SE)(e:aq):aq:=rX a b (.var c) d e
abbrev tH(a:TypeId)(b c:SE)(d e:aq):aq:=Up .eql a b c d e
abbrev jG(a:FuncId)(b:SE)(c:aq):aq:=.call a ab b c
abbrev auK(a:BinOp)(b:TypeId)(c d:SE)(e f:aq):aq:=.test (.bin a b c d) e f
abbrev auL(a:Nat)(b:BinOp)(c:TypeId)(d:SE)(e:Int)(f g:aq):aq:=aam (zH a) b c d e f g
abbrev qI(a:Nat)(b:BinOp)(c:TypeId)(d:Nat)(e:Int)(f g:aq):aq:=auL a b c (zH d) e f g
abbrev xM(a b c:Nat):SE:=.aP (H9 a b) c
abbrev Uq(a b:Nat):SE:=.ok (H9 a b)
abbrev DY(a:BinOp)(b c:Nat)(d:Int):SE:=alX a 3 b c d
abbrev cA:SE:=jT 3
abbrev DZ(a:Nat):SE:=rV 0 a
abbrev cL:SE:=jT 5
abbrev tI(a:Nat)(b:SE):SE:=.tr a (iC b)
abbrev eS:SE:=.var 2
abbrev rY:SE:=.s []
abbrev c_:SE:=jT 6
abbrev D0(a b:SE)(c:Nat):SE:=gR a b (v8 c)
abbrev auM(a b:Nat)(c:Int)(d:aq)(e f:Nat)(g:Int)(h i:aq):aq:=xL a b c d (xL e f g h i)
abbrev FU(a:SE):SE:=eI bj a
abbrev mG(a b c d:Nat)(e:SE):SE:=FQ a b c d (iC e)
abbrev auN(a:SE)(b:TypeId)(c:Nat)(d:SE)(e:Nat)(f:SE)(g:Nat)(h i:aq):aq:=FR a b c d (nX e f g h) i
abbrev eg:SE:=.var 6
abbrev pL(a:SE)(b c:aq):aq:=.nt (vY a) b c
abbrev fz:SE:=gE 11
abbrev eo:SE:=.var 7
abbrev CK(a:Nat):aq:=uP 0 a
abbrev sH(a:BinOp)(b:SE)(c:Int):SE:=Uo a 3 b c
abbrev Sy(a:SE)(b:Int):SE:=sH .eql a b
abbrev aap(a:TypeId)(b c:SE)(d e:aq):aq:=auK .lss a b c d e
abbrev oG(a:TypeId)(b c:SE)(d:aq)(e:TypeId)(f g:SE)(h i:aq):aq:=aap a b c d (aap e f g h i)
abbrev pM(a:BinOp)(b:Nat)(c:Int):SE:=DY a 0 b c
abbrev jI(a b c d:Nat)(e:SE)(f:aq):aq:=tG a b c (tI d e) f
abbrev lq:SE:=.var 3
abbrev ud(a:SE):aq:=.ret (.rw a)
abbrev da:SE:=jT 4
abbrev oH(a b c d:Nat):aq:=zG a b (FT c d)
abbrev aaq(a:Nat)(b:Int):SE:=Sy (zH a) b
abbrev fi:SE:=.var 8
abbrev ej:SE:=.var 9
abbrev ny(a:Nat):SE:=rV a 2
abbrev jl:SE:=DZ 2
abbrev jJ(a:Int):SE:=.k .u8 a
abbrev lT(a:SE)(b:aq):aq:=.aC (.rw a) b
abbrev aqs(a:SE)(b:TypeId)(c:Nat)(d:SE)(e f:aq):aq:=alY iY a b c d e f
abbrev eU:SE:=zH 1
abbrev iU(a:SE)(b:Nat)(c:aq):aq:=eH a (nc b) c
abbrev oI:SE:=.var 4
abbrev yo(a b:Nat)(c:SE)(d e:aq):aq:=Bt (rW a b) c d e
abbrev aqt(a:SE)(b:TypeId)(c:Nat)(d:SE)(e:Nat)(f:SE)(g h i:Nat)(j k:aq):aq:=FR a b c d (kb e f g h i j) k
abbrev aqu(a:BinOp)(b c:Nat)(d:Int)(e:aq):aq:=mE a b c d e bC
abbrev ue(a:SE)(b:aq):aq:=eH bp a b
abbrev aqv(a:BinOp)(b:Nat)(c:Int)(d:SE)(e:aq):aq:=iE (pM a b c) d e
abbrev wa(a:BinOp)(b:Nat)(c:Int)(d:BinOp)(e:Nat)(f:Int)(g:aq):aq:=aqv a b c (pM d e f) g
abbrev ir:SE:=nc 6
abbrev mT(a:SE)(b:TypeId)(c d:SE)(e f:aq):aq:=Bw a .eql b c d e f
abbrev fI(a:FuncId)(b c d e f g h i j k l m:Nat)(n:aq):aq:=aao a b c d e f g h i (Ly j k l m) n
abbrev fJ:SE:=DZ 0
abbrev Ak(a:Nat):SE:=FU (v8 a)
abbrev FV(a:Int):aq:=.ret (jJ a)
abbrev FW(a b:SE):aq:=Bv (.rw a) b
abbrev jm(a:Nat):SE:=Bu a 1
abbrev ahH(a b c:Nat):SE:=Ly a b c 1
abbrev uf(a b:Nat):SE:=ahH a 0 b
abbrev CL(a:FuncId)(b c:Nat)(d:aq):aq:=fy a (uf b c) d
abbrev ahI(a:SE)(b:Nat):SE:=D0 rY a b
abbrev mU(a:BinOp)(b:Nat)(c:Int):SE:=Q0 a 3 b c
abbrev MY(a:Nat)(b:Int):SE:=mU .sub a b
abbrev nz(a:Nat):SE:=rV a 0
abbrev kA(a:FuncId)(b c:SE)(d:aq):aq:=qH a (eI b c) d
abbrev aqw(a:SE)(b:Int):SE:=sH .sub a b
abbrev gV:SE:=nc 1
abbrev jK:aq:=CK 3
abbrev MZ(a:FuncId)(b c:SE)(d e:aq):aq:=fy a b (.nt c d e)
abbrev oJ(a b:Nat):aq:=v7 0 a b
abbrev kB(a:FuncId)(b:SE)(c d:Nat)(e:SE)(f:aq):aq:=jG a (DX b c d e) f
abbrev aqx(a:Nat)(b:BinOp)(c:TypeId)(d:Nat)(e:Int)(f:aq):aq:=qI a b c d e bC f
abbrev wb(a:SE)(b:BinOp)(c:SE)(d:Int)(e f:aq):aq:=aam a b 3 c d e f
abbrev Sz(a b:SE):aq:=FW a (iC b)
abbrev aqy(a b c d e:Nat):SE:=mG a b c d (ny e)
abbrev mV(a:TypeId)(b c d:SE)(e:aq):aq:=.bind (.ins a b c d) e
abbrev JF(a:Int):SE:=iC (.i a)
abbrev lU(a b:SE)(c:Int)(d:aq):aq:=gQ a b (v_ c) d
abbrev sI:SE:=.var 1
abbrev aar(a:SE)(b:Nat)(c:Int):aq:=Sz a (MY b c)
abbrev gk:SE:=jT 7
abbrev pN(a:SE)(b:Nat)(c:SE)(d e:aq):aq:=aqs a 3 b c d e
abbrev lV(a b:Nat)(c:BinOp)(d e:Nat)(f:Int)(g h:aq):aq:=yo a b (DY c d e f) g h
abbrev lr(a:SE)(b:Nat)(c:SE)(d:Nat)(e:SE)(f g h:Nat)(i j:aq):aq:=pN a b c (kb d e f g h i) j
abbrev qU(a:BinOp)(b:Nat)(c:Int)(d:aq):aq:=aqu a 0 b c d
abbrev sJ(a:aq):aq:=ue bR a
abbrev lW(a:Nat):SE:=Bu a 2
abbrev lX(a:Nat)(b c:SE)(d e:Nat)(f:aq):aq:=o7 a b c (Lw d e f)
abbrev JG(a b:SE)(c:aq):aq:=eH (.rw a) b c
abbrev qV:SE:=.i (-1)
abbrev lY:SE:=jm 3
abbrev CM(a:Nat)(b:Int)(c:aq):aq:=qU .geq a b c
abbrev Al:aq:=.fail 85
abbrev SA(a:SE):SE:=.ok (.rw a)
abbrev yp:SE:=.tp .an
abbrev yq(a:Nat)(b:SE):aq:=zG 0 a b
abbrev aas(a:FuncId)(b c:SE)(d:aq):aq:=MZ a b c d bC
abbrev qW:aq:=.ret bj
abbrev iW:SE:=jT 8
abbrev aqz(a:Nat)(b:Int):SE:=mU .geq a b
abbrev we(a:Int):aq:=ud (.i a)
abbrev lZ(a:SE)(b:aq):aq:=pL a bC b
abbrev aat(a:SE):aq:=yq 1 a
abbrev aqA(a:SE)(b:Nat)(c:SE):aq:=Bv (ahI a b) c
abbrev sK:SE:=.len cT
abbrev l5:SE:=zH 3
abbrev CN:SE:=v8 4
abbrev jL(a:Nat)(b:aq):aq:=Lw a 0 b
abbrev oK:aq:=CK 1
abbrev mW:SE:=gE 2
abbrev mX:SE:=jT 11
abbrev mY:SE:=DZ 3
abbrev mZ:SE:=gE 4
abbrev aau(a:TypeId)(b:SE)(c d:aq):aq:=tH a b rY c d
abbrev FX(a:TypeId)(b:SE)(c:aq):aq:=aau a b c bC
abbrev wg:SE:=.uL bp
abbrev M0(a b:SE)(c:aq):aq:=JG a (.rw b) c
abbrev iu(a:SE)(b:BinOp)(c d:SE)(e f:aq):aq:=Bw a b 3 c d e f
abbrev pO:SE:=nz 2
abbrev pP:SE:=.var 12
abbrev aqB(a:SE)(b:aq):aq:=.bind (SA a) b
abbrev ahJ(a:Nat)(b:BinOp)(c:Nat)(d:Int)(e:aq):aq:=aqx a b 3 c d e
abbrev pQ(a b:Nat)(c:TypeId)(d e:SE)(f g:aq):aq:=mT (rW a b) c d e f g
abbrev CO(a b:Nat):SE:=xM a 0 b
abbrev ahK(a:Nat):SE:=aaq a 0
abbrev ahL:SE:=ahK 5
abbrev yr(a:SE):SE:=aqw a 1
abbrev ahM(a b:SE)(c:aq):aq:=eH a (yr b) c
abbrev M1(a:SE):SE:=.MQ bp a
abbrev ug:SE:=M1 sI
abbrev nA(a b:SE)(c:Int)(d e:aq):aq:=wb a .gtr b c d e
abbrev nB:SE:=nc 2
abbrev qX(a:SE)(b:Nat)(c:SE)(d:Nat)(e:SE)(f:Nat)(g h:aq):aq:=auN a 3 b c d e f g h
abbrev JH(a b:Nat)(c:Int)(d:aq):aq:=ahJ a .gtr b c d
abbrev aqC(a:FuncId)(b c d e f g h i:Nat)(j:aq):aq:=aao a b c d e f g h i .an j
abbrev SB(a:BinOp)(b c:SE)(d e:aq):aq:=Up a 3 b c d e
abbrev FY(a:BinOp)(b c:SE)(d:aq):aq:=SB a b c bC d
abbrev aqD(a b c:Nat):SE:=.proj (H9 a b) c
abbrev qY:SE:=jm 5
abbrev aqE(a:Nat):SE:=ahI CN a
abbrev oL:SE:=v8 3
abbrev oM:SE:=nc 3
abbrev aqF(a:Nat)(b:SE):aq:=aqA bj a b
abbrev jn:SE:=.i 1
abbrev M3(a:aq):aq:=nY 6 a
abbrev qZ(a:FuncId)(b c d:SE)(e:aq):aq:=qH a (gR b c d) e
abbrev SC(a:Nat):SE:=Bu a 4
abbrev ahN:SE:=SC 5
abbrev aqG(a:SE)(b:aq):aq:=ahM ahN a b
abbrev FZ(a:aq):aq:=aqG ahN a
abbrev pR:SE:=v8 2
abbrev SD:SE:=uO 10
abbrev pS:SE:=zH 0
abbrev JI:SE:=lW 5
abbrev sL:aq:=CK 4
abbrev q0(a:Nat):SE:=o8 bj a
abbrev aqH(a:Nat):aq:=aqF a fg
abbrev q7:aq:=aqH 1
abbrev aav(a:BinOp)(b:SE)(c d:aq):aq:=SB a b jl c d
abbrev aqI(a:BinOp)(b:SE)(c d:aq):aq:=aav a b (M3 c) d
abbrev M4(a b c d e f g h i:SE):SE:=uQ a b c d (uQ e f g h i)
abbrev yu:aq:=.ret eS
abbrev nC(a:Nat):SE:=Uq a 0
abbrev Am:SE:=FU yp
abbrev M5(a:TypeId)(b:SE)(c d:aq):aq:=tH a bp b c d
abbrev fX(a:SE)(b:Nat)(c:SE)(d:Nat)(e:SE)(f g h:Nat)(i j:aq):aq:=aqt a 3 b c d e f g h i j
abbrev q8:SE:=DZ 6
abbrev uh:aq:=CK 2
abbrev JJ:SE:=aqE 4
abbrev SG(a:TypeId)(b:SE)(c:Nat)(d:aq):aq:=FX a b (nY c d)
abbrev JK(a:Nat):SE:=Bu a 3
abbrev q9:SE:=JK 1
abbrev q_(a:Nat)(b:SE)(c d e:Nat)(f:SE)(g:aq):aq:=nX a b c (lS d e f g)
abbrev aqJ(a b c d e f g:Nat)(h:SE):SE:=afj a 0 b c d e f g h
abbrev aqK(a b c d e f:Nat)(g:SE):SE:=aqJ a b 1 c d e f g
abbrev ahO(a b c d e:Nat)(f:SE):SE:=aqK a b c 2 d e f
abbrev wh(a b c d:Nat)(e:SE):SE:=ahO a b c d 3 e
abbrev aqL(a:FuncId)(b c d e f g h:Nat)(i:aq):aq:=aqC a b 0 c d e f g h i
abbrev aqM(a:FuncId)(b c d e f g:Nat)(h:aq):aq:=aqL a b c 1 d e f g h
abbrev aqN(a:FuncId)(b c d e f:Nat)(g:aq):aq:=aqM a b c d 2 e f g
abbrev gG(a:FuncId)(b c d e:Nat)(f:aq):aq:=aqN a b c d e 3 f
abbrev jo(a b:Nat):aq:=v7 1 a b
abbrev F0:SE:=v8 1
abbrev sM:SE:=jT 10
abbrev ui(a:Nat):SE:=aqz a 0
abbrev aqO:SE:=JF 200
abbrev An:SE:=iC aqO
abbrev aqP(a b:Nat)(c:aq):aq:=lS a b bR c
abbrev ra(a:SE)(b:Nat)(c d:SE)(e:Nat)(f g:aq):aq:=qX a b c 1 d e f g
abbrev wi:SE:=ny 2
abbrev wj:SE:=.var 10
abbrev aqQ(a:BinOp)(b:SE)(c:aq):aq:=FY a b lq c
abbrev wk(a:TypeId)(b c d:SE)(e:aq):aq:=aqB (.get a b c d) e
abbrev wm:SE:=lW 2
abbrev wo:SE:=nz 4
abbrev aqR(a:Nat)(b:Int):aq:=aar fg a b
abbrev Ao(a b:Nat):aq:=.next a (uO b)
abbrev aqS(a:TypeId)(b:SE)(c:aq):aq:=M5 a b gF c
abbrev SH(a:TypeId)(b:List UInt8)(c:aq):aq:=aqS a (.s b) c
abbrev ahP(a b c d e f g h i:SE):aq:=aat (M4 a b c d e f g h i)
abbrev uj(a:Nat)(b:Int)(c:BinOp)(d:Nat)(e:Int)(f:BinOp)(g:Nat)(h:Int)(i:aq):aq:=CM a b (wa c d e f g h i)
abbrev aqT(a:Nat):SE:=uf 0 a
abbrev oN:SE:=aqT 0
abbrev uo:SE:=jT 12
abbrev aqU(a:SE)(b:aq):aq:=aqQ .lss a b
abbrev ur:aq:=v_ 2
abbrev uu:SE:=nc 4
abbrev uw:SE:=gE 1
abbrev yv(a:TypeId)(b c:SE)(d:aq):aq:=.bind (.has a b c) d
abbrev rh:SE:=jT 9
abbrev aqV(a b:Nat)(c:Int)(d:aq):aq:=xL a b c d bC
abbrev aqW(a:SE)(b:TypeId)(c d:SE)(e f:aq):aq:=aqU a (tH b c d e f)
abbrev F1(a:BinOp)(b c:SE):SE:=QZ a 3 b c
abbrev aqX(a:BinOp)(b c:Nat)(d:Int)(e f:aq):aq:=mE a b c d (M3 e) f
abbrev rj(a:Nat):SE:=Uq a 1
abbrev yw(a:aq):aq:=.aC bp a
abbrev sN(a b:Nat)(c:aq):aq:=nX a bp b c
abbrev wq(a:SE)(b:BinOp)(c:SE)(d e:aq):aq:=wb a b c 0 d e
abbrev yx:SE:=ny 4
abbrev yy:SE:=nz 1
abbrev aqY(a:Nat)(b:BinOp)(c:Nat)(d:Int)(e f:Nat)(g:Int)(h:aq):aq:=ahJ a b c d (JH e f g h)
abbrev aqZ(a:SE)(b c:aq):aq:=aqI .neq a b c
abbrev aq0(a b:aq):aq:=aqZ dp a b
abbrev aq1(a:aq):aq:=aq0 a bC
abbrev aq2(a:BinOp)(b c:Nat)(d:Int)(e f:aq):aq:=aqX a b c d e (aq1 f)
abbrev F2:aq:=.ret oI
abbrev sO(a:aq):aq:=eZ 2 a
abbrev aq3(a b c d:Nat):SE:=aqy a 0 b c d
abbrev m4(a b c:Nat):SE:=aq3 a b 1 c
abbrev wu(a:SE)(b:TypeId)(c:SE)(d e:aq):aq:=aqW a b c lq d e
abbrev yz(a b:SE):SE:=F1 .eql a b
abbrev JL(a:SE)(b:Int):aq:=Bv a (.i b)
abbrev F3(a b:SE):SE:=tW a bj b
abbrev M6(a:TypeId)(b:List UInt8)(c:TypeId)(d:List UInt8)(e:aq):aq:=SH a b (SH c d e)
abbrev aq4(a:TypeId)(b:Nat)(c:SE):SE:=Lx .add a b c
abbrev F4(a:Nat):aq:=oJ 4 a
abbrev yA(a:FuncId)(b:SE)(c:Nat)(d:aq):aq:=fy a b (eZ c d)
abbrev wv(a b:SE)(c d:Nat):SE:=tW a b (FT c d)
abbrev CP:SE:=ny 11
abbrev aq5(a:Int):SE:=Sy JI a
abbrev yB:SE:=nc 7
abbrev aaw:SE:=DZ 4
abbrev yC:SE:=.var 0
abbrev F5:SE:=FU bj
abbrev wx(a:SE)(b:Nat)(c d:SE)(e f:Nat)(g h:aq):aq:=ra a b c d e (eZ f g) h
abbrev wy(a b c d e f g h:Nat):SE:=wh a b c d (Ly e f g h)
abbrev yD(a:FuncId)(b:SE)(c:aq):aq:=aas a b bR c
abbrev oO(a:Nat):aq:=uP 1 a
abbrev CQ(a:Nat)(b c:aq):aq:=.test (.var a) b c
abbrev CS(a:Nat):aq:=oJ 1 a
abbrev aq6(a:Int):aq:=aqR 0 a
abbrev sP:aq:=aq6 1
abbrev JM(a:TypeId)(b c:SE)(d e:aq):aq:=Up .leq a b c d e
abbrev rp(a:Nat)(b:aq):aq:=aqP a 0 b
abbrev yE(a b:SE)(c d e f:Nat)(g:SE)(h:aq):aq:=M0 a b (jI c d e f g h)
abbrev JN:SE:=.len fi
abbrev Ap(a:Nat)(b:Int):SE:=pM .eql a b
abbrev jq(a b:SE)(c:Nat)(d:SE)(e f:aq):aq:=alY a b 3 c d e f
abbrev CT:SE:=ny 6
abbrev CU:SE:=Ak 1
abbrev ahQ:SE:=aq5 0
abbrev CV:SE:=jm 4
abbrev JO(a:aq):aq:=sJ (sO a)
abbrev aq7:aq:=FV 0
abbrev CY:aq:=F4 5
abbrev wz(a b c:SE)(d e:aq):aq:=iu a .geq b c d e
abbrev aq8(a b:Nat)(c:Int)(d e:aq):aq:=aq2 .neq a b c d e
abbrev Aq:aq:=v_ 6
abbrev F6(a:SE):aq:=aat (iC a)
abbrev Ar(a:BinOp)(b:TypeId)(c:SE)(d:Int):SE:=QZ a b c (jJ d)
abbrev F7(a:Nat):aq:=.nr (nC a)
abbrev F8:SE:=JF 20
abbrev ahR(a:Nat):SE:=H9 3 a
abbrev CZ:SE:=ahR 0
abbrev ux(a:Nat):SE:=CO a 1
abbrev yF(a b:SE)(c d:aq):aq:=wq a .lss b c d
abbrev C3(a b c:SE)(d:aq):aq:=eH a b (.aC c d)
abbrev aq9(a:SE):SE:=F3 ir a
abbrev F9:SE:=aq9 JJ
abbrev rq(a b c:Nat):aq:=oH 1 a b c
abbrev ahS(a:Nat)(b:Int)(c:aq):aq:=aqV 0 a b c
abbrev JP(a:Nat)(b:aq):aq:=ahS a 0 b
abbrev aq_(a:Nat)(b:TypeId)(c:SE)(d:Nat)(e:aq):aq:=JP a (SG b c d e)
abbrev JQ:aq:=.ret cT
abbrev JR:aq:=v_ (-1)
abbrev ahT(a b c:SE):aq:=aan (gR a b c)
abbrev C4(a b:Nat):SE:=.tr a (uO b)
abbrev M7:SE:=.i 4
abbrev wA(a b c d:Nat):SE:=wh a b c d .an
abbrev ara(a:Nat)(b:Int):aq:=.next a (JF b)
abbrev arb(a:SE)(b:aq):aq:=iE ahL a b
abbrev arc(a:aq):aq:=arb ahL a
abbrev ard(a:Nat)(b:TypeId)(c:SE)(d:Nat)(e:aq):aq:=aq_ a b c d (arc e)
abbrev C5:aq:=v_ 9
abbrev C6(a:SE)(b:Int):SE:=sH .lss a b
abbrev F_:SE:=.var 15
abbrev Ga:SE:=nz 3
abbrev wB(a:Nat):SE:=CO a 0
abbrev Gb:SE:=ny 5
abbrev C7:SE:=gE 5
abbrev C8(a b:SE):SE:=F1 .add a b
abbrev C9(a:SE)(b:Int):SE:=sH .leq a b
abbrev Gc:SE:=ahR 1
abbrev Gd(a b:Nat):SE:=aqD a 2 b
abbrev JS(a b:Nat):SE:=SA (Gd a b)
abbrev uy(a:Nat)(b:SE):SE:=aq4 3 a b
abbrev are(a:FuncId)(b:Nat)(c:aq):aq:=CL a 0 b c
abbrev sQ(a:FuncId)(b:aq):aq:=are a 0 b
abbrev wC:SE:=.i 3
abbrev wD:SE:=.i 2
abbrev ahU(a b c d e f g h:SE):aq:=ahP a b oI c d e f g h
abbrev ahV(a b:aq):aq:=.test ahQ a b
abbrev JT(a b:aq):aq:=ahV a (FZ b)
abbrev As(a:SE)(b c:Nat)(d:SE):SE:=DX a b c (iC d)
abbrev arf(a:Int):SE:=Sy bp a
abbrev JU:SE:=jJ 95
abbrev Ge(a b:SE):aq:=ahT a F0 b
abbrev uz(a:SE)(b:TypeId)(c:SE)(d:Int)(e f:aq):aq:=aam a .neq b c d e f
abbrev JV(a:Nat):aq:=.nr (ahK a)
abbrev arh(a:Nat)(b:Int)(c:aq)(d e:Nat)(f:Int)(g h:aq):aq:=auM a 0 b c d e f g h
abbrev jr(a:Nat)(b:Int)(c:aq)(d:Nat)(e:Int)(f g:aq):aq:=arh a b c d 0 e f g
abbrev wE(a:Nat)(b:BinOp)(c:Nat)(d:Int)(e f:Nat)(g:Int)(h i:Nat)(j:Int)(k l:aq):aq:=aqY a b c d e f g (aq8 h i j k l)
abbrev JW(a b:SE):aq:=aat (eI a b)
abbrev ari(a:TypeId)(b:SE)(c d:aq):aq:=aap a b M7 c d
abbrev C_(a:TypeId)(b:SE)(c:aq):aq:=ari a b c Al
abbrev yG(a b c d e f g:SE):aq:=ahU a b c d e f g SD
abbrev Da(a:Nat)(b:TypeId)(c:Nat)(d:aq):aq:=ard a b aaw c d
abbrev Gf(a:Nat):SE:=rV a 3
abbrev yH:SE:=Gf 1
abbrev yI(a:aq):aq:=jL 2 a
abbrev JX(a:SE)(b:Nat)(c:Int):aq:=lT a (ara b c)
abbrev JY(a:Int):aq:=JL qV a
abbrev yJ(a:Nat):SE:=MY a 1
abbrev JZ(a:Int):SE:=Sy q9 a
abbrev Db(a:TypeId)(b c:SE)(d:aq):aq:=JM a b c d aq7
abbrev Gg:SE:=jT 13
abbrev Gh:SE:=zH 2
abbrev Gi(a:BinOp)(b c:SE):aq:=.nr (F1 a b c)
abbrev M8:aq:=ud fg
abbrev Gj:SE:=gE 9
abbrev Gk(a:Int)(b c:aq):aq:=.nt (arf a) b c
abbrev Dc(a:FuncId)(b:SE)(c:aq):aq:=aas a b bJ c
abbrev Gp:aq:=v_ 5
abbrev J0:aq:=we 5
abbrev J1:SE:=JK 2
abbrev J2:SE:=lW 4
abbrev J3:SE:=ui 5
abbrev J4:aq:=CS 2
abbrev J5:SE:=Ak 3
abbrev J6:SE:=SC 1
abbrev J7:aq:=FV 2
abbrev J8:SE:=rj 3
abbrev Dd(a:Nat)(b:SE):SE:=.idx a cT b
end Go.Ev
