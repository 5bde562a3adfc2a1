/- Lemmas over the model, without conditions of their own: the ideal machine, and code run on expressions. -/
import Derived.Test.YtabefplkfkfdfaaGreatPAd
import Derived.Test.YtabefplkfkfdfaaGreatPAc
open Nat renaming beq->ayI,beq_eq->azc,le_refl->ayA,lt_of_lt_of_le->az9,eq_of_beq_eq_true->ayH,mul_le_mul_right->ay4,lt_or_ge->aCO,zero_le->azi,blt->azp,ble_eq->az7,zero_add->azP,le_trans->ayU,lt_succ_of_lt->aDg
open Option.some renaming injEq->ayB
open List renaming mem_flatMap->azJ,mem_of_getElem?->ayM,getElem?_set_ne->aAo,getElem?_eq_some_iff->ayw,getElem?_eq_getElem->ayv,getElem?_map->ayR,getElem?_of_mem->azO,length_map->aAq,length_append->ayC,length_cons->ay6,isEmpty_iff->az8,length->azg,range->azR,getElem?_range->aAO,all_eq_true->ayP,getElem_mem->ayy,append_nil->ayO,nil_append->azl,append_assoc->ayJ,prefix_refl->azH,mapM_cons->aAH,mapM_nil->aCr,cons_append->azv,foldl_cons->aze,getElem?_append_left->ayK,getElem?_append_right->ay0,mem_cons_of_mem->azA,mem_cons->ayN,map_cons->azs,nodup_cons->aAC
open Option renaming bind_eq_some_iff->ayV,map_eq_some_iff->ayG,bind_some->ayx,map_some->ay_
open Go.Fence renaming wide->ay8
open Array renaming getElem?_eq_none->aAw,getElem?_eq_some_iff->azj
open Prod.mk renaming injEq->ay7
open Bool renaming and_eq_true->ayz,or_eq_true->azf,false_eq_true->ayW,not_eq_true'->azn
open Go.ResultVar renaming tmp->aEa,cell->aEb
open List.cons renaming injEq->aAa
open Go.Sem renaming run_bind->ayL,run_pure->ayT
open Go.Result renaming andThen_ok->ayD
open Go.Instr renaming yield->aCG
open Option renaming some->aa,none->ah
open Bool renaming true->ab,false->af
set_option linter.all false
namespace Go.Ev
section
variable{Cx:Cs}
variable{P:Program}{N:Nat}{Y al:St}{R R':Rs}{X aN:Ph}{E:Nat->Env}{G:List IV}{L:List (LO SE)}{Γ:Gm SE}
abbrev aaf(s:Nat)(es:List IV)(R:Rs)(X:Ph)(E:Nat->Env)(Y:St):Prop:=J (O:=Unit) [] (λ_=>aa (.tree s es)) R X [] [.row s af af af ()] E Y
abbrev aag(s:Nat)(es:List IV)(R:Rs)(X:Ph)(Y:St)(x:IV):Prop:=cZ (O:=Unit) (λ_=>aa (.tree s es)) R X [.row s af af af ()] Y x (.sr 0)
def Fo(P:Program)(s:Nat)(f:FuncId)(es:List IV)(xs:List IV)(aQ:List IV):Prop:=
 ∀R X E Y x args,aaf s es R X E Y->aag s es R X Y x->All2 jj args xs->∀KW:Nat->IV->St->Prop,(∀R' aN al v,aaf s aQ R' aN E al->aag s aQ R' aN al v->∃b,∀N,b<=N->KW N v al)->
  ∃b,∀N,b<=N->dM P N f (x::args) Y (KW N)
theorem bD.move{fr:Bool}{x y:IV}(hm:∀i ob,Y.at i=aa ob->al.at i=aa ob/\R' i=R i)(h:bD fr R Y x y):bD fr R' al x y:=by
 induction h with
 |raw v=>exact .raw v
 |nil s hs=>exact .nil s hs
 |emp s hs=>exact .emp s hs
 |dR t x y _ ih=>exact .dR t x y ih
 |agg cs ds hl _ ih=>exact .agg cs ds hl ih
 |aL cs ds hl _ ih=>exact .aL cs ds hl ih
 |pure x hf hp=>exact .pure x hf hp
 |sl id off len cap ep s m cs aB mn es hR aK h1 h2 hs hl hb SB bQ _ ih=>
  obtain⟨g1,g2⟩:=hm id _ aK;exact .sl id off len cap ep s m cs aB mn es (by rw[g2];exact hR) g1 h1 h2 hs hl hb SB bQ ih
theorem acj{k s:Nat}{f:FuncId}{fr:Bool}{z z':SE}{es aQ xs args:List IV}{x:IV}(h:J Cx (ay P G) R X Γ L E Y)(hk:L[k]?=aa (.row s af af fr z))(hz:z.den P G=aa (.tree s es))(qT:z'.den P G=aa (.tree s aQ))
 (ki:∀e∈es,∀c∈cellsOf e,aF c=ab)(hx:cZ (ay P G) R X L Y x (.sr k))(bE:All2 jj args xs)
 (PS:∀d t pv,cN d t Γ=aa pv->pv.ok (·=k))(hL:∀j o,L[j]?=aa o->j≠k->o.ok (·=k))(hr:Fo P s f es xs aQ)
 (KW:Nat->IV->St->Prop)(TC:∀R' aN al v,J Cx (ay P G) R' aN Γ (L.set k (.row s af af af z')) E al->cZ (ay P G) R' aN (L.set k (.row s af af af z')) al v (.sr k)->∃b,∀N,b<=N->KW N v al):
 ∃b,∀N,b<=N->dM P N f (x::args) Y (KW N):=by
 obtain⟨cm,lk,g1,g2,g3⟩:=h.obj k _ hk;have qS:z.den P G=aa (.tree s lk):=g1;rw[hz]at qS;cases qS;have lH:=du hk
 let dH:Nat->Bool:=λi=>match X k with
  |some id=>ayI i id
  |none=>af
 have HH:∀i,dH i=ab↔X k=aa i:=λi=>by
  simp only[dH];cases X k with
  |none=>simp
  |some id=>simp only[azc,ayB];exact eq_comm
 have aK:=NV dH h.top
 have aoX:∀d∈flat es,aF d=ab:=λd hd=>by
  obtain⟨e,he,hc⟩:=azJ.1 hd;exact ki e he d hc
 have l_:aaf s es (λ_=>ah) (λj=>if j=0 then X k else ah) E (Y.only dH):=by
  refine⟨λd t pv hg=>(by cases hg),λj ob hj=>?_,λj j' id h1 h2=>?_,λj id hj=>?_,λid m hm=>(by cases hm),λid m cs aB mn hm=>(by cases hm),T.IN _ _,λid hid=>?_⟩
  .cases j with
   |succ j=>simp at hj
   |zero=>
    simp at hj;subst hj;refine⟨cm,es,rfl,g2,?_⟩;rcases g3 with⟨a,b⟩|⟨id,cs,aB,mn,a1,a2,a3,a4,a5,a6,a7⟩
    .exact .inl ⟨by simp[a],b⟩
    .refine .inr ⟨id,cs,aB,mn,by simp[a1],?_,a3,a4,rfl,a6,λj u v hu hv=>?_⟩
     .rw[aK,(HH id).2 a1];simpa using a2
     .have hd:=aoX v (ayM hv);have:=a7 j u v hu hv;cases v<;>simp only[aF]at hd<;>try (cases hd;done)
      rw[cQ this];exact .raw _
  .split at h1<;>try (cases h1;done)
   split at h2<;>try (cases h2;done)
   omega
  .split at hj<;>try (cases hj;done)
   rename_i hj0;subst hj0;exact⟨by simp,(h.lt k id hj).2⟩
  .rw[aK];split
   .exact h.top id hid
   .rfl
 have hX0:aag s es (λ_=>ah) (λj=>if j=0 then X k else ah) (Y.only dH) x:=by
  obtain⟨s1,mX,vE,vD,z1,gg,b1,b2,b3⟩:=hx;rw[hk]at b1;cases b1;have s5:z.den P G=aa (.tree s gg):=b2;rw[hz]at s5;cases s5;refine⟨s,af,af,af,(),es,rfl,rfl,?_⟩;rcases b3 with⟨c1,c2,c3⟩|⟨id,cs,aB,mn,cap,c1,c2,c3,c4,c5,c6⟩
  .exact .inl ⟨by simp[c1],c2,c3⟩
  .exact .inr ⟨id,cs,aB,mn,cap,by simp[c1],by rw[aK,(HH id).2 c1];simpa using c2,c3,c4,c5,c6⟩
 suffices aah:∀R1 dV au v,aaf s aQ R1 dV E au->aag s aQ R1 dV au v->Y.n<=au.n->(∀id,id<Y.n->dH id=af->au.at id=ah)->∃b,∀N,b<=N->KW N v (Y.back au dH) by
  obtain⟨b,hb⟩:=hr _ _ _ _ x args l_ hX0 bE (λN v au=>Y.n<=au.n->(∀id,id<Y.n->dH id=af->au.at id=ah)->KW N v (Y.back au dH)) λR1 dV au v h1 h2=>by
   by_cases hc:Y.n<=au.n/\∀id,id<Y.n->dH id=af->au.at id=ah
   .obtain⟨b,hb⟩:=aah R1 dV au v h1 h2 hc.1 hc.2;exact⟨b,λN hN _ _=>hb N hN⟩
   .exact⟨0,λN _ h3 h4=>absurd ⟨h3,h4⟩ hc⟩
  refine⟨b,λN hN Z us w hi o9=>((hb N hN).frame dH h.top Z us w hi o9).mono λed w' hR=>?_⟩;obtain⟨v,al,⟨au,jE,rfl,hle,_,Fm⟩,aeY⟩:=hR;exact⟨v,Y.back au dH,jE hle Fm,aeY⟩
 intro R1 dV au v bR hX1 hle Fm;have L_:=bR.top;have Ee:=NW (Y:=Y) (au:=au) dH hle L_;have hold:∀id,id<Y.n->dH id=af->(Y.back au dH).at id=Y.at id:=λid h1 h2=>by rw[Ee,if_pos ⟨h1,h2⟩]
 have gW:∀id ob,au.at id=aa ob->¬(id<Y.n/\dH id=af):=λid ob ho hc=>by rw[Fm id hc.1 hc.2]at ho;cases ho
 have Ma:∀id ob,au.at id=aa ob->(Y.back au dH).at id=aa ob:=λid ob ho=>by rw[Ee,if_neg (gW id ob ho)];exact ho
 let R2:Rs:=λi=>if i<Y.n/\dH i=af then R i else R1 i
 let BG:Ph:=λi=>if i=k then dV 0 else X i
 have hRk:∀id,X k=aa id->R id=ah:=λid hid=>by
  rcases g3 with⟨a,_⟩|⟨bz,cs,aB,mn,a1,_,_,_,a5,_⟩
  .rw[hid]at a;cases a
  .rw[hid]at a1;cases a1;simpa using a5
 have AT:∀id m,R id=aa m->id<Y.n/\dH id=af:=λid m hm=>by
  refine⟨h.qO id m hm,?_⟩;cases hv:dH id with
  |false=>rfl
  |true=>rw[hRk id ((HH id).1 hv)]at hm;cases hm
 have tW:∀j id,j≠k->X j=aa id->id<Y.n/\dH id=af:=λj id hj hid=>by
  refine⟨(h.lt j id hid).2,?_⟩;cases hv:dH id with
  |false=>rfl
  |true=>exact absurd (h.inj j k id hid ((HH id).1 hv)) hj
 have zl:∀id m cs aB mn,R2 id=aa m->(Y.back au dH).at id=aa (.cells cs aB mn)->m<=cs.length:=λid m cs aB mn hm ha=>by
  simp only[R2]at hm;rw[Ee]at ha;split at hm
  .rename_i hc;rw[if_pos hc]at ha;exact h.fits id m cs aB mn hm ha
  .rename_i hc;rw[if_neg hc]at ha;exact bR.fits id m cs aB mn hm ha
 have rm:ji R Y R2 (Y.back au dH):=by
  refine⟨λid m hm=>⟨m,by simp only[R2];rw[if_pos (AT id m hm)];exact hm,ayA _⟩,λid m cs aB mn hm ha=>⟨cs,aB,?_,ayA _,λ_ _=>rfl⟩,zl⟩;rw[hold id (AT id m hm).1 (AT id m hm).2];exact ha
 have bt:∀j,j≠k->(L.set k (.row s af af af z'))[j]?=L[j]? :=λj hj=>aAo (λhc=>hj hc.symm);have bG:(L.set k (.row s af af af z'))[k]?=aa (.row s af af af z'):=by simp[lH]
 have Dk:∀j,j≠k->BG j=X j:=λj hj=>by simp only[BG];rw[if_neg hj]
 have vL:BG k=dV 0:=by simp[BG]
 have hs:la (ay P G) (ay P G) R X L Y R2 BG (L.set k (.row s af af af z')) (Y.back au dH) (·=k):=by
  refine⟨λ_ _ h=>h,rm,λj cs hj=>?_,λj kt gg hj=>?_,λj s1 mX vE vD z1 hj hb=>?_,λj c mX snap hj=>?_⟩
  .have bB:j≠k:=λhc=>by subst hc;rw[hk]at hj;cases hj
   exact⟨⟨cs,by rw[bt j bB];exact hj⟩,Dk j bB⟩
  .have bB:j≠k:=λhc=>by subst hc;rw[hk]at hj;cases hj
   exact⟨⟨gg,by rw[bt j bB];exact hj⟩,Dk j bB⟩
  .exact⟨⟨mX,vD,z1,by rw[bt j hb];exact hj,λe he=>⟨e,he,rfl⟩⟩,Dk j hb,λid cs aB mn hid ha=>⟨cs,mn,by rw[hold id (tW j id hb hid).1 (tW j id hb hid).2];exact ha,rfl,λh=>h⟩⟩
  .have bB:j≠k:=λhc=>by subst hc;rw[hk]at hj;cases hj
   exact⟨⟨c,mX,snap,by rw[bt j bB];exact hj⟩,Dk j bB⟩
 obtain⟨fq,Tq,k1,k2,k3⟩:=bR.obj 0 _ rfl;have y9:aa (IV.tree s aQ)=aa (.tree s Tq):=k1;cases y9
 have NX:∀id,dV 0=aa id->∃ob,au.at id=aa ob:=λid hid=>by
  rcases k3 with⟨a,_⟩|⟨bz,cs,aB,mn,a1,a2,_⟩
  .rw[hid]at a;cases a
  .rw[hid]at a1;cases a1;exact⟨_,a2⟩
 refine TC R2 BG (Y.back au dH) v ⟨λd t pv hg=>(h.slot d t pv hg).step hs (PS d t pv hg),λj ob hj=>?_,λj j' id h1 h2=>?_,λj id hj=>?_,λid m hm=>?_,zl,T.IN _ _,λid hid=>?_⟩ ?_
 .by_cases bB:j=k
  .subst bB;rw[bG]at hj;cases hj;refine⟨fq,aQ,qT,k2,?_⟩;rcases k3 with⟨a,b⟩|⟨id,cs,aB,mn,a1,a2,a3,a4,a5,a6,a7⟩
   .exact .inl ⟨by rw[vL];exact a,b⟩
   .refine .inr ⟨id,cs,aB,mn,by rw[vL];exact a1,Ma id _ a2,a3,a4,?_,a6,λq u v hu hv=>?_⟩
    .simp only[R2];rw[if_neg (gW id _ a2)];exact a5
    .refine(a7 q u v hu hv).move λi ob ho=>⟨Ma i ob ho,?_⟩;simp only[R2];rw[if_neg (gW i ob ho)]
  .rw[bt j bB]at hj;exact(h.obj j ob hj).step hs (Dk j bB) (λid hid=>⟨hold id (tW j id bB hid).1 (tW j id bB hid).2,by simp only[R2];rw[if_pos (tW j id bB hid)]⟩) (hL j ob hj bB)
 .by_cases hj:j=k
  .by_cases ni:j'=k
   .rw[hj,ni]
   .exfalso;rw[hj,vL]at h1;rw[Dk j' ni]at h2;obtain⟨ob,ho⟩:=NX id h1;exact gW id ob ho (tW j' id ni h2)
  .by_cases ni:j'=k
   .exfalso;rw[ni,vL]at h2;rw[Dk j hj]at h1;obtain⟨ob,ho⟩:=NX id h2;exact gW id ob ho (tW j id hj h1)
   .rw[Dk j hj]at h1;rw[Dk j' ni]at h2;exact h.inj j j' id h1 h2
 .by_cases bB:j=k
  .subst bB;rw[vL]at hj;exact⟨by simpa using lH,(bR.lt 0 id hj).2⟩
  .rw[Dk j bB]at hj;have:=h.lt j id hj;exact⟨by simpa using this.1,az9 this.2 hle⟩
 .simp only[R2]at hm;split at hm
  .exact az9 (h.qO id m hm) hle
  .exact bR.qO id m hm
 .have gX:au.n<=id:=hid;rw[Ee,if_neg ai];exact L_ id gX
 .obtain⟨s1,mX,vE,vD,z1,gg,b1,b2,b3⟩:=hX1;have y8:aa (LO.row s af af af ())=aa (.row s1 mX vE vD z1):=b1;cases y8;have s5:aa (IV.tree s aQ)=aa (.tree s gg):=b2;cases s5;refine⟨s,af,af,af,z',aQ,bG,qT,?_⟩;rcases b3 with⟨c1,c2,c3⟩|⟨id,cs,aB,mn,cap,c1,c2,c3,c4,c5,c6⟩
  .exact .inl ⟨by rw[vL];exact c1,c2,c3⟩
  .exact .inr ⟨id,cs,aB,mn,cap,by rw[vL];exact c1,Ma id _ c2,c3,c4,c5,c6⟩
end
section
variable{Cx:Cs}
variable{P:Program}{N:Nat}{Y al:St}{R R':Rs}{X aN:Ph}{E:Nat->Env}{G:List IV}
abbrev aai(ins:List (List IV)):List (LO IV):=ins.map λcs=>.var (cs.map .v)
abbrev Rr(ins:List (List IV))(R:Rs)(X:Ph)(E:Nat->Env)(Y:St):Prop:=J (O:=IV) [] aa R X [] (aai ins) E Y
def HI(X:Ph)(ins:List (List IV))(ps:List IV):Prop:=
 ps.length=ins.length/\∀i cs p,ins[i]?=aa cs->ps[i]?=aa p->∃id,X i=aa id/\p=.ptr id 0 0 cs.length
def Fp(P:Program)(f:FuncId)(ins:List (List IV))(xs:List IV)(outs:List (List IV))(z:IV):Prop:=
 ∀R X E Y ps args,Rr ins R X E Y->HI X ins ps->All2 jj args xs->∀KW:Nat->IV->St->Prop,
  (∀R' aN al v,Rr outs R' aN E al->HI aN outs ps->jj v z->∃b,∀N,b<=N->KW N v al)->∃b,∀N,b<=N->dM P N f (ps++args) Y (KW N)
def Ad{O:Type}(ev:O->Option IV)(ds:List (Cl O))(cs:List IV):Prop:=All2 (λ(c:Cl O) u=>∃e,c=.v e/\ev e=aa u) ds cs
theorem aiB{O:Type}{ev:O->Option IV}{Γ:Gm O}{L:List (LO O)}(h:J Cx ev R X Γ L E Y){k:Nat}{ds:List (Cl O)}{cs:List IV}(hk:L[k]?=aa (.var ds))(hc:Ad ev ds cs):
 ∃id c7,X k=aa id/\R id=ah/\Y.at id=aa (.cells c7 0 0)/\c7.length=cs.length/\∀(j:Nat) x u,c7[j]?=aa x->cs[j]?=aa u->jj x u/\ao u=ab:=by
 obtain⟨id,c7,h1,h2,h3,h4⟩:=h.obj k _ hk;refine⟨id,c7,h1,h2,h3,by rw[h4.len,hc.len],λj x u hx hu=>?_⟩;have hj:j<ds.length:=by rw[hc.len];exact(ayw.1 hu).1
 obtain⟨e,he,GA⟩:=hc.get (ayv hj) hu;have:=h4.get hx (ayv hj);rw[he]at this;obtain⟨y,y1,y2,y3⟩:=this;rw[GA]at y1;cases y1;exact⟨y2,y3⟩
theorem getElem?_inj{ks:List Nat}(uK:ks.Nodup){i i' k:Nat}(h1:ks[i]?=aa k)(h2:ks[i']?=aa k):i=i':=by
 exact(List.getElem?_inj (ayw.1 h1).1 uK).1 (h1.trans h2.symm)
theorem aaj{O:Type}{ev jX:O->Option IV}{Γ:Gm O}{L L':List (LO O)}(WZ:∀e z,ev e=aa z->jX e=aa z)(h:J Cx ev R X Γ L E Y){ks:List Nat}(uK:ks.Nodup)
 {ins outs:List (List IV)}{f:FuncId}{xs ps args:List IV}{z:IV}(eh:ks.length=ins.length)(sN:∀(i k:Nat) (cs:List IV),ks[i]?=aa k->ins[i]?=aa cs->∃ds:List (Cl O),L[k]?=aa (LO.var ds)/\Ad ev ds cs)
 (lG:HI (λi=>(ks[i]?).bind X) ins ps)(bE:All2 jj args xs)(hr:Fp P f ins xs outs z)(ho:outs.length=ins.length)(hlL:L'.length=L.length)
 (hLo:∀j,j∉ks->L'[j]?=L[j]?)(hLk:∀(i k:Nat) (cs:List IV),ks[i]?=aa k->outs[i]?=aa cs->∃ds:List (Cl O),L'[k]?=aa (LO.var ds)/\Ad jX ds cs)
 (KW:Nat->IV->St->Prop)(TC:∀R' al v,J Cx jX R' X Γ L' E al->jj v z->∃b,∀N,b<=N->KW N v al):
 ∃b,∀N,b<=N->dM P N f (ps++args) Y (KW N):=by
 let dH:Nat->Bool:=λi=>ks.any λk=>match X k with
  |some id=>ayI i id
  |none=>af
 have HH:∀i,dH i=ab↔∃k∈ks,X k=aa i:=λi=>by
  simp only[dH,List.any_eq_true];constructor
  .rintro⟨k,hk,hh⟩;refine⟨k,hk,?_⟩;split at hh
   .rename_i id hid;rw[hid,ayH hh]
   .cases hh
  .rintro⟨k,hk,hh⟩;exact⟨k,hk,by rw[hh];simp⟩
 have aK:=NV dH h.top
 let φ0:Ph:=λi=>(ks[i]?).bind X
 have aeZ:∀i id,φ0 i=aa id->∃k,ks[i]?=aa k/\X k=aa id:=λi id hi=>by
  simp only[φ0]at hi;exact ayV.1 hi
 have Np:∀(i:Nat) (cs:List IV),ins[i]?=aa cs->∃(k id:Nat) (c7:List IV),ks[i]?=aa k/\X k=aa id/\R id=ah/\Y.at id=aa (.cells c7 0 0)/\c7.length=cs.length/\∀(j:Nat) x u,c7[j]?=aa x->cs[j]?=aa u->jj x u/\ao u=ab:=λi cs hi=>by
  have cX:i<ks.length:=by rw[eh];exact(ayw.1 hi).1
  have hk:=ayv cX;obtain⟨ds,d1,d2⟩:=sN i _ cs hk hi;obtain⟨id,c7,a⟩:=aiB h d1 d2;exact⟨_,id,c7,hk,a⟩
 have l_:Rr ins (λ_=>ah) φ0 E (Y.only dH):=by
  refine⟨λd t pv hg=>(by cases hg),λj ob hj=>?_,λj j' id h1 h2=>?_,λj id hj=>?_,λid m hm=>(by cases hm),λid m cs aB mn hm=>(by cases hm),T.IN _ _,λid hid=>?_⟩
  .rw[ayR]at hj;obtain⟨cs,bQ,rfl⟩:=ayG.1 hj;obtain⟨k,id,c7,k1,k2,k3,k4,k5,k6⟩:=Np j cs bQ;refine⟨id,c7,by simp[φ0,k1,k2],rfl,?_,.mk (by simp[k5]) λq x c hx hc=>?_⟩
   .rw[aK,(HH id).2 ⟨k,ayM k1,k2⟩];simpa using k4
   .rw[ayR]at hc;obtain⟨u,hu,rfl⟩:=ayG.1 hc;obtain⟨c1,c2⟩:=k6 q x u hx hu;exact⟨u,rfl,c1,c2⟩
  .obtain⟨k,k1,k2⟩:=aeZ j id h1;obtain⟨k',y9,k2'⟩:=aeZ j' id h2;have:=h.inj k k' id k2 k2';subst this;exact getElem?_inj uK k1 y9
  .obtain⟨k,k1,k2⟩:=aeZ j id hj;refine⟨?_,(h.lt k id k2).2⟩;have:=(ayw.1 k1).1;simp;omega
  .rw[aK];split
   .exact h.top id hid
   .rfl
 suffices aah:∀R1 dV au v,Rr outs R1 dV E au->HI dV outs ps->jj v z->Y.n<=au.n->(∀id,id<Y.n->dH id=af->au.at id=ah)->∃b,∀N,b<=N->KW N v (Y.back au dH) by
  obtain⟨b,hb⟩:=hr _ _ _ _ ps args l_ lG bE (λN v au=>Y.n<=au.n->(∀id,id<Y.n->dH id=af->au.at id=ah)->KW N v (Y.back au dH)) λR1 dV au v h1 h2 h3=>by
   by_cases hc:Y.n<=au.n/\∀id,id<Y.n->dH id=af->au.at id=ah
   .obtain⟨b,hb⟩:=aah R1 dV au v h1 h2 h3 hc.1 hc.2;exact⟨b,λN hN _ _=>hb N hN⟩
   .exact⟨0,λN _ h3 h4=>absurd ⟨h3,h4⟩ hc⟩
  refine⟨b,λN hN Z us w hi o9=>((hb N hN).frame dH h.top Z us w hi o9).mono λed w' hR=>?_⟩;obtain⟨v,al,⟨au,jE,rfl,hle,_,Fm⟩,aeY⟩:=hR;exact⟨v,Y.back au dH,jE hle Fm,aeY⟩
 intro R1 dV au v bR hP1 hv hle Fm;have L_:=bR.top;have Ee:=NW (Y:=Y) (au:=au) dH hle L_;have hold:∀id,id<Y.n->dH id=af->(Y.back au dH).at id=Y.at id:=λid h1 h2=>by rw[Ee,if_pos ⟨h1,h2⟩]
 have gW:∀id ob,au.at id=aa ob->¬(id<Y.n/\dH id=af):=λid ob ho hc=>by rw[Fm id hc.1 hc.2]at ho;cases ho
 have Ma:∀id ob,au.at id=aa ob->(Y.back au dH).at id=aa ob:=λid ob ho=>by rw[Ee,if_neg (gW id ob ho)];exact ho
 let R2:Rs:=λi=>if i<Y.n/\dH i=af then R i else R1 i
 have hRk:∀k id,k∈ks->X k=aa id->R id=ah:=λk id hk hid=>by
  obtain⟨i,hi⟩:=azO hk;have cX:i<ins.length:=by rw[<-eh];exact(ayw.1 hi).1
  obtain⟨k',bz,c7,k1,k2,k3,_⟩:=Np i _ (ayv cX);rw[hi]at k1;cases k1;rw[hid]at k2;cases k2;exact k3
 have AT:∀id m,R id=aa m->id<Y.n/\dH id=af:=λid m hm=>by
  refine⟨h.qO id m hm,?_⟩;cases hv:dH id with
  |false=>rfl
  |true=>
   obtain⟨k,hk,hid⟩:=(HH id).1 hv;rw[hRk k id hk hid]at hm;cases hm
 have tW:∀j id,j∉ks->X j=aa id->id<Y.n/\dH id=af:=λj id hj hid=>by
  refine⟨(h.lt j id hid).2,?_⟩;cases hv:dH id with
  |false=>rfl
  |true=>
   obtain⟨k,hk,gX⟩:=(HH id).1 hv;exact absurd (h.inj j k id hid gX▸hk) hj
 have zl:∀id m cs aB mn,R2 id=aa m->(Y.back au dH).at id=aa (.cells cs aB mn)->m<=cs.length:=λid m cs aB mn hm ha=>by
  simp only[R2]at hm;rw[Ee]at ha;split at hm
  .rename_i hc;rw[if_pos hc]at ha;exact h.fits id m cs aB mn hm ha
  .rename_i hc;rw[if_neg hc]at ha;exact bR.fits id m cs aB mn hm ha
 have rm:ji R Y R2 (Y.back au dH):=by
  refine⟨λid m hm=>⟨m,by simp only[R2];rw[if_pos (AT id m hm)];exact hm,ayA _⟩,λid m cs aB mn hm ha=>⟨cs,aB,?_,ayA _,λ_ _=>rfl⟩,zl⟩;rw[hold id (AT id m hm).1 (AT id m hm).2];exact ha
 have agC:∀k,k∈ks->∃(i:Nat) (cs:List IV) (ds:List (Cl O)),ks[i]?=aa k/\outs[i]?=aa cs/\L'[k]?=aa (.var ds)/\Ad jX ds cs:=λk hk=>by
  obtain⟨i,hi⟩:=azO hk;have cX:i<outs.length:=by rw[ho,<-eh];exact(ayw.1 hi).1
  obtain⟨ds,d1,d2⟩:=hLk i k _ hi (ayv cX);exact⟨i,_,ds,hi,ayv cX,d1,d2⟩
 have TD:∀k,k∈ks->∃ds:List (Cl O),L[k]?=aa (.var ds):=λk hk=>by
  obtain⟨i,hi⟩:=azO hk;have cX:i<ins.length:=by rw[<-eh];exact(ayw.1 hi).1
  obtain⟨ds,d1,_⟩:=sN i k _ hi (ayv cX);exact⟨ds,d1⟩
 have hs:la ev jX R X L Y R2 X L' (Y.back au dH) (λ_=>False):=by
  refine⟨WZ,rm,λj cs hj=>?_,λj kt gg hj=>?_,λj s1 mX vE vD z1 hj _=>?_,λj c mX snap hj=>?_⟩
  .by_cases bB:j∈ks
   .obtain⟨_,_,ds,_,_,d1,_⟩:=agC j bB;exact⟨⟨ds,d1⟩,rfl⟩
   .exact⟨⟨cs,by rw[hLo j bB];exact hj⟩,rfl⟩
  .have bB:j∉ks:=λhc=>by obtain⟨ds,hd⟩:=TD j hc;rw[hj]at hd;cases hd
   exact⟨⟨gg,by rw[hLo j bB];exact hj⟩,rfl⟩
  .have bB:j∉ks:=λhc=>by obtain⟨ds,hd⟩:=TD j hc;rw[hj]at hd;cases hd
   exact⟨⟨mX,vD,z1,by rw[hLo j bB];exact hj,λe he=>⟨e,WZ _ _ he,rfl⟩⟩,rfl,λid cs aB mn hid ha=>⟨cs,mn,by rw[hold id (tW j id bB hid).1 (tW j id bB hid).2];exact ha,rfl,λh=>h⟩⟩
  .have bB:j∉ks:=λhc=>by obtain⟨ds,hd⟩:=TD j hc;rw[hj]at hd;cases hd
   exact⟨⟨c,mX,snap,by rw[hLo j bB];exact hj⟩,rfl⟩
 refine TC R2 (Y.back au dH) v ⟨λd t pv hg=>(h.slot d t pv hg).step hs (PV.a_ _),λj ob hj=>?_,h.inj,λj id hj=>?_,λid m hm=>?_,zl,T.IN _ _,λid hid=>?_⟩ hv
 .by_cases bB:j∈ks
  .obtain⟨i,cs,ds,i1,i2,i3,i4⟩:=agC j bB;rw[i3]at hj;cases hj;have cX:i<ps.length:=by rw[hP1.1];exact(ayw.1 i2).1
   obtain⟨id,p1,p2⟩:=hP1.2 i cs _ i2 (ayv cX);have P4:i<ins.length:=by rw[<-ho];exact(ayw.1 i2).1
   obtain⟨sa,q1,q2⟩:=lG.2 i _ _ (ayv P4) (ayv cX);rw[p2]at q2;injection q2 with q2 _ _ _
   subst q2;have ae0:X j=aa id:=by simpa[i1]using q1
   have fT:(aai outs)[i]?=aa (.var (cs.map .v)):=by rw[ayR,i2];rfl
   obtain⟨bz,c7,o1,o2,o3,o4⟩:=bR.obj i _ fT;rw[p1]at o1;cases o1;refine⟨id,c7,ae0,?_,Ma id _ o3,.mk (by rw[o4.len,aAq,i4.len]) λq x c hx hc=>?_⟩
   .simp only[R2];rw[if_neg (gW id _ o3)];exact o2
   .have hq:q<cs.length:=by rw[<-i4.len];exact(ayw.1 hc).1
    have hcq:(cs.map Cl.v)[q]?=aa (.v cs[q]):=by rw[ayR,ayv hq];rfl
    obtain⟨y,y1,y2,y3⟩:=o4.get hx hcq;cases y1;obtain⟨e,rfl,he⟩:=i4.get hc (ayv hq);exact⟨_,he,y2,y3⟩
  .rw[hLo j bB]at hj;exact(h.obj j ob hj).step hs rfl (λid hid=>⟨hold id (tW j id bB hid).1 (tW j id bB hid).2,by simp only[R2];rw[if_pos (tW j id bB hid)]⟩) (LO.a_ _)
 .have:=h.lt j id hj;exact⟨by rw[hlL];exact this.1,az9 this.2 hle⟩
 .simp only[R2]at hm;split at hm
  .exact az9 (h.qO id m hm) hle
  .exact bR.qO id m hm
 .have gX:au.n<=id:=hid;rw[Ee,if_neg ai];exact L_ id gX
end
section
variable{P:Program}{N:Nat}{Y al:St}{Z:Io}{w:World}{ro:Nat}
def aui(w:World)(s:Nat)(es:List IV)(u:Value)(w':World):Prop:=
 (w'.os=w.os/\w'.tape=w.tape/\w'.output=w.output/\w.heap.size<=w'.heap.size/\∀b,b<w.heap.size->w'.heap[b]?=w.heap[b]?)/\
 ((es=[]/\u=.slice ah 0 0)\/
  es≠[]/\∃b c el cap,w.heap.size<=b/\u=.slice (aa ⟨b,0,ah⟩) es.length cap/\w'.heap[b]?=aa (.cells c el (0,0))/\es.length<=cap/\cap*s<=c.size/\
   ∀(k:Nat) (x:IV),(flat es)[k]?=aa x->∃v,x=.raw v/\c[k]?=aa v)
def auj(w:World)(s:Nat)(es:List IV):Ending->World->Prop
 |.returned u,w'=>aui w s es u w'
 |_,_=>False
def oC(P:Program)(s:Nat)(f:FuncId)(xs:List IV)(es:List IV):Prop:=
 0<s/\(∀e∈es,(cellsOf e).length=s)/\(∀c∈flat es,(∃v,c=.raw v)/\ao c=ab)/\∀M w us,yh M w->aG (fW M) xs us->CallsIn ay8 0 P f us.toArray w (auj w s es)
def s6(n s:Nat)(es:List IV):IV:=if es.isEmpty then .raw (.slice ah 0 0)else .sl n 0 es.length ah 0 s
def p8(es:List IV):Ob:=.cells (flat es) 0 0
theorem pd{s:Nat}:∀{es:List IV},(∀e∈es,(cellsOf e).length=s)->(flat es).length=es.length*s
 |[],_=>by simp[flat]
 |e::es,h=>by
  have:=pd (es:=es) λe he=>h e (by simp[he]);have he:=h e ax;unfold flat at this⊢;rw[List.flatMap_cons,ayC,this,he,ay6,Nat.add_mul];omega
theorem Inv.aoY{w':World}{ob:Ob}{l:Loc}(h:Inv N Z Y w)(hN:Y.n<N)(bf:w.heap.size<=w'.heap.size)(hold:∀b,b<w.heap.size->w'.heap[b]?=w.heap[b]?)
 (Aj:w'.os=w.os)(DG:w'.tape=w.tape)(DH:w'.output=w.output)(hl:w.heap.size<=l.b)(fC:l.b<w'.heap.size)(fT:lC (c_ Z Y.n 0 l) w' Y.n ob):
 Inv N (c_ Z Y.n 0 l) (Y.add ob) w'/\Le ro Z w Y (c_ Z Y.n 0 l) w' (Y.add ob):=by
 have h_:=h.fresh Y.n (ayA _) hN;refine⟨h.change (sa:=Y.n) (lx (h_ 0)) (λi hi e=>by simp[c_,hi]) ?_ ?_ bf (λb hb _=>hold b hb) fT (λj=>by simp) ⟨by simp,by simp⟩ ?_,?_⟩
 .intro id b hb;rcases nR hb with hb|⟨h1,h2⟩
  .exact .inl hb
  .exact .inr ⟨h1,by omega⟩
 .intro b hb;rcases nR hb with hb|⟨h1,h2⟩
  .have:=h.jy _ _ hb;omega
  .omega
 .intro id hid aj e;simp only[St.kB]at hid;have:id≠Y.n:=ai;simp[c_,this,h.fresh id ai aj e]
 .refine⟨lx (h_ 0),?_,?_,?_,?_,by simp,Aj,DG,DH,bf,λb hb _=>hold b hb,λ_ _ h=>.inl h⟩
  .intro id b hb;rcases nR hb with hb|⟨h1,h2⟩
   .exact .inl hb
   .exact .inr ai
  .intro id hn hr e;simp only[St.kB]at hr;have:id≠Y.n:=ai;simp[c_,this]
  .intro id hn hr;simp only[St.kB]at hr;have:id≠Y.n:=ai;rw[St.gz,if_neg (λhc=>this hc.symm),hn]
  .intro id hr hn;rw[St.gz,if_neg ai]
theorem Inv.Xs{w':World}(h:Inv N Z Y w)(bf:w.heap.size<=w'.heap.size)(hold:∀b,b<w.heap.size->w'.heap[b]?=w.heap[b]?)
 (Aj:w'.os=w.os)(DG:w'.tape=w.tape)(DH:w'.output=w.output):∃aJ,(∀v u,Rv Z v u->Rv aJ v u)/\Inv N aJ Y w'/\Le ro Z w Y aJ w' Y:=by
 have hp:Nq ab Z.m w (.raw (.int .i64 0)) (.int .i64 0) w':=⟨λ_=>ah,λ_ _ hb=>(by cases hb),λ_ _ hb=>(by cases hb),λhc=>(by cases hc),.raw _,Aj,DG,DH,bf,hold⟩;obtain⟨aJ,h1,h2,h3⟩:=Nr (ro:=ro) h (λhc=>by cases hc) hp;exact⟨aJ,λv u hv=>hv.mono h3.ext,h2,h3⟩
theorem oC.call{s:Nat}{f:FuncId}{args xs es:List IV}(h:oC P s f xs es)(hr:∀N Z us w,Inv N Z Y w->aG Z args us->∃M,yh M w/\aG (fW M) xs us):
 jN P ro f args Y (s6 Y.n s es) (if es.isEmpty then Y else Y.add (p8 es)):=by
 obtain⟨hs,bQ,_,h⟩:=h;refine⟨by split<;>simp,λN hN Z us w hi o9=>?_⟩;obtain⟨M,hM,uC⟩:=hr N Z us w hi o9;refine(h M w us hM uC).mono λe w' hR=>?_;cases e with
 |panicked ch=>exact hR.elim
 |outgrown=>exact hR.elim
 |returned u=>
  obtain⟨⟨h1,h2,h3,h4,h5⟩,hu⟩:=hR;by_cases he:es.isEmpty
  .rw[if_pos he]at hN⊢;obtain⟨aJ,g1,g2,g3⟩:=hi.Xs (ro:=ro) h4 h5 h1 h2 h3;refine⟨aJ,?_,g2,g3⟩;unfold s6;rw[if_pos he];rcases hu with⟨_,rfl⟩|⟨a0,_⟩
   .exact .raw _
   .exact absurd (az8.1 he) a0
  .rw[if_neg he]at hN⊢;unfold s6;rw[if_neg he];rcases hu with⟨rfl,_⟩|⟨_,b,c,el,cap,a1,rfl,a3,a4,a5,a6⟩
   .simp at he
   .have hlen:=pd bQ;have hle:es.length*s<=cap*s:=ay4 s a4
    have eR:b<w'.heap.size:=by
     rcases aCO b w'.heap.size with aj|u_
     .exact aj
     .rw[aAw u_]at a3;cases a3
    have bG:=cK Z Y.n 0 ⟨b,es.length*s,c.size⟩;have h_:∀e,Z Y.n e=ah:=hi.fresh Y.n (ayA _) (by simp only[St.kB]at hN;omega)
    obtain⟨g1,g2⟩:=hi.aoY (ro:=ro) (w':=w') (ob:=p8 es) (l:=⟨b,es.length*s,c.size⟩) (by simp only[St.kB]at hN;omega) h4 h5 h1 h2 h3 a1 eR (by
     refine⟨⟨ayA _,λe he=>?_⟩,⟨_,bG,hlen.symm⟩,λe e1 e2=>?_⟩
     .have:e≠0:=ai;simp[c_,this,h_]
     .have:e=0:=ai;subst this;refine⟨_,c,el,bG,by rw[hlen];exact ayA _,a3,rfl,λk x hk hx=>?_⟩;obtain⟨v,rfl,hv⟩:=a6 k x hx;exact⟨v,hv,.raw _⟩)
    exact⟨_,.sl Y.n 0 es.length ah 0 s ⟨b,es.length*s,c.size⟩ cap ⟨b,0,ah⟩ bG ax (by simpa using a5) hs a4 (λk hk=>by cases hk) (λ_=>rfl),g1,g2⟩
def aak(s:Nat)(es:List IV)(v:IV)(al:St):Prop:=
 (es=[]/\v=.raw (.slice ah 0 0))\/es≠[]/\∃id cs aB mn cap,al.at id=aa (.cells cs aB mn)/\mn<=aB/\v=.sl id 0 es.length cap aB s/\es.length*s<=cs.length/\
  ∀(k:Nat) (x:IV),(flat es)[k]?=aa x->∃u,x=.raw u/\cs[k]?=aa (.raw u)
theorem oC.Jz{s:Nat}{f:FuncId}{xs es:List IV}{RW:IV->St->Prop}(hs:0<s)(bQ:∀e∈es,(cellsOf e).length=s)(bu:∀c∈flat es,(∃v,c=.raw v)/\ao c=ab)(h:dM P N f xs ⟨0,.lf⟩ RW)(hc:∀v al,RW v al->aak s es v al):oC P s f xs es:=by
 refine⟨hs,bQ,bu,λM w us hM hr=>?_⟩;refine(h (fW M) us w (Iy hM) hr).mono λe w' hR=>?_;obtain⟨v,al,sW,hR⟩:=hR;cases e with
 |panicked ch=>exact hR.elim
 |outgrown=>exact hR.elim
 |returned u=>
  obtain⟨aJ,h1,h2,h3⟩:=hR;have sR:∀b,b<w.heap.size->w'.heap[b]?=w.heap[b]? :=λb hb=>h3.frame b hb λid ho=>(by obtain⟨_,_,h,_⟩:=ho;cases h);refine⟨⟨h3.os,h3.tape,h3.output,h3.size,sR⟩,?_⟩;rcases hc v al sW with⟨rfl,rfl⟩|⟨bt,id,cs,aB,mn,cap,a1,a2,rfl,a3,a4⟩
  .cases h1;exact .inl ⟨rfl,rfl⟩
  .obtain⟨_,_,o3⟩:=h2.obj id _ a1;obtain⟨l,c,el,b1,b2,b3,b4,b5⟩:=o3 aB a2 (ayA _);cases h1 with
   |sl _ _ _ _ _ _ l' Fl a hl hn jH br hle i_ ha=>
    rw[b1]at hl;cases hl;have tX:0<es.length:=List.length_pos_iff.2 bt
    have hb:w.heap.size<=l.b:=by
     rcases h3.own id l.b ⟨aB,l,b1,rfl⟩with ho|ho
     .obtain⟨_,_,h,_⟩:=ho;cases h
     .exact ho
    rw[ha ai];refine .inr ⟨bt,l.b,c,el,Fl,hb,rfl,b3,hle,by rw[<-b4];omega,λk x hx=>?_⟩;obtain⟨u,rfl,hu⟩:=a4 k x hx
    have hk:k<l.n:=by
     have:=(ayw.1 hx).1;rw[pd bQ]at this;omega
    obtain⟨y,hy,hr⟩:=b5 k _ hk hu;cases hr;exact⟨_,rfl,hy⟩
def aoZ(M:Fz)(w:World)(s:Nat)(es:List IV)(u:Value)(w':World):Prop:=
 (w'.os=w.os/\w'.tape=w.tape/\w'.output=w.output/\w.heap.size<=w'.heap.size/\∀b,b<w.heap.size->w'.heap[b]?=w.heap[b]?)/\
 ((es=[]/\u=.slice ah 0 0)\/
  es≠[]/\∃M' b c el cap,yh M' w'/\(∀b c,M' b=aa c->M b=aa c\/w.heap.size<=b)/\(∀b c,M b=aa c->M' b=aa c)/\M' b=ah/\
   w.heap.size<=b/\u=.slice (aa ⟨b,0,ah⟩) es.length cap/\w'.heap[b]?=aa (.cells c el (0,0))/\es.length<=cap/\cap*s<=c.size/\
   ∀(k:Nat) (x:IV),(flat es)[k]?=aa x->∃v,Rv (fW M') x v/\c[k]?=aa v)
def ao0(M:Fz)(w:World)(s:Nat)(es:List IV):Ending->World->Prop
 |.returned u,w'=>aoZ M w s es u w'
 |_,_=>False
def jY(P:Program)(s:Nat)(f:FuncId)(xs:List IV)(es:List IV):Prop:=
 0<s/\(∀e∈es,(cellsOf e).length=s)/\(∀c∈flat es,Pure c/\ao c=ab)/\∀M w us,yh M w->aG (fW M) xs us->CallsIn ay8 0 P f us.toArray w (ao0 M w s es)
theorem Inv.akV{w':World}{ob:Ob}{l:Loc}{M':Fz}(h:Inv N Z Y w)(hN:Y.n<N)(bf:w.heap.size<=w'.heap.size)(hold:∀b,b<w.heap.size->w'.heap[b]?=w.heap[b]?)
 (hM1:yh M' w')(Xt:∀b c,M' b=aa c->Z.m b=aa c\/w.heap.size<=b)(hM3:∀b c,Z.m b=aa c->M' b=aa c)(hM4:M' l.b=ah)
 (Aj:w'.os=w.os)(DG:w'.tape=w.tape)(DH:w'.output=w.output)(hl:w.heap.size<=l.b)(fC:l.b<w'.heap.size)(fT:lC ⟨(c_ Z Y.n 0 l).f,M'⟩ w' Y.n ob):
 Inv N ⟨(c_ Z Y.n 0 l).f,M'⟩ (Y.add ob) w'/\Le ro Z w Y ⟨(c_ Z Y.n 0 l).f,M'⟩ w' (Y.add ob):=by
 have h_:=h.fresh Y.n (ayA _) hN;have gI:Ext Z ⟨(c_ Z Y.n 0 l).f,M'⟩:=⟨(lx (h_ 0)).f,hM3⟩
 have jI:∀id b,Own (⟨(c_ Z Y.n 0 l).f,M'⟩:Io) id b->Own Z id b\/(id=Y.n/\b=l.b):=λid b hb=>by
  have o8:Own (c_ Z Y.n 0 l) id b:=hb;rcases nR o8 with hb|⟨h1,h2⟩
  .exact .inl hb
  .exact .inr ⟨h1,by omega⟩
 have pU:∀id,(Y.add ob).n<=id->id<N->∀e,(⟨(c_ Z Y.n 0 l).f,M'⟩:Io) id e=ah:=by
  intro id hid aj e;simp only[St.kB]at hid;have:id≠Y.n:=ai;show(c_ Z Y.n 0 l).f id e=ah;simp[c_,this,h.fresh id ai aj e]
 refine⟨⟨hM1,λb c id hb ho=>?_,λid b ho=>?_,pU,λi j b hi hj=>?_,λid o ho=>?_,λid hid=>?_⟩,?_⟩
 .rcases jI id b ho with ho|⟨_,rfl⟩
  .rcases Xt b c hb with hb|hb
   .exact h.sep b c id hb ho
   .have:=h.jy id b ho;omega
  .have o8:M' l.b=aa c:=hb;rw[hM4]at o8;cases o8
 .rcases jI id b ho with ho|⟨_,rfl⟩
  .exact az9 (h.jy id b ho) bf
  .exact fC
 .rcases jI i b hi with hi|⟨h1,h2⟩<;>rcases jI j b hj with hj|⟨h3,h4⟩
  .exact h.inj i j b hi hj
  .have:=h.jy i b hi;omega
  .have:=h.jy j b hj;omega
  .rw[h1,h3]
 .rw[St.gz]at ho;split at ho
  .rename_i hh;subst hh;cases ho;exact fT
  .rename_i bt
   have hon:∀e,(⟨(c_ Z Y.n 0 l).f,M'⟩:Io) id e=Z id e:=λe=>by
    show(c_ Z Y.n 0 l).f id e=Z id e;have:id≠Y.n:=λhc=>bt hc.symm;simp[c_,this]
   exact(h.obj id o ho).tV gI hon λb hb=>hold b (h.jy id b hb)
 .rw[St.kB]at hid;rw[St.gz,if_neg ai];exact h.wf id ai
 .refine⟨gI,λid b hb=>?_,λid hn hr e=>?_,λid hn hr=>?_,λid hr hn=>?_,by simp,Aj,DG,DH,bf,λb hb _=>hold b hb,Xt⟩
  .rcases jI id b hb with hb|⟨_,rfl⟩
   .exact .inl hb
   .exact .inr hl
  .simp only[St.kB]at hr;have:id≠Y.n:=ai;show(c_ Z Y.n 0 l).f id e=Z id e;simp[c_,this]
  .simp only[St.kB]at hr;have:id≠Y.n:=ai;rw[St.gz,if_neg (λhc=>this hc.symm),hn]
  .rw[St.gz,if_neg ai]
theorem jY.call{s:Nat}{f:FuncId}{args xs es:List IV}(h:jY P s f xs es)(hr:∀N Z us w,Inv N Z Y w->aG Z args us->aG (fW Z.m) xs us):
 jN P ro f args Y (s6 Y.n s es) (if es.isEmpty then Y else Y.add (p8 es)):=by
 obtain⟨hs,bQ,_,h⟩:=h;refine⟨by split<;>simp,λN hN Z us w hi o9=>?_⟩;refine(h Z.m w us hi.mem (hr N Z us w hi o9)).mono λe w' hR=>?_;cases e with
 |panicked ch=>exact hR.elim
 |outgrown=>exact hR.elim
 |returned u=>
  obtain⟨⟨h1,h2,h3,h4,h5⟩,hu⟩:=hR;by_cases he:es.isEmpty
  .rw[if_pos he]at hN⊢;obtain⟨aJ,g1,g2,g3⟩:=hi.Xs (ro:=ro) h4 h5 h1 h2 h3;refine⟨aJ,?_,g2,g3⟩;unfold s6;rw[if_pos he];rcases hu with⟨_,rfl⟩|⟨a0,_⟩
   .exact .raw _
   .exact absurd (az8.1 he) a0
  .rw[if_neg he]at hN⊢;unfold s6;rw[if_neg he];rcases hu with⟨rfl,_⟩|⟨_,M',b,c,el,cap,m1,m2,m3,m4,a1,rfl,a3,a4,a5,a6⟩
   .simp at he
   .have hlen:=pd bQ;have hle:es.length*s<=cap*s:=ay4 s a4
    have eR:b<w'.heap.size:=by
     rcases aCO b w'.heap.size with aj|u_
     .exact aj
     .rw[aAw u_]at a3;cases a3
    have bG:=cK Z Y.n 0 ⟨b,es.length*s,c.size⟩;have h_:∀e,Z Y.n e=ah:=hi.fresh Y.n (ayA _) (by simp only[St.kB]at hN;omega)
    obtain⟨g1,g2⟩:=hi.akV (ro:=ro) (w':=w') (ob:=p8 es) (l:=⟨b,es.length*s,c.size⟩) (M':=M') (by simp only[St.kB]at hN;omega) h4 h5 m1 m2 m3 m4 h1 h2 h3 a1 eR (by
     refine⟨⟨ayA _,λe he=>?_⟩,⟨_,bG,hlen.symm⟩,λe e1 e2=>?_⟩
     .have:e≠0:=ai;show(c_ Z Y.n 0 ⟨b,es.length*s,c.size⟩).f Y.n e=ah;simp[c_,this,h_]
     .have:e=0:=ai;subst this;refine⟨_,c,el,bG,by rw[hlen];exact ayA _,a3,rfl,λk x hk hx=>?_⟩;obtain⟨v,hr,hv⟩:=a6 k x hx;exact⟨v,hv,Rv.mono (Z:=fW M') (aJ:=⟨(c_ Z Y.n 0 ⟨b,es.length*s,c.size⟩).f,M'⟩) ⟨λ_ _ _ h=>(by cases h),λ_ _ h=>h⟩ hr⟩)
    exact⟨⟨(c_ Z Y.n 0 ⟨b,es.length*s,c.size⟩).f,M'⟩,.sl Y.n 0 es.length ah 0 s ⟨b,es.length*s,c.size⟩ cap ⟨b,0,ah⟩ bG ax (by simpa using a5) hs a4 (λk hk=>by cases hk) (λ_=>rfl),g1,g2⟩
def Rt(s:Nat)(es:List IV)(v:IV)(al:St):Prop:=
 (es=[]/\v=.raw (.slice ah 0 0))\/es≠[]/\∃(R:Rs) (id:Nat) (cs:List IV) (aB mn:Nat) (cap:Option Nat),R id=ah/\al.at id=aa (.cells cs aB mn)/\mn<=aB/\v=.sl id 0 es.length cap aB s/\es.length*s<=cs.length/\
  ∀(k:Nat) (x:IV),(flat es)[k]?=aa x->∃y,cs[k]?=aa y/\bD ab R al y x
end
section
variable{Cx:Cs}
variable{P:Program}{N:Nat}{Y al:St}{R R':Rs}{X aN:Ph}{E:Nat->Env}{G:List IV}{ro:Nat}{Z:Io}{w:World}
variable{C:Cr}{Q:IV->Prop}{K:List (List IV->Prop)}{V:SS}{d:Nat}{o:Oper}{k:PV SE->SS->ak}{L:List (LO SE)}{Γ:Gm SE}
theorem Xu{fr:Bool}{x z:IV}(hi:(λ(_:Nat)=>(ah:Option Nat))=R)(LL:Y=⟨0,.lf⟩)(h:bD fr R Y x z):∀{u:Value},Rv Z x u->Rv (fW Z.m) z u:=by
 induction h with
 |raw v=>intro u h;cases h;exact .raw v
 |nil s hs=>intro u h;cases h;exact .eu s ah 0 hs (λ_=>rfl)
 |emp s hs=>intro u h;cases h;exact .eu s _ 0 hs (λh=>by cases h)
 |dR t x y _ ih=>intro u h;cases h with|dR _ _ v hh=>exact .dR t y v (ih hh)
 |agg cs ds hl _ ih=>
  intro u h;cases h with
  |agg _ vs cH hh=>
   refine .agg ds vs (hl▸cH) λi d v h1 h2=>?_;have cX:i<cs.length:=by have:=(ayw.1 h1).1;omega
   exact ih i _ d (ayv cX) h1 (hh i _ v (ayv cX) h2)
 |aL cs ds hl _ ih=>
  intro u h;cases h with
  |aL _ vs cH hh=>
   refine .aL ds vs (hl▸cH) λi d v h1 h2=>?_;have cX:i<cs.length:=by have:=(ayw.1 h1).1;omega
   exact ih i _ d (ayv cX) h1 (hh i _ v (ayv cX) h2)
 |pure x hf hp=>intro u h;exact hp.rv h (λ_ _ h=>h)
 |sl id off len cap ep s m cs aB mn es hR=>rw[<-hi]at hR;cases hR
theorem dX.Ru{f:FuncId}{args xs:List IV}{z:IV}(h:dX P af af f xs z)(hc:All2 jj args xs):jN P ro f args Y z Y:=by
 refine⟨ayA _,λN hN Z us w hi hr=>?_⟩
 have uC:aG (fW Z.m) xs us:=⟨hc.len▸hr.1,λi c v h1 h2=>by
  have cX:i<args.length:=by have:=(ayw.1 h1).1;rw[hc.len];exact this
  exact Xu rfl rfl (hc.get (ayv cX) h1) (hr.2 i _ v (ayv cX) h2)⟩
 refine(h Z.m w us hi.mem uC).mono λe w' hR=>?_;cases e with
 |returned u=>exact Nr hi (λ_ _ _=>Iff.rfl) hR.2
 |panicked ch=>exact absurd hR.1 ax
 |outgrown=>exact hR.elim
theorem oC.Rc{s:Nat}{f:FuncId}{args xs es:List IV}(h:oC P s f xs es)(hc:Ns ab Y args xs):jN P ro f args Y (s6 Y.n s es) (if es.isEmpty then Y else Y.add (p8 es)):=
 h.call λ_ _ _ w hi hr=>⟨allM w,Nt,hc.rv hi hr⟩
theorem jY.Ru{s:Nat}{f:FuncId}{args xs es:List IV}(h:jY P s f xs es)(hc:All2 jj args xs):jN P ro f args Y (s6 Y.n s es) (if es.isEmpty then Y else Y.add (p8 es)):=
 h.call λ_ _ _ _ hi hr=>⟨hc.len▸hr.1,λi c v h1 h2=>by
  have cX:i<args.length:=by have:=(ayw.1 h1).1;rw[hc.len];exact this
  exact Xu rfl rfl (hc.get (ayv cX) h1) (hr.2 i _ v (ayv cX) h2)⟩
def Rw(n:Nat):IV->Bool
 |.aL vs=>vs.length==n
 |_=>af
def mK(P:Program)(f:FuncId)(z:IV):Bool:=
 match P.funcs[f]? with
 |some fn=>fn.resultTypes.size==1||Rw fn.resultTypes.size z
 |none=>af
def jK(P:Program)(C:Cr):Prop:=∀f new xs z,C f new xs z->(f<P.funcs.size->dX P af new f xs z/\Pure z/\mK P f z=ab)/\
 (∀g,g<P.funcs.size->f=P.funcs.size+g->∃s es yd aQ,xs=.tree s es::yd/\z=.tree s aQ/\Fo P s g es yd aQ)/\
 (∀g,g<P.funcs.size->f=2*P.funcs.size+g->∃ins yd outs z0,xs=.agg (ins.map IV.agg)::yd/\z=.aL (z0::outs.map IV.agg)/\outs.map azg=ins.map azg/\(∀cs∈outs,∀u∈cs,ao u=ab)/\Fp P g ins yd outs z0)/\
 (∀g,g<P.funcs.size->f=3*P.funcs.size+g->∃t:Nat,xs=[.int t]/\Hn P g t)/\
 (∀g,g<P.funcs.size->f=4*P.funcs.size+g->∃es,z=.tree (bY P g) es/\oC P (bY P g) g xs es)/\
 ∀g,g<P.funcs.size->f=7*P.funcs.size+g->∃es,z=.tree (bY P g) es/\jY P (bY P g) g xs es
theorem Qc{c:Cl SE}{fr:Bool}{z:SE}{V':SS}(hp:wQ [c]=ab)(hr:yZ V c=aa (fr,z,V')){x:IV}(hx:cZ (ay P G) R X V.l Y x c):∃y,z.den P G=aa y/\jj x y:=by
 cases c<;>simp only[wQ]at hp<;>try (cases hp;done)
 .simp only[yZ,ayB,ay7]at hr;obtain⟨rfl,rfl,rfl⟩:=hr;obtain⟨y,h1,h2,_⟩:=hx;exact⟨y,h1,h2⟩
 .rename_i b s;simp only[yZ,ayB,ay7]at hr;obtain⟨rfl,rfl,rfl⟩:=hr;obtain⟨h1,rfl⟩:=hx;refine⟨.tree s [],by simp[SE.den,h1],?_⟩;cases b
  .exact .emp s h1
  .exact .nil s h1
theorem Qd{c:Cl SE}{fr:Bool}{z:SE}{V':SS}(hp:wQ [c]=ab)(hr:yZ V c=aa (fr,z,V')):V'=V:=by
 cases c<;>simp only[wQ]at hp<;>try (cases hp;done)
 all_goals
  simp only[yZ,ayB,ay7]at hr;exact hr.2.2.symm
theorem ack{c:Cl SE}{cs:List (Cl SE)}(h:wQ (c::cs)=ab):wQ [c]=ab/\wQ cs=ab:=by
 cases c<;>simp only[wQ]at h⊢<;>first|(cases h;done)|exact⟨trivial,h⟩
theorem Mb:∀{cs:List (Cl SE)} {fr:Bool} {zs:List SE} {V':SS},wQ cs=ab->wP V cs=aa (fr,zs,V')->V'=V/\∀{xs:List IV},All2 (cZ (ay P G) R X V.l Y) xs cs->∃ys,All2 (λ(z:SE) y=>z.den P G=aa y) zs ys/\All2 jj xs ys
 |[],fr,zs,V',_,hr=>by
  simp only[wP,ayB,ay7]at hr;obtain⟨rfl,rfl,rfl⟩:=hr;refine⟨rfl,λ{xs} hx=>?_⟩;cases xs with
  |nil=>exact⟨[],trivial,trivial⟩
  |cons=>exact hx.elim
 |c::cs,fr,zs,V',hp,hr=>by
  obtain⟨h1,h2⟩:=ack hp;simp only[wP]at hr;split at hr
  .rename_i f1 z V1 vK;have e0:=Qd h1 vK;rw[e0]at hr;split at hr
   .rename_i f2 zs' V2 TE;simp only[ayB,ay7]at hr;obtain⟨rfl,rfl,rfl⟩:=hr;obtain⟨rfl,h3⟩:=Mb h2 TE;refine⟨rfl,λ{xs} hx=>?_⟩;cases xs with
    |nil=>exact hx.elim
    |cons x xs=>
     obtain⟨y,a1,a2⟩:=Qc h1 vK hx.1;obtain⟨ys,b1,b2⟩:=h3 hx.2;exact⟨y::ys,⟨a1,b1⟩,⟨a2,b2⟩⟩
   .cases hr
  .cases hr
theorem NY{V':SS}{pv:PV SE}{fr:Bool}{z:SE}(h:J Cx (ay P G) R X V.g V.l E Y)(hr:vy V pv=aa (fr,z,V'))(ht:∀vs,pv≠.tu vs):
 ∃R',jO P G R X V Y R' V'/\J Cx (ay P G) R' X V'.g V'.l E Y/\∀x,VR (ay P G) R X V.l Y x pv->∃y,z.den P G=aa y/\bD fr R' Y x y:=by
 cases pv with
 |one c=>
  obtain⟨R',h1,h2,h3⟩:=HB h hr;exact⟨R',h1,h2,λx hx=>by obtain⟨y,a,b,_⟩:=h3 x hx;exact⟨y,a,b⟩⟩
 |ag cs=>
  simp only[vy]at hr;split at hr
  .rename_i f zs V1 vK;simp only[ayB,ay7]at hr;obtain⟨rfl,rfl,rfl⟩:=hr;obtain⟨R',h1,h2,_,h3⟩:=z_ h vK;refine⟨R',h1,h2,λx hx=>?_⟩;obtain⟨xs,rfl,sb⟩:=hx;obtain⟨ys,a,b,_⟩:=h3 xs sb;exact⟨.agg ys,fJ a,.agg xs ys b.len λi c e h1 h2=>b.get h1 h2⟩
  .cases hr
 |tu vs=>exact absurd rfl (ht vs)
theorem aal{V':SS}{pv:PV SE}{fr:Bool}{z:SE}(hp:na pv=ab)(hr:vy V pv=aa (fr,z,V')):V'=V/\∀{x:IV},VR (ay P G) R X V.l Y x pv->∃y,z.den P G=aa y/\jj x y:=by
 cases pv with
 |one c=>exact⟨Qd hp hr,λ{x} hx=>Qc hp hr hx⟩
 |ag cs=>
  simp only[vy]at hr;split at hr
  .rename_i f zs V1 vK;simp only[ayB,ay7]at hr;obtain⟨rfl,rfl,rfl⟩:=hr;obtain⟨h1,h2⟩:=Mb (P:=P) (G:=G) (R:=R) (X:=X) (Y:=Y) hp vK;refine⟨h1,λ{x} hx=>?_⟩;obtain⟨xs,rfl,sb⟩:=hx;obtain⟨ys,a,b⟩:=h2 sb;exact⟨.agg ys,fJ a,.agg xs ys b.len λi c e h1 h2=>b.get h1 h2⟩
  .cases hr
 |tu vs=>cases hp
theorem NZ:∀{c8:List (PV SE)} {V V':SS} {R:Rs} {zs:List SE},J Cx (ay P G) R X V.g V.l E Y->wV V c8=aa (zs,V')->Ky c8=ab->
 ∃R',jO P G R X V Y R' V'/\J Cx (ay P G) R' X V'.g V'.l E Y/\∀xs,All2 (VR (ay P G) R X V.l Y) xs c8->∃ys,All2 (λ(z:SE) y=>z.den P G=aa y) zs ys/\All2 (bD ab R' Y) xs ys
 |[],V,V',R,zs,h,hr,_=>by
  simp only[wV,ayB,ay7]at hr;obtain⟨rfl,rfl⟩:=hr;refine⟨R,.refl h,h,λxs hx=>?_⟩;cases xs with
  |nil=>exact⟨[],trivial,trivial⟩
  |cons=>exact hx.elim
 |pv::c8,V,V',R,zs,h,hr,ht=>by
  have ht':(∀vs,pv≠.tu vs)/\Ky c8=ab:=by
   cases pv<;>simp_all[Ky]
  simp only[wV]at hr;split at hr
  .rename_i f z V1 vK;split at hr
   .rename_i zs' V2 TE;simp only[ayB,ay7]at hr;obtain⟨rfl,rfl⟩:=hr;obtain⟨R1,a1,a2,a3⟩:=NY h vK ht'.1;obtain⟨R2,b1,b2,b3⟩:=NZ a2 TE ht'.2;refine⟨R2,a1.trans b1,b2,λxs hx=>?_⟩;cases xs with
    |nil=>exact hx.elim
    |cons x xs=>
     obtain⟨y,c1,c2⟩:=a3 x hx.1;obtain⟨ys,d1,d2⟩:=b3 xs (hx.2.mono λ_ _ cn=>a1.vr cn);exact⟨y::ys,⟨c1,d1⟩,⟨(c2.mono b1.2.2.2.grow).cP,d2⟩⟩
   .cases hr
  .cases hr
theorem rz:∀{c8:List (PV SE)} {V':SS} {zs:List SE},wV V c8=aa (zs,V')->c8.all na=ab->
 V'=V/\∀{xs:List IV},All2 (VR (ay P G) R X V.l Y) xs c8->∃ys,All2 (λ(z:SE) y=>z.den P G=aa y) zs ys/\All2 jj xs ys
 |[],V',zs,hr,_=>by
  simp only[wV,ayB,ay7]at hr;obtain⟨rfl,rfl⟩:=hr;refine⟨rfl,λ{xs} hx=>?_⟩;cases xs with
  |nil=>exact⟨[],trivial,trivial⟩
  |cons=>exact hx.elim
 |pv::c8,V',zs,hr,hp=>by
  simp only[List.all_cons,ayz]at hp;simp only[wV]at hr;split at hr
  .rename_i f z V1 vK;obtain⟨e1,a1⟩:=aal (P:=P) (G:=G) (R:=R) (X:=X) (Y:=Y) hp.1 vK;rw[e1]at hr;split at hr
   .rename_i zs' V2 TE;simp only[ayB,ay7]at hr;obtain⟨rfl,rfl⟩:=hr;obtain⟨e2,b1⟩:=rz TE hp.2;refine⟨e2,λ{xs} hx=>?_⟩;cases xs with
    |nil=>exact hx.elim
    |cons x xs=>
     obtain⟨y,c1,c2⟩:=a1 hx.1;obtain⟨ys,d1,d2⟩:=b1 hx.2;exact⟨y::ys,⟨c1,d1⟩,⟨c2,d2⟩⟩
   .cases hr
  .cases hr
theorem HJ{t:TypeId}{e:SE}{z:IV}{f:ak}(hz:e.den P G=aa z)(hp:Pure z)(hs:(tj P t e f).sat P C Q K G):f.sat P C Q K G/\VR (ay P G) R X L Y z (ofType P t e)/\wA (ay P G) R X L Y z (isAgg P t,ft (ofType P t e)):=by
 unfold tj at hs;unfold ofType;by_cases ha:isAgg P t=ab
 .rw[if_pos ha]at hs;obtain⟨⟨y,hy⟩,hk⟩:=hs;simp only[SE.den,hz,ayx]at hy;split at hy
  .rename_i cs;split at hy
   .rename_i hc
    have cb:All2 (cZ (ay P G) R X L Y) cs ((azR ((aS P t).getD 0)).map λj=>Cl.v (SE.bC e j)):=by
     refine .mk (by simp[hc.1]) λi a b h1 h2=>?_;have hi:=(ayw.1 h1).1;rw[ayR,aAO ai]at h2;simp only[ay_,ayB]at h2;subst h2;have bu:Ev.ao a=ab:=(ayP.1 hc.2) a (ayM h1);have kR:Pure a:=by cases hp with|agg _ hh=>exact hh a (ayM h1)
     exact⟨a,by simp[ay,SE.den,hz,h1,yr,bu],.pure a rfl kR,bu⟩
    simp only[ha,if_true];exact⟨hk,⟨cs,rfl,cb⟩,by simp only[wA,if_true,ft];exact⟨cs,rfl,cb⟩⟩
   .cases hy
  .cases hy
 .rw[if_neg ha]at hs;obtain⟨⟨y,hy⟩,hk⟩:=hs;obtain⟨h1,h2⟩:=vF hy;rw[hz]at h1;cases h1;have hv:cZ (ay P G) R X L Y z (.v (.ok e)):=⟨z,hy,.pure z rfl hp,h2⟩;rw[if_neg ha];refine⟨hk,hv,?_⟩;simp only[wA,ft];rw[if_neg (by simpa using ha)];exact⟨_,rfl,hv⟩
theorem Mc{e:SE}{vs:List IV}{f:ak}(hz:e.den P G=aa (.aL vs))(hp:∀v∈vs,Pure v):∀{ts:List TypeId} {j:Nat},(SZ P e j ts f).sat P C Q K G->j+ts.length=vs.length->f.sat P C Q K G/\All2 (wA (ay P G) R X L Y) (vs.drop j) (NC P e j ts)
 |[],j,hs,hl=>by
  simp at hl;rw[List.drop_of_length_le ai];exact⟨hs,trivial⟩
 |t::ts,j,hs,hl=>by
  simp at hl;have hj:j<vs.length:=ai;have hd:(SE.proj e j).den P G=aa vs[j]:=by simp[SE.den,hz,hj]
  obtain⟨h1,_,h3⟩:=HJ (R:=R) (X:=X) (L:=L) (Y:=Y) hd (hp _ (ayy hj)) hs;obtain⟨h4,h5⟩:=Mc hz hp h1 ai;refine⟨h4,?_⟩;rw[List.drop_eq_getElem_cons hj];exact⟨h3,h5⟩
theorem ae1{fn:Func}{e:SE}{z:IV}(hz:e.den P G=aa z)(hp:Pure z)(ht:fn.resultTypes.size≠1->Rw fn.resultTypes.size z=ab)(hs:(Rn P fn V e k).sat P C Q K G):∃pv,(k pv V).sat P C Q K G/\VR (ay P G) R X L Y z pv:=by
 unfold Rn at hs;split at hs
 .rename_i t _;obtain⟨h1,h2,_⟩:=HJ (R:=R) (X:=X) (L:=L) (Y:=Y) hz hp hs;exact⟨_,h1,h2⟩
 .rename_i hn
  have bf:fn.resultTypes.size≠1:=by
   intro h;have:fn.resultTypes.toList.length=1:=by simpa using h
   obtain⟨t,ht⟩:=List.length_eq_one_iff.1 this;exact hn t ht
  have:=ht bf;unfold Rw at this;split at this
  .rename_i vs;have hl:vs.length=fn.resultTypes.size:=by simpa using this
   obtain⟨h1,h2⟩:=Mc (R:=R) (X:=X) (L:=L) (Y:=Y) (j:=0) hz (λv hv=>by cases hp with|aL _ hh=>exact hh v hv) hs (by simp[hl]);exact⟨_,h1,vs,rfl,by simpa using h2⟩
  .cases this
end
section
variable{Cx:Cs}
variable{P:Program}{N:Nat}{Y al:St}{R R':Rs}{X aN:Ph}{E:Nat->Env}{G:List IV}{ro:Nat}{Z:Io}{w:World}{cfg:eS}{self:m8}
variable{C:Cr}{Q:IV->Prop}{K:List (List IV->Prop)}{V:SS}{d f0:Nat}{o:Oper}{k:PV SE->SS->ak}{L:List (LO SE)}{Γ:Gm SE}
theorem akW{ys:List IV}{bs:List (Nat×Nat)}(h:All2 (λy (p:Nat×Nat)=>∃id cs,X p.1=aa id/\L[p.1]?=aa (.var cs)/\y=.ptr id 0 0 p.2) ys bs):All2 (VR (ay P G) R X L Y) ys (bs.map λ(p:Nat×Nat)=>.one (.pt p.1 0 p.2)):=
 h.map (f:=λ(p:Nat×Nat)=>PV.one (Cl.pt p.1 0 p.2)) λ_ _ h=>h
theorem nw{x:IV}{g:FuncId}{bs:List (Nat×Nat)}{args:List IV}{fn:Func}(hx:VR (ay P G) R X L Y x (.one (.fn g bs)))(cL:P.funcs[g]?=aa fn)(hb:fn.body.isSome=ab)(oD:(fn.name != "runtime.NumGoroutine")=ab):
 ∃ys,gT P x args=aa (.enter g (args++ys))/\All2 (VR (ay P G) R X L Y) ys (bs.map λ(p:Nat×Nat)=>.one (.pt p.1 0 p.2)):=by
 rcases hx with⟨rfl,rfl⟩|⟨ys,rfl,h⟩
 .refine⟨[],?_,trivial⟩;simp only[gT,cL,hb,oD,Array.size_empty,ayO];simp
 .refine⟨ys,?_,akW h⟩;simp only[gT,cL,hb,oD,azl,Bool.and_self,if_true]
theorem Xv{xs ys:List IV}(h:All2 (bD ab R Y) xs ys):Ns ab Y xs ys:=⟨h.len,λ_ _ _ h1 h2=>(h.get h1 h2).can⟩
def auk(Cx:Cs)(P:Program)(C:Cr)(Q:IV->Prop)(K:List (List IV->Prop))(G:List IV)(E:Nat->Env)(lv:Nat×Nat)(k:PV SE->SS->ak)(X:Ph)(Y:St)(res:FuncId->List IV->Prop):Prop:=
 ∃g args z R1 pv V1 I,res g args/\(∀ro,jN P ro g args Y z Y)/\J Cx (ay P (G++I)) R1 X V1.g V1.l E Y/\VR (ay P (G++I)) R1 X V1.l Y z pv/\(G++I).length=V1.n/\V1.ln=lv/\(k pv V1).sat P C Q K (G++I)
theorem TF(hC:jK P C)(hJ:J Cx (ay P G) R X V.g V.l E Y)(hn:G.length=V.n){c:Call}{f:Operand}{g:FuncId}(ho:o.op=.call c)(hc:c.callee=.value f)(hf:cg P d V 0 f=.one (.fn g [])){zs:List SE}{V':SS}{fn:Func}
 (hr:wV V (kF P d V c.args.toList c.argTypes.toList)=aa (zs,V'))(cL:P.funcs[g]?=aa fn)(hb:fn.body.isSome=ab)(oD:(fn.name != "runtime.NumGoroutine")=ab)(ht:Ky (kF P d V c.args.toList c.argTypes.toList)=ab)
 (hs:(ak.call g (!(kF P d V c.args.toList c.argTypes.toList).all na) (fa zs) (Rn P fn {V' with n:=V'.n+1} (.var V'.n) k)).sat P C Q K G):
 auk Cx P C Q K G E V.ln k X Y (λg args=>aA P 0 (aC (E d)) o Y=aa (.enter g args)):=by
 obtain⟨xs,z,h1,h2,h3⟩:=hs;obtain⟨jW,hpz,htu⟩:=(hC _ _ _ _ h2).1 (azj.1 cL).1;have bE:=jm hJ d c.args.toList c.argTypes.toList;have sq:=bF hJ d 0 f;rw[hf]at sq;obtain⟨ys,kO,uS⟩:=nw (args:=c.args.toList.map (aC (E d))) sq cL hb oD
 have KL:ys=[]:=by
  cases ys with
  |nil=>rfl
  |cons=>exact uS.elim
 subst KL;rw[ayO]at kO
 have fD:aA P 0 (aC (E d)) o Y=aa (.enter g (c.args.toList.map (aC (E d)))):=by
  simp only[aA,ho,hc];exact kO
 have aul:fn.resultTypes.size≠1->Rw fn.resultTypes.size z=ab:=by
  intro bt;unfold mK at htu;rw[cL]at htu;simp only[azf,beq_iff_eq]at htu;exact htu.resolve_left bt
 have nX:∀{us:List IV},All2 (λ(z:SE) y=>z.den P G=aa y) zs us->xs=us:=by
  intro us hu;unfold lQ at h1;rw[fJ hu]at h1;cases h1;rfl
 obtain⟨R1,bI,bR,fg⟩:=NZ hJ hr ht;obtain⟨us,b1,b2⟩:=fg _ bE;have pc:=nX b1;subst pc
 have akX:∀ro,jN P ro g (c.args.toList.map (aC (E d))) Y z Y:=by
  intro ro;by_cases cb:(kF P d V c.args.toList c.argTypes.toList).all na=ab
  .rw[cb]at jW;obtain⟨_,ir⟩:=rz (P:=P) (G:=G) (R:=R) (X:=X) (Y:=Y) hr cb;obtain⟨r_,c1,c2⟩:=ir bE;have:=nX c1;subst this;exact dX.Ru jW c2
  .have hf:(kF P d V c.args.toList c.argTypes.toList).all na=af:=by simpa using cb
   rw[hf]at jW;exact dX.Rc jW (Xv b2)
 have eC:G.length=V'.n:=by rw[hn,bI.2.1]
 have fE:=bR.up (jX:=ay P (G++[z])) (λe y h=>SE.dN P e h);have mz:(SE.var V'.n).den P (G++[z])=aa z:=by simp[SE.den,<-eC]
 obtain⟨pv,hk,hv⟩:=ae1 (R:=R1) (X:=X) (L:=V'.l) (Y:=Y) mz hpz aul h3;exact⟨g,_,z,R1,pv,{V' with n:=V'.n+1},[z],fD,akX,fE,hv,by simp[eC],bI.2.2.1,hk⟩
theorem JM{HK:Bool}{c:Call}{g:FuncId}{es:List IV}{V':SS}{R1:Rs}(hn:G.length=V.n)(bI:jO P G R X V Y R1 V')(l_:J Cx (ay P G) R1 X V'.g V'.l E Y)
 (fD:aA P 0 (aC (E d)) o Y=aa (.enter g (c.args.toList.map (aC (E d)))))(uR:∀ro,jN P ro g (c.args.toList.map (aC (E d))) Y (s6 Y.n (bY P g) es) (if es.isEmpty then Y else Y.add (p8 es)))
 (cm:0<bY P g)(bQ:∀e∈es,(cellsOf e).length=bY P g)(bu:∀c∈flat es,(∀(R:Rs) (Y:St),bD HK R Y c c)/\ao c=ab)
 (h3:(k (.one (.sr V'.l.length)) {V' with n:=V'.n+1,l:=V'.l++[.row (bY P g) af af HK (.var V'.n)]}).sat P C Q K (G++[IV.tree (bY P g) es])):
 ∃args v au R1 dV pv V1 I,aA P 0 (aC (E d)) o Y=aa (.enter g args)/\(∀ro,jN P ro g args Y v au)/\(au=Y\/∃ob,au=Y.add ob)/\J Cx (ay P (G++I)) R1 dV V1.g V1.l E au/\VR (ay P (G++I)) R1 dV V1.l au v pv/\(G++I).length=V1.n/\V1.ln=V.ln/\(k pv V1).sat P C Q K (G++I):=by
 have eC:G.length=V'.n:=by rw[hn,bI.2.1]
 have bR:=l_.up (jX:=ay P (G++[IV.tree (bY P g) es])) (λe y h=>SE.dN P e h);have mz:(SE.var V'.n).den P (G++[IV.tree (bY P g) es])=aa (.tree (bY P g) es):=by simp[SE.den,<-eC]
 have oA:(V'.l++[LO.row (bY P g) af af HK (SE.var V'.n)])[V'.l.length]?=aa (.row (bY P g) af af HK (.var V'.n)):=by simp
 by_cases he:es.isEmpty
 .have jb:=az8.1 he;subst jb;refine⟨_,_,_,R1,X,.one (.sr V'.l.length),{V' with n:=V'.n+1,l:=V'.l++[.row (bY P g) af af HK (.var V'.n)]},[.tree (bY P g) []],fD,uR,.inl rfl,?_,?_,by simp[eC],bI.2.2.1,h3⟩
  .exact(bR.Aa (fr:=HK) cm mz).2
  .exact⟨bY P g,af,af,HK,_,[],oA,mz,.inl ⟨w6 l_ (ayA _),rfl,.inl rfl⟩⟩
 .have hif:(if es.isEmpty then Y else Y.add (p8 es))=Y.add (p8 es):=if_neg he;have sq:s6 Y.n (bY P g) es=.sl Y.n 0 es.length ah 0 (bY P g):=if_neg he;have hlen:=pd bQ;refine⟨_,_,_,R1,cA X V'.l.length Y.n,.one (.sr V'.l.length),{V' with n:=V'.n+1,l:=V'.l++[.row (bY P g) af af HK (.var V'.n)]},[.tree (bY P g) es],fD,uR,.inr ⟨_,hif⟩,?_,?_,by simp[eC],bI.2.2.1,h3⟩
  .rw[hif];refine bR.AB (p8 es) _ ⟨cm,es,mz,bQ,.inr ⟨Y.n,flat es,0,0,by simp[cA],by simp[p8],ayA _,by rw[hlen];exact ayA _,?_,ayP.2 λc hc=>(bu c hc).2,λj x d hx hd=>?_⟩⟩
   .cases hR:R1 Y.n with
    |none=>rfl
    |some m=>exact absurd (l_.qO _ _ hR) (Nat.lt_irrefl _)
   .rw[hx]at hd;cases hd;exact bu x (ayM hx)|>.1 _ _
  .rw[hif,sq];exact⟨bY P g,af,af,HK,_,es,oA,mz,.inr ⟨Y.n,flat es,0,0,ah,by simp[cA],by simp[p8],by simp,azi _,λ_ _=>hlen.symm,λc hc=>by cases hc⟩⟩
theorem Qe(hC:jK P C)(hJ:J Cx (ay P G) R X V.g V.l E Y)(hn:G.length=V.n){c:Call}{f:Operand}{g:FuncId}(ho:o.op=.call c)(hc:c.callee=.value f)(hf:cg P d V 0 f=.one (.fn g []))
 (hs:(S8 P g (kF P d V c.args.toList c.argTypes.toList) V k).sat P C Q K G):
 ∃args v au R1 dV pv V1 I,aA P 0 (aC (E d)) o Y=aa (.enter g args)/\(∀ro,jN P ro g args Y v au)/\(au=Y\/∃ob,au=Y.add ob)/\J Cx (ay P (G++I)) R1 dV V1.g V1.l E au/\VR (ay P (G++I)) R1 dV V1.l au v pv/\(G++I).length=V1.n/\V1.ln=V.ln/\(k pv V1).sat P C Q K (G++I):=by
 unfold S8 at hs;split at hs<;>try exact hs.elim
 rename_i zs V' fn hr cL;split at hs<;>try exact hs.elim
 rename_i cF;simp only[ayz]at cF;obtain⟨ht,hb,oD⟩:=cF;have bE:=jm hJ d c.args.toList c.argTypes.toList;have sq:=bF hJ d 0 f;rw[hf]at sq;obtain⟨ys,kO,uS⟩:=nw (args:=c.args.toList.map (aC (E d))) sq cL hb oD
 have KL:ys=[]:=by
  cases ys with
  |nil=>rfl
  |cons=>exact uS.elim
 subst KL;rw[ayO]at kO
 have fD:aA P 0 (aC (E d)) o Y=aa (.enter g (c.args.toList.map (aC (E d)))):=by
  simp only[aA,ho,hc];exact kO
 obtain⟨R1,bI,l_,fg⟩:=NZ hJ hr ht;obtain⟨us,c1,c2⟩:=fg _ bE;split at hs
 .split at hs<;>try exact hs.elim
  rename_i cb;obtain⟨xs,z,h1,h2,h3⟩:=hs;obtain⟨es,rfl,GD⟩:=(hC _ _ _ _ h2).2.2.2.2.2 g (azj.1 cL).1 rfl;obtain⟨_,ir⟩:=rz (P:=P) (G:=G) (R:=R) (X:=X) (Y:=Y) hr cb;obtain⟨r_,d1,d2⟩:=ir bE
  have pc:xs=r_:=by
   unfold lQ at h1;rw[fJ d1]at h1;cases h1;rfl
  subst pc;exact JM (HK:=ab) hn bI l_ fD (λro=>GD.Ru (ro:=ro) (Y:=Y) d2) GD.1 GD.2.1 (λc hc=>⟨λ_ _=>.pure c rfl (GD.2.2.1 c hc).1,(GD.2.2.1 c hc).2⟩) h3
 obtain⟨xs,z,h1,h2,h3⟩:=hs;obtain⟨es,rfl,GD⟩:=(hC _ _ _ _ h2).2.2.2.2.1 g (azj.1 cL).1 rfl
 have pc:xs=us:=by
  unfold lQ at h1;rw[fJ c1]at h1;cases h1;rfl
 subst pc
 exact JM (HK:=af) hn bI l_ fD (λro=>GD.Rc (ro:=ro) (Y:=Y) (Xv c2)) GD.1 GD.2.1 (λc hc=>by
  obtain⟨⟨v,rfl⟩,h2⟩:=GD.2.2.1 c hc;exact⟨λ_ _=>.raw _,h2⟩) h3
theorem fc(e:Env)(dst:Option Nat)(x:IV):(e.put dst x).n=e.n:=by simp[Env.ng]
theorem Fq{V1:SS}{x:IV}{pv:PV SE}{dst:Option Nat}(hJ:J Cx (ay P G) R X V1.g V1.l E Y)(hx:VR (ay P G) R X V1.l Y x pv)(hd:∀t,dst=aa t->t<(E d).n):J Cx (ay P G) R X (V1.cy d dst pv).g (V1.cy d dst pv).l (ly E d ((E d).put dst x)) Y:=by
 cases dst with
 |none=>exact hJ.ZE (Jy:=V1.g) d ah x (λt h=>by cases h) (λ_=>rfl)
 |some t=>exact hJ.put d (hd t rfl) hx
theorem Fs{V1:SS}{x:IV}{dst:Option Nat}(hJ:J Cx (ay P G) R X V1.g V1.l E Y):J Cx (ay P G) R X (V1.lj d dst).g (V1.lj d dst).l (ly E d ((E d).put dst x)) Y:=by
 cases dst with
 |none=>exact hJ.ZE (Jy:=V1.g) d ah x (λt h=>by cases h) (λ_=>rfl)
 |some t=>exact hJ.ZE (Jy:=E4 d t V1.g) d (aa t) x (λt' h=>by cases h;rfl) (λh=>by cases h)
@[simp] theorem HL(V1:SS)(dst:Option Nat)(pv:PV SE):(V1.cy d dst pv).n=V1.n:=by cases dst<;>rfl
@[simp] theorem aam(V1:SS)(dst:Option Nat)(pv:PV SE):(V1.cy d dst pv).ln=V1.ln:=by cases dst<;>rfl
@[simp] theorem atM(V1:SS)(dst:Option Nat)(pv:PV SE):(V1.cy d dst pv).l=V1.l:=by cases dst<;>rfl
@[simp] theorem HM(V1:SS)(dst:Option Nat):(V1.lj d dst).n=V1.n:=by cases dst<;>rfl
@[simp] theorem Ft(V1:SS)(dst:Option Nat):(V1.lj d dst).ln=V1.ln:=by cases dst<;>rfl
theorem J.refine(hJ:J Cx (ay P G) R X V.g V.l E Y){t:Nat}{e:SE}{b:Bool}(hg:cN d t V.g=aa (.one (.v e))\/∃f,cN d t V.g=aa (.one (.w f e)))(he:e.den P G=aa (.bool b)):(E d).at t=.raw (.bool b)/\J Cx (ay P G) R X (V.cy d (aa t) (.one (.v (.b b)))).g V.l E Y:=by
 have aK:(E d).at t=.raw (.bool b):=by
  rcases hg with hg|⟨f,hg⟩
  .obtain⟨y,h1,h2,_⟩:=hJ.slot d t _ hg;have dk:e.den P G=aa y:=h1;rw[he]at dk;cases dk;exact cQ h2
  .obtain⟨y,h1,h2,_⟩:=hJ.slot d t _ hg;have dk:e.den P G=aa y:=h1;rw[he]at dk;cases dk;exact cQ h2
 refine⟨aK,{hJ with slot:=λd' t' GL HN=>?_}⟩;rcases l9 HN with⟨rfl,rfl,rfl⟩|⟨_,h3⟩
 .exact⟨.raw (.bool b),rfl,by rw[aK];exact .raw _,rfl⟩
 .exact hJ.slot d' t' GL (Km V.g h3).2
theorem TG(hJ:J Cx (ay P G) R X V.g V.l E Y)(cD:(E d).n=V.nt){ops:Array Oper}:
 (vz ops d V o=.run->aT o ops (E d)=ab)/\(vz ops d V o=.skip->aT o ops (E d)=af)/\
 ∀t e want,vz ops d V o=.test t e want->(cN d t V.g=aa (.one (.v e))\/∃f,cN d t V.g=aa (.one (.w f e)))/\∀b,(E d).at t=.raw (.bool b)->aT o ops (E d)=(b==want):=by
 unfold vz aT;cases o.guard with
 |none=>simp
 |some p=>
  obtain⟨j,want⟩:=p;simp only;cases hd:(ops[j]?).bind (·.dst)with
  |none=>simp
  |some t=>
   simp only;by_cases aj:azp t V.nt=ab
   .rw[cD,aj];simp only[Bool.not_true,if_true];cases hg:cN d t V.g with
    |none=>simp
    |some pv=>
     have hs:=hJ.slot d t pv hg;cases pv with
     |ag|tu=>simp
     |one c=>
      cases c with
      |v e=>
       cases e with
       |b x=>
        obtain⟨y,h1,h2,_⟩:=hs;simp only[ay,SE.den,ayB]at h1;subst h1;rw[cQ h2];simp only;refine⟨λh=>?_,λh=>?_,λt e w h=>?_⟩
        .simp only[ayW,if_false]at h;split at h
         .assumption
         .cases h
        .simp only[ayW,if_false]at h;split at h
         .cases h
         .rename_i hh;simpa using hh
        .simp only[ayW,if_false]at h;split at h<;>cases h
       |_=>
        refine⟨λh=>by simp at h,λh=>by simp at h,λt' e' w' h=>?_⟩;simp only[ayW,if_false,Want.test.injEq]at h;obtain⟨rfl,rfl,rfl⟩:=h;exact⟨.inl hg,λb hb=>by rw[hb]⟩
      |w f e=>
       refine⟨λh=>by simp at h,λh=>by simp at h,λt' e' w' h=>?_⟩;simp only[ayW,if_false,Want.test.injEq]at h;obtain⟨rfl,rfl,rfl⟩:=h;exact⟨.inr ⟨f,hg⟩,λb hb=>by rw[hb]⟩
      |_=>simp
   .have iN:azp t V.nt=af:=by cases h:azp t V.nt;rfl;exact absurd h aj
    rw[iN];simp
end
section
variable{Cx:Cs}
variable{P:Program}{N:Nat}{Y al:St}{R R':Rs}{X aN:Ph}{E:Nat->Env}{G:List IV}{ro:Nat}{Z:Io}{w:World}{cfg:eS}{self:m8}
variable{C:Cr}{Q:IV->Prop}{K:List (List IV->Prop)}{V:SS}{d f0:Nat}{o:Oper}{k:PV SE->SS->ak}{L:List (LO SE)}{Γ:Gm SE}{rd:Option Nat}{df:List Df}
def XR(P:Program)(G:List IV)(R:Rs)(X:Ph)(L:List (LO SE))(Y:St):yp->Ex->Prop
 |.normal,x=>x=.normal
 |.exit i,x=>x=.exit i
 |.ret,x=>x=.ret
 |.cw t pv,x=>∃v,x=.cw (.dR t v)/\VR (ay P G) R X L Y v pv
structure yv(Cx:Cs)(P:Program)(d:Nat)(E:Nat->Env)(K:List (List IV->Prop))(G:List IV)(nt:Nat)(V':SS)(I:List IV)(K':List (List IV->Prop))(R':Rs)(aN:Ph)(E':Nat->Env)(al:St):Prop where
 hK:K<+:K'
 fX:K'.length=V'.lv
 cD:V'.nt=nt
 hJ:J Cx (ay P (G++I)) R' aN V'.g V'.l E' al
 hn:(G++I).length=V'.n
 hE:∀j,j<d->E' j=E j
 GS:(E' d).n=(E d).n
def KW(Cx:Cs)(P:Program)(C:Cr)(Q:IV->Prop)(d:Nat)(E:Nat->Env)(K:List (List IV->Prop))(G:List IV)(nt:Nat)(k:yp->SS->ak)(CW:Nat->lP):Prop:=
 ∀ex (V':SS) I K' R' aN E' al x,yv Cx P d E K G nt V' I K' R' aN E' al->XR P (G++I) R' aN V'.l al ex x->(k ex V').sat P C Q K' (G++I)->∃b,∀N,b<=N->al.n<=N/\CW N x (E' d) al
def KP(Cx:Cs)(P:Program)(C:Cr)(Q:IV->Prop)(d:Nat)(E:Nat->Env)(K:List (List IV->Prop))(G:List IV)(nt:Nat)(kx:Kx)(CW:Nat->IV->Env->St->Prop):Prop:=
 ∀t pv (V':SS) I K' R' aN E' al v,yv Cx P d E K G nt V' I K' R' aN E' al->VR (ay P (G++I)) R' aN V'.l al v pv->(kx t pv V').sat P C Q K' (G++I)->∃b,∀N,b<=N->al.n<=N/\CW N (.dR t v) (E' d) al
def KS(Cx:Cs)(P:Program)(C:Cr)(Q:IV->Prop)(d:Nat)(E:Nat->Env)(K:List (List IV->Prop))(G:List IV)(nt:Nat)(k:SS->ak)(CW:Nat->Env->St->Prop):Prop:=
 ∀(V':SS) I K' R' aN E' al,yv Cx P d E K G nt V' I K' R' aN E' al->(k V').sat P C Q K' (G++I)->∃b,∀N,b<=N->al.n<=N/\CW N (E' d) al
def oE(Cx:Cs)(P:Program)(C:Cr)(Q:IV->Prop)(self:m8):Prop:=
 ∀jC d f c (V:SS) k G K R X E Y CW rd df,(jC=af->rd=ah)->(self jC d f c V k).sat P C Q K G->J Cx (ay P G) R X V.g V.l E Y->G.length=V.n->K.length=V.lv->(E d).n=V.nt->KW Cx P C Q d E K G V.nt k CW->∃b,∀N,b<=N->dg P N rd c (E d) df Y (CW N)
theorem yv.trans{nt:Nat}{V1 V2:SS}{BJ μ2:List IV}{K1 K2:List (List IV->Prop)}{R1 R2:Rs}{dV BG:Ph}{E1 E2:Nat->Env}{au cU:St}(h1:K<+:K1)(h2:∀j,j<d->E1 j=E j)(h3:(E1 d).n=(E d).n)
 (h:yv Cx P d E1 K1 (G++BJ) nt V2 μ2 K2 R2 BG E2 cU):yv Cx P d E K G nt V2 (BJ++μ2) K2 R2 BG E2 cU where
 hK:=h1.trans h.hK
 fX:=h.fX
 cD:=h.cD
 hJ:=by rw[<-ayJ];exact h.hJ
 hn:=by rw[<-ayJ];exact h.hn
 hE:=λj hj=>(h.hE j hj).trans (h2 j hj)
 GS:=h.GS.trans h3
theorem KW.fwd{nt:Nat}{kk:yp->SS->ak}{CW:Nat->lP}{BJ:List IV}{K1:List (List IV->Prop)}{E1:Nat->Env}(h:KW Cx P C Q d E K G nt kk CW)(h1:K<+:K1)(h2:∀j,j<d->E1 j=E j)(h3:(E1 d).n=(E d).n):KW Cx P C Q d E1 K1 (G++BJ) nt kk CW:=
 λex V' I K' R' aN E' al x hf hx hs=>h ex V' (BJ++I) K' R' aN E' al x (yv.trans (V1:=V') (R1:=R') (dV:=aN) (au:=al) h1 h2 h3 hf) (by rw[<-ayJ];exact hx) (by rw[<-ayJ];exact hs)
theorem KP.fwd{nt:Nat}{kk:Kx}{CW:Nat->IV->Env->St->Prop}{BJ:List IV}{K1:List (List IV->Prop)}{E1:Nat->Env}(h:KP Cx P C Q d E K G nt kk CW)(h1:K<+:K1)(h2:∀j,j<d->E1 j=E j)(h3:(E1 d).n=(E d).n):KP Cx P C Q d E1 K1 (G++BJ) nt kk CW:=
 λt pv V' I K' R' aN E' al v hf hv hs=>h t pv V' (BJ++I) K' R' aN E' al v (yv.trans (V1:=V') (R1:=R') (dV:=aN) (au:=al) h1 h2 h3 hf) (by rw[<-ayJ];exact hv) (by rw[<-ayJ];exact hs)
theorem KW.kp{nt:Nat}{kk:yp->SS->ak}{CW:Nat->lP}(h:KW Cx P C Q d E K G nt kk CW):KP Cx P C Q d E K G nt (λt pv V=>kk (.cw t pv) V) (λN v e Y=>CW N (.cw v) e Y):=
 λt pv V' I K' R' aN E' al v hf hv hs=>h (.cw t pv) V' I K' R' aN E' al _ hf ⟨v,rfl,hv⟩ hs
theorem KS.fwd{nt:Nat}{kk:SS->ak}{CW:Nat->Env->St->Prop}{BJ:List IV}{K1:List (List IV->Prop)}{E1:Nat->Env}(h:KS Cx P C Q d E K G nt kk CW)(h1:K<+:K1)(h2:∀j,j<d->E1 j=E j)(h3:(E1 d).n=(E d).n):KS Cx P C Q d E1 K1 (G++BJ) nt kk CW:=
 λV' I K' R' aN E' al hf hs=>h V' (BJ++I) K' R' aN E' al (yv.trans (V1:=V') (R1:=R') (dV:=aN) (au:=al) h1 h2 h3 hf) (by rw[<-ayJ];exact hs)
theorem yv.here(hJ:J Cx (ay P G) R X V.g V.l E Y)(hn:G.length=V.n)(hK:K.length=V.lv):yv Cx P d E K G V.nt V [] K R X E Y:=
 ⟨azH _,hK,rfl,by rw[ayO];exact hJ,by rw[ayO];exact hn,λ_ _=>rfl,rfl⟩
theorem KS.now{kk:SS->ak}{CW:Nat->Env->St->Prop}(h:KS Cx P C Q d E K G V.nt kk CW)(hJ:J Cx (ay P G) R X V.g V.l E Y)(hn:G.length=V.n)(hK:K.length=V.lv)(hs:(kk V).sat P C Q K G):∃b,∀N,b<=N->Y.n<=N/\CW N (E d) Y:=
 h V [] K R X E Y (.here hJ hn hK) (by rw[ayO];exact hs)
theorem KW.now{kk:yp->SS->ak}{CW:Nat->lP}(h:KW Cx P C Q d E K G V.nt kk CW)(hJ:J Cx (ay P G) R X V.g V.l E Y)(hn:G.length=V.n)(hK:K.length=V.lv){ex:yp}{x:Ex}(hx:XR P G R X V.l Y ex x)(hs:(kk ex V).sat P C Q K G):∃b,∀N,b<=N->Y.n<=N/\CW N x (E d) Y:=
 h ex V [] K R X E Y x (.here hJ hn hK) (by rw[ayO];exact hx) (by rw[ayO];exact hs)
theorem acm(hJ:J Cx (ay P G) R X V.g V.l E Y){t:TypeId}{pa pv:PV SE}{x:IV}(hx:VR (ay P G) R X V.l Y x pa)(hl:S6 P t pa V=aa pv):
 ∃id off ext s c7 v,x=.ptr id off 0 ext/\aS P t=aa s/\Y.at id=aa (.cells c7 0 0)/\s<=ext/\partOf P t c7 off=aa v/\VR (ay P G) R X V.l Y v pv:=by
 unfold S6 at hl;split at hl<;>try (cases hl;done)
 rename_i s b j off ext bf JI;split at hl<;>try (cases hl;done)
 rename_i cs hj;split at hl<;>try (cases hl;done)
 rename_i hle;simp only[ayz,az7]at hle;obtain⟨id,sc,h1,h2,rfl⟩:=hx;obtain⟨bz,c7,h3,h4,h5,h6⟩:=hJ.obj j _ hj;rw[h1]at h3;cases h3
 have sj:if isAgg P t=ab then pv=.ag ((cs.drop off).take s)else∃c,(cs.drop off).take s=[c]/\pv=.one c:=by
  split at hl
  .rename_i ha;cases hl;rw[if_pos ha]
  .rename_i ha;rw[if_neg ha];split at hl
   .rename_i c hc;cases hl;exact⟨c,hc,rfl⟩
   .cases hl
 obtain⟨v,hv,hr⟩:=uQ bf JI h6 hle.2 sj;exact⟨id,off,ext,s,c7,v,rfl,bf,h5,hle.1,hv,hr⟩
def yO(P:Program)(e:Env)(Y:St)(r:ResultVar):Option IV:=
 match r with
 |.tmp t=>aa (e.at t)
 |.cell a t=>match e.at a with
  |.ptr id off ep ext=>match aS P t,Y.at id with
   |some s,aa (.cells cs aB mn)=>if s<=ext/\mn<=ep/\ep<=aB then partOf P t cs off else ah
   |_,_=>ah
  |_=>ah
theorem oW(hJ:J Cx (ay P G) R X V.g V.l E Y):∀{rs:List ResultVar} {c8:List (PV SE)},oS P d V rs=aa c8->∃vs,rs.mapM (yO P (E d) Y)=aa vs/\All2 (VR (ay P G) R X V.l Y) vs c8
 |[],c8,h=>by
  simp only[oS,ayB]at h;subst h;exact⟨[],rfl,trivial⟩
 |.tmp t::rs,c8,h=>by
  simp only[oS]at h;split at h
  .rename_i kS hp;cases h;obtain⟨vs,h1,h2⟩:=oW hJ hp;refine⟨(E d).at t::vs,by simp[aAH,yO,h1],?_,h2⟩;exact bF hJ d 0 (.tmp t)
  .cases h
 |.cell a t::rs,c8,h=>by
  simp only[oS]at h;split at h
  .rename_i pa kR;split at h
   .rename_i pv kS hl hp;cases h;obtain⟨vs,h1,h2⟩:=oW hJ hp;obtain⟨id,off,ext,s,c7,v,g1,g2,g3,g4,g5,g6⟩:=acm hJ (hJ.slot d a pa kR) hl;refine⟨v::vs,?_,g6,h2⟩;have:yO P (E d) Y (.cell a t)=aa v:=by simp[yO,g1,g2,g3,g4,g5]
    simp[aAH,this,h1]
   .cases h
  .cases h
def HO:List IV->IV
 |[v]=>v
 |l=>.aL l
theorem N0{vs:List IV}{c8:List (PV SE)}(h:All2 (VR (ay P G) R X L Y) vs c8):VR (ay P G) R X L Y (HO vs) (Hv c8):=by
 have conv:∀{x:IV} {pv:PV SE},VR (ay P G) R X L Y x pv->wA (ay P G) R X L Y x (match pv with|.one c=>(af,[c])|.ag cs=>(ab,cs)|.tu _=>(af,[.un])):=by
  intro x pv hx;cases pv with
  |one c=>exact⟨c,rfl,hx⟩
  |ag cs=>exact hx
  |tu vs=>exact⟨.un,rfl,trivial⟩
 match vs,c8,h with
 |[],[],_=>trivial
 |[v],[pv],h=>exact h.1
 |v::v'::vs,pv::GL::c8,h=>exact⟨_,rfl,h.map λ_ _ cn=>conv cn⟩
theorem ny{fn:Func}{e:Env}{vs:List IV}(h:fn.results.toList.mapM (yO P e Y)=aa vs):cC P fn e Y=aa (HO vs):=by
 unfold cC;simp only
 have aym:∀r,(match r with
  |aEa t=>aa (e.at t)
  |aEb a t=>match e.at a with
   |.ptr id off ep ext=>match aS P t,Y.at id with
    |some s,aa (.cells cs aB mn)=>if s<=ext/\mn<=ep/\ep<=aB then partOf P t cs off else ah
    |_,_=>ah
   |_=>ah)=yO P e Y r:=λr=>rfl
 generalize hl:fn.results.toList=l at h⊢
 match l,h with
 |[],h=>simp[aCr]at h;subst h;rfl
 |[r],h=>
  simp only[aAH,aCr]at h;cases ho:yO P e Y r with
  |none=>rw[ho]at h;simp at h
  |some v=>rw[ho]at h;simp at h;subst h;exact ho
 |r::r'::rs,h=>
  have hlen:∃v v' yU,vs=v::v'::yU:=by
   simp only[aAH]at h;cases h1:yO P e Y r with
   |none=>rw[h1]at h;simp at h
   |some v=>
    cases h2:yO P e Y r' with
    |none=>rw[h1,h2]at h;simp at h
    |some v'=>
     cases h3:rs.mapM (yO P e Y)with
     |none=>rw[h1,h2,h3]at h;simp at h
     |some yU=>rw[h1,h2,h3]at h;simp at h;exact⟨v,v',yU,h.symm⟩
  obtain⟨v,v',yU,rfl⟩:=hlen;have h':(r::r'::rs).mapM (yO P e Y)=aa (v::v'::yU):=h;have e2:(match(r::r'::rs).mapM (yO P e Y)with|some vs=>aa (IV.aL vs)|none=>ah)=aa (HO (v::v'::yU)):=by rw[h'];rfl
  exact e2
end
section
variable{Cx:Cs}
variable{P:Program}{N:Nat}{Y al:St}{R R':Rs}{X aN:Ph}{E:Nat->Env}{G:List IV}{ro:Nat}{Z:Io}{w:World}{cfg:eS}{self:m8}
variable{C:Cr}{Q:IV->Prop}{K:List (List IV->Prop)}{V:SS}{d f0:Nat}{o:Oper}{k:PV SE->SS->ak}{L:List (LO SE)}{Γ:Gm SE}{rd:Option Nat}{df:List Df}
theorem fi(E:Nat->Env)(d:Nat)(e:Env){j:Nat}(h:j≠d):ly E d e j=E j:=by simp[ly,h]
theorem Dl{O:Type}{d t:Nat}{pv:PV O}:∀{g h:List (Nat×Nat×PV O)},cN d t (g++h)=aa pv->cN d t g=aa pv\/cN d t h=aa pv
 |[],h,hg=>.inr hg
 |(a,b,q)::g,h,hg=>by
  simp only[azv,cN]at hg⊢;split at hg
  .rename_i hc;rw[if_pos hc];exact .inl hg
  .rename_i hc;rw[if_neg hc];exact Dl hg
theorem jn{O:Type}{d d' t:Nat}{pv:PV SE}:∀{c8:List (PV SE)} {j:Nat},cN d' t (setArgs d j c8)=aa pv->d'=d/\j<=t/\c8[t- j]?=aa pv
 |[],j,h=>by cases h
 |q::c8,j,h=>by
  simp only[setArgs]at h;rcases l9 h with⟨rfl,rfl,rfl⟩|⟨bt,h2⟩
  .simp
  .obtain⟨rfl,h3,h4⟩:=jn (O:=O) h2;refine⟨rfl,by omega,?_⟩;rw[show t- j=(t-(j+1))+1 by omega];simpa using h4
theorem py{d d' t:Nat}{pv:PV SE}:∀{g:List (Nat×Nat×PV SE)},cN d' t (eV d g)=aa pv->d'≠d/\cN d' t g=aa pv
 |[],h=>by cases h
 |(a,b,q)::g,h=>by
  simp only[eV]at h;split at h
  .rename_i hc;have DN:=ayH hc;obtain⟨h1,h2⟩:=py h;refine⟨h1,?_⟩;unfold cN;rw[if_neg]
   .exact h2
   .simp only[ayz,azc];rintro⟨rfl,_⟩;exact h1 DN
  .rename_i hc;have DN:a≠d:=by intro h;subst h;simp at hc
   rcases l9 h with⟨rfl,rfl,rfl⟩|⟨bt,h2⟩
   .exact⟨DN,by simp[cN]⟩
   .obtain⟨h3,h4⟩:=py h2;refine⟨h3,?_⟩;unfold cN;rw[if_neg (by simpa only[ayz,azc]using bt)];exact h4
theorem Md:∀(args:List IV) (j:Nat) (e:Env) (t:Nat),j+args.length<=e.n->((args.zipIdx j).foldl (λe (p:IV×Nat)=>e.put (aa p.2) p.1) e).n=e.n/\
 (((args.zipIdx j).foldl (λe (p:IV×Nat)=>e.put (aa p.2) p.1) e).at t=if j<=t/\t<j+args.length then(args[t- j]?).getD .undef else e.at t)
 |[],j,e,t,_=>by simp;intro h1 h2;omega
 |a::args,j,e,t,h=>by
  simp only[ay6]at h;simp only[List.zipIdx_cons,aze];obtain⟨h1,h2⟩:=Md args (j+1) (e.put (aa j) a) t (by rw[fc];omega);refine⟨by rw[h1,fc],?_⟩;rw[h2];by_cases hc:j+1<=t/\t<j+1+args.length
  .rw[if_pos hc,if_pos ⟨by omega,by simp;omega⟩,show t- j=(t-(j+1))+1 by omega];simp
  .rw[if_neg hc];by_cases ht:t=j
   .subst ht;rw[if_pos ⟨ayA _,by simp⟩,Env.dv,if_pos ⟨by omega,rfl⟩];simp
   .rw[if_neg (by simp;omega),GK _ _ _ _ (by simpa using λh=>ht h.symm)]
theorem ej{args:List IV}{n t:Nat}(h:args.length<=n):(dL args n).n=n/\(t<args.length->(dL args n).at t=(args[t]?).getD .undef):=by
 obtain⟨h1,h2⟩:=Md args 0 ⟨n,.lf⟩ t (by simpa using h);refine⟨h1,λht=>?_⟩;have:=h2;rw[if_pos ⟨azi _,by omega⟩]at this;exact this
theorem acn(hJ:J Cx (ay P G) R X V.g V.l E Y){args:List IV}{c8:List (PV SE)}{n:Nat}(h:All2 (VR (ay P G) R X V.l Y) args c8)(hl:args.length<=n):
 J Cx (ay P G) R X (setArgs (d+1) 0 c8++eV (d+1) V.g) V.l (ly E (d+1) (dL args n)) Y:=by
 refine{hJ with slot:=λd' t pv hg=>?_};rcases Dl hg with hg|hg
 .obtain⟨rfl,_,h3⟩:=jn (O:=IV) hg;have ht:t<args.length:=by rw[h.len];have:=(ayw.1 h3).1;simpa using this
  rw[bO,(ej hl).2 ht,ayv ht];exact h.get (ayv ht) (by simpa using h3)
 .obtain⟨h1,h2⟩:=py hg;rw[fi _ _ _ h1];exact hJ.slot d' t pv h2
theorem uT(hJ:J Cx (ay P G) R X V.g V.l E Y)(d:Nat):J Cx (ay P G) R X (eV d V.g) V.l E Y:=hJ.less λ_ _ _ h=>(py h).2
theorem zn(bG:oE Cx P C Q self)(hJ:J Cx (ay P G) R X V.g V.l E Y)(hn:G.length=V.n)(hK:K.length=V.lv)(cD:(E d).n=V.nt){g:FuncId}{dst:Option Nat}{args:List IV}{c8:List (PV SE)}(bE:All2 (VR (ay P G) R X V.l Y) args c8)
 {kx:Kx}(hs:(oT P cfg self kx d f0 dst g c8 V k).sat P C Q K G){RW PW:Nat->IV->St->Prop}
 (hk:∀(pv:PV SE) (V':SS) I K' R' aN E' al v,yv Cx P d E K G V.nt V' I K' R' aN E' al->E' d=E d->VR (ay P (G++I)) R' aN V'.l al v pv->(k pv V').sat P C Q K' (G++I)->∃b,∀N,b<=N->al.n<=N/\RW N v al)
 (hkx:∀t (pv:PV SE) (V':SS) I K' R' aN E' al v,yv Cx P d E K G V.nt V' I K' R' aN E' al->E' d=E d->VR (ay P (G++I)) R' aN V'.l al v pv->(kx t pv V').sat P C Q K' (G++I)->∃b,∀N,b<=N->al.n<=N/\PW N (.dR t v) al):
 ∃fn,P.funcs[g]?=aa fn/\fn.body.isSome=ab/\(fn.name != "runtime.NumGoroutine")=ab/\∃b,∀N,b<=N->vv P N g args Y (RW N) (PW N):=by
 unfold oT at hs;split at hs<;>try exact hs.elim
 rename_i fn cL;split at hs<;>try exact hs.elim
 rename_i body hb;split at hs<;>try exact hs.elim
 split at hs<;>try exact hs.elim
 rename_i hc;simp only[ayz,az7]at hc;have hl:args.length<=fn.ntmps:=by rw[bE.len];exact hc.1
 refine⟨fn,cL,by simp[hb],hc.2,?_⟩;have bR:=acn (d:=d) hJ bE hl
 obtain⟨b,o8⟩:=bG af (d+1) _ body {V with g:=setArgs (d+1) 0 c8++eV (d+1) V.g,nt:=fn.ntmps} _ G K R X (ly E (d+1) (dL args fn.ntmps)) Y
  (λN ex e1 au=>au.n<=N/\(((ex=.normal\/ex=.ret)/\∃v,cC P fn e1 au=aa v/\RW N v au)\/∃v,ex=.cw v/\PW N v au)) ah [] (λ_=>rfl) hs bR hn hK (by rw[bO,(ej (t:=0) hl).1]) (by
   intro ex V' I K' R' aN E' al x hf hx br;have mB:E' d=E d:=by rw[hf.hE d ai,fi _ _ _ ai]
   have main:∀kS,oS P (d+1) V' fn.results.toList=aa kS->(k (Hv kS) {V' with g:=eV (d+1) V'.g,nt:=V.nt}).sat P C Q K' (G++I)->∃b,∀N,b<=N->al.n<=N/\al.n<=N/\∃v,cC P fn (E' (d+1)) al=aa v/\RW N v al:=by
    intro kS hr eY;obtain⟨vs,h1,h2⟩:=oW hf.hJ hr;have hv:=N0 h2
    obtain⟨b,hb⟩:=hk (Hv kS) {V' with g:=eV (d+1) V'.g,nt:=V.nt} I K' R' aN E' al (HO vs)
     ⟨hf.hK,hf.fX,rfl,uT hf.hJ (d+1),hf.hn,λj hj=>by rw[hf.hE j ai,fi _ _ _ ai],by rw[mB]⟩ mB hv eY
    exact⟨b,λN hN=>⟨(hb N hN).1,(hb N hN).1,HO vs,ny h1,(hb N hN).2⟩⟩
   cases ex with
   |exit i=>exact br.elim
   |cw t pv=>
    obtain⟨v,rfl,hv⟩:=hx
    obtain⟨b,hb⟩:=hkx t pv {V' with g:=eV (d+1) V'.g,nt:=V.nt} I K' R' aN E' al v
     ⟨hf.hK,hf.fX,rfl,uT hf.hJ (d+1),hf.hn,λj hj=>by rw[hf.hE j ai,fi _ _ _ ai],by rw[mB]⟩ mB hv br
    exact⟨b,λN hN=>⟨(hb N hN).1,(hb N hN).1,.inr ⟨_,rfl,(hb N hN).2⟩⟩⟩
   |normal=>
    obtain rfl:=hx;simp only at br;split at br
    .rename_i kS hr;obtain⟨b,hb⟩:=main kS hr br;exact⟨b,λN hN=>⟨(hb N hN).1,(hb N hN).2.1,.inl ⟨.inl rfl,(hb N hN).2.2⟩⟩⟩
    .exact br.elim
   |ret=>
    obtain rfl:=hx;simp only at br;split at br
    .rename_i kS hr;obtain⟨b,hb⟩:=main kS hr br;exact⟨b,λN hN=>⟨(hb N hN).1,(hb N hN).2.1,.inl ⟨.inr rfl,(hb N hN).2.2⟩⟩⟩
    .exact br.elim)
 refine⟨b,λN hN=>?_⟩;have:=o8 N hN;rw[bO]at this;exact vv.body cL hb hl this
end
section
variable{Cx:Cs}
variable{P:Program}{N:Nat}{Y al:St}{R R':Rs}{X aN:Ph}{E:Nat->Env}{G ss vs:List IV}{n:Nat}{args:List SE}{eH:List (Nat×Nat)}
theorem aiC{ss a b:List IV}:∀(e:SE),e.y6 ss.length=ab->e.den P (ss++a)=e.den P (ss++b):=by
 intro e;induction e with
 |var x=>
  intro h;simp only[SE.y6]at h;have hx:x<ss.length:=by simpa using h
  simp[SE.den,ayK hx]
 |i|k|b|s|raw|an=>intro _;rfl
 |ok e ih|uM _ e ih|bC e _ ih|len e ih|ud e ih|tr _ e ih|tp e ih|proj e _ ih|un _ e ih|cv _ _ e ih|rw e ih|rws e ih=>intro h;simp only[SE.y6]at h;simp only[SE.den,ih h]
 |idx _ e f gG fS|JD _ e f _ gG fS|ac e f gG fS|cat _ _ e f gG fS|bin _ _ e f gG fS|mx _ e f gG fS|JE e f gG fS|has _ e f gG fS|dec _ e f gG fS=>
  intro h;simp only[SE.y6,ayz]at h;simp only[SE.den,gG h.1,fS h.2]
 |E8 _ e f g gG fS Hz|sub _ e f g gG fS Hz|Ks e f g gG fS Hz|ins _ e f g gG fS Hz|get _ e f g gG fS Hz=>
  intro h;simp only[SE.y6,ayz]at h;simp only[SE.den,gG h.1.1,fS h.1.2,Hz h.2]
structure Ins(P:Program)(n:Nat)(args:List SE)(G ss vs:List IV):Prop where
 len:ss.length=n
 pre:∃I,G=ss++I
 args:All2 (λ(e:SE) y=>e.den P G=aa y) args vs
theorem nY(hI:Ins P n args G ss vs){h e:SE}(hc:xm n args h e=ab){y:IV}(hy:e.den P G=aa y):h.den P (ss++vs)=aa y:=by
 obtain⟨hl,⟨I,rfl⟩,ha⟩:=hI;unfold xm at hc;split at hc
 .rename_i x;split at hc
  .rename_i hx;have ky:x<ss.length:=by rw[hl];simpa using hx
   have:=SE.eq_eq hc;subst this;simp only[SE.den,ayK ky]at hy⊢;exact hy
  .rename_i hx;have ky:n<=x:=by simpa using hx
   split at hc
   .rename_i a hax;have:=SE.eq_eq hc;subst this;have aj:x- n<vs.length:=by rw[<-ha.len];exact(ayw.1 hax).1
    have hv:=ha.get hax (ayv aj);rw[hy]at hv;simp only[SE.den];rw[ay0 ai,hl,ayv aj];exact hv.symm
   .cases hc
 .simp only[ayz]at hc;obtain⟨h1,h2⟩:=hc;have:=SE.eq_eq h2;subst this;rw[<-hl]at h1;rw[aiC (b:=I) h h1];exact hy
variable{H V:SS}
def my(X:Ph)(H:SS)(eH:List (Nat×Nat)):Ph:=λk=>if isLive H.l k=ab then(uf eH k).bind X else ah
theorem TH{O:Type}{l:List (Nat×O)}{k:Nat}{a:O}(h:uf l k=aa a):(k,a)∈l:=by
 induction l with
 |nil=>cases h
 |cons p l ih=>
  obtain⟨x,y⟩:=p;simp only[uf]at h;split at h
  .rename_i hc;cases h;rw[ayH hc];simp
  .exact azA _ (ih h)
theorem akY(h:aez eH=ab){k k' e:Nat}(h1:uf eH k=aa e)(h2:uf eH k'=aa e):k=k':=by
 unfold aez at h;rw[ayP]at h;have:=h _ (TH h1);rw[ayP]at this;have:=this _ (TH h2);simpa using this
theorem N1{l:List (LO SE)}:∀{os:List (LO SE)} {k:Nat},S5 n args eH l k os=ab->∀{j:Nat} {o:LO SE},os[j]?=aa o->o≠.dead->∃k' o',uf eH (k+j)=aa k'/\l[k']?=aa o'/\yN n args eH o o'=ab
 |[],k,_,j,o,h,_=>by simp at h
 |a::os,k,hc,j,o,h,hd=>by
  simp only[S5,ayz]at hc;cases j with
  |zero=>
   simp at h;subst h;have cd:=hc.1;split at cd
   .exact absurd rfl hd
   .split at cd
    .rename_i k' hk;split at cd
     .rename_i o' ho;exact⟨k',o',hk,ho,cd⟩
     .cases cd
    .cases cd
  |succ j=>
   simp at h;obtain⟨k',o',h1,h2,h3⟩:=N1 hc.2 h hd;exact⟨k',o',by rw[show k+(j+1)=k+1+j by omega];exact h1,h2,h3⟩
theorem TI{l:List (LO SE)}{k:Nat}(h:isLive l k=ab):∃o,l[k]?=aa o/\o≠.dead:=by
 unfold isLive at h;split at h
 .cases h
 .cases h
 .rename_i h1 h2;cases hk:l[k]? with
  |none=>exact absurd hk h2
  |some o=>exact⟨o,rfl,λhc=>h1 (by rw[hk,hc])⟩
theorem nZ{O β:Type}{f:O->O->Bool}{r:β->O->Prop}{r':β->O->Prop}:∀{xs:List β} {as bs:List O},(∀x a b,a∈as->f a b=ab->r x b->r' x a)->kQ f as bs=ab->All2 r xs bs->All2 r' xs as
 |[],[],[],_,_,_=>trivial
 |x::xs,a::as,b::bs,hf,h,hx=>by
  simp only[kQ,ayz]at h;exact⟨hf x a b ax h.1 hx.1,nZ (λx a b ha=>hf x a b (by simp[ha])) h.2 hx.2⟩
 |[],a::as,[],_,h,_=>by cases h
 |[],[],b::bs,_,h,_=>by cases h
 |[],_::_,_::_,_,_,hx=>hx.elim
 |_::_,[],[],_,_,hx=>hx.elim
 |_::_,_::_,[],_,h,_=>by cases h
 |_::_,[],_::_,_,h,_=>by cases h
theorem Mf{O:Type}{f:O->O->Bool}:∀{as bs:List O},kQ f as bs=ab->∀{a:O},a∈as->∃b,b∈bs/\f a b=ab
 |[],_,_,_,h=>by cases h
 |x::as,y::bs,h,a,ha=>by
  simp only[kQ,ayz]at h;rcases ayN.1 ha with rfl|ha
  .exact⟨y,by simp,h.1⟩
  .obtain⟨b,h1,h2⟩:=Mf h.2 ha;exact⟨b,by simp[h1],h2⟩
 |_::_,[],h,_,_=>by cases h
variable(hI:Ins P n args G ss vs)(hJ:J Cx (ay P G) R X V.g V.l E Y)(hL:S5 n args eH V.l 0 H.l=ab)
include hI hJ hL
theorem Ef{h e:Cl SE}{x:IV}(zo:∀k∈tn h,isLive H.l k=ab)(hc:qP n args eH h e=ab)(hx:cZ (ay P G) R X V.l Y x e):cZ (ay P (ss++vs)) R (my X H eH) H.l Y x h:=by
 have key:∀k k',Hu eH k k'=ab->isLive H.l k=ab->∃o o',H.l[k]?=aa o/\V.l[k']?=aa o'/\yN n args eH o o'=ab/\my X H eH k=X k':=by
  intro k k' hk hl;obtain⟨o,h1,h2⟩:=TI hl;obtain⟨k2,o',h3,h4,h5⟩:=N1 hL h1 h2;rw[azP]at h3;unfold Hu at hk;rw[h3]at hk;have:=ayH hk;subst this;exact⟨o,o',h1,h4,h5,by simp[my,hl,h3]⟩
 cases h with
 |un=>trivial
 |v a=>
  cases e<;>simp only[qP]at hc<;>try (cases hc;done)
  .obtain⟨y,h1,h2⟩:=hx;exact⟨y,nY hI hc h1,h2⟩
  .rename_i b s;obtain⟨h1,h2⟩:=hx;refine⟨.tree s [],nY hI hc (by simp[SE.den,h1]),?_,rfl⟩;subst h2;cases b
   .exact .emp s h1
   .exact .nil s h1
 |w f a=>
  cases e<;>simp only[qP,ayz]at hc<;>try (cases hc;done)
  .obtain⟨hf,hc⟩:=hc;obtain⟨y,h1,h2,h3⟩:=hx;subst hf;exact⟨y,nY hI hc h1,h2.mono hJ.BH,h3⟩
  .rename_i f' b;obtain⟨hf,hc⟩:=hc;obtain⟨y,h1,h2,h3⟩:=hx;exact⟨y,nY hI hc h1,h2.wide (λh=>by subst h;simpa using hf),h3⟩
  .rename_i b s;obtain⟨h1,h2⟩:=hx;refine⟨.tree s [],nY hI hc (by simp[SE.den,h1]),?_,rfl⟩;subst h2;cases b
   .exact .emp s h1
   .exact .nil s h1
 |nl a s=>
  cases e<;>simp only[qP,ayz,azc,beq_iff_eq]at hc<;>try (cases hc;done)
  obtain⟨rfl,rfl⟩:=hc;exact hx
 |pt k o x'=>
  cases e<;>simp only[qP,ayz,azc]at hc<;>try (cases hc;done)
  obtain⟨⟨rfl,rfl⟩,hk⟩:=hc;obtain⟨id,cs,h1,h2,h3⟩:=hx;obtain⟨o1,o2,g1,g2,g3,g4⟩:=key _ _ hk (zo k (by simp[tn]));rw[h2]at g2;cases g2;cases o1<;>simp only[yN]at g3<;>try (cases g3;done)
  exact⟨id,_,by rw[g4];exact h1,g1,h3⟩
 |tp a=>
  cases e<;>simp only[qP]at hc<;>try (cases hc;done)
  obtain⟨ds,h1,h2⟩:=hx;exact⟨ds,h1,nZ (λd a b _ cn ⟨y,h3,h4⟩=>⟨y,nY hI cn h3,h4⟩) hc h2⟩
 |tw f a=>cases e<;>simp[qP]at hc
 |sr k=>
  cases e<;>simp only[qP]at hc<;>try (cases hc;done)
  obtain⟨s,st,cut,fr,z,es,h1,h2,h3⟩:=hx;obtain⟨o1,o2,g1,g2,g3,g4⟩:=key _ _ hc (zo k (by simp[tn]));rw[h1]at g2;cases g2;cases o1<;>simp only[yN,ayz,azc,beq_iff_eq]at g3<;>try (cases g3;done)
  obtain⟨⟨⟨⟨rfl,rfl⟩,Tu⟩,pU⟩,hz⟩:=g3;refine⟨_,_,_,_,_,es,g1,nY hI hz h2,?_⟩;rcases h3 with⟨a1,a2,a3⟩|⟨id,cs,aB,mn,cap,a1,a2,a3,a4,a5,a6⟩
  .exact .inl ⟨by rw[g4];exact a1,a2,a3⟩
  .exact .inr ⟨id,cs,aB,mn,cap,by rw[g4];exact a1,a2,a3,a4,λhn DN=>a5 hn (by subst DN;simpa using Tu),a6⟩
 |sv k lo=>cases e<;>simp[qP]at hc
 |pr k i off ext=>cases e<;>simp[qP]at hc
 |mp k=>
  cases e<;>simp only[qP]at hc<;>try (cases hc;done)
  obtain⟨id,kt,es,h1,h2,h3⟩:=hx;obtain⟨o1,o2,g1,g2,g3,g4⟩:=key _ _ hc (zo k (by simp[tn]));rw[h2]at g2;cases g2;cases o1<;>simp only[yN,ayz,azc]at g3<;>try (cases g3;done)
  obtain⟨⟨rfl,_⟩,_⟩:=g3;exact⟨id,_,_,by rw[g4];exact h1,g1,h3⟩
 |yl k=>
  cases e<;>simp only[qP]at hc<;>try (cases hc;done)
  obtain⟨id,c,st,sn,h1,h2,h3⟩:=hx;obtain⟨o1,o2,g1,g2,g3,g4⟩:=key _ _ hc (zo k (by simp[tn]));rw[h2]at g2;cases g2;cases o1<;>simp only[yN]at g3<;>try (cases g3;done)
  exact⟨id,_,_,_,by rw[g4];exact h1,g1,h3⟩
 |fn f a=>
  cases e<;>simp only[qP,ayz,azc]at hc<;>try (cases hc;done)
  obtain⟨rfl,hl⟩:=hc;rcases hx with⟨rfl,h2⟩|⟨ys,h1,h2⟩
  .have:a=[]:=by cases a with|nil=>rfl|cons=>cases hl
   subst this;exact .inl ⟨rfl,h2⟩
  .refine .inr ⟨ys,h1,?_⟩;refine nZ (λy p q hp Az ⟨id,cs,h3,h4,h5⟩=>?_) hl h2;simp only[ayz,azc]at Az;obtain⟨o1,o2,g1,g2,g3,g4⟩:=key _ _ Az.2 (zo p.1 (by simp only[tn];exact List.mem_map_of_mem hp));rw[h4]at g2;cases g2;cases o1<;>simp only[yN]at g3<;>try (cases g3;done)
   exact⟨id,_,by rw[g4];exact h3,g1,by rw[Az.1];exact h5⟩
theorem TJ{h e:PV SE}{x:IV}(zo:∀k∈Ht h,isLive H.l k=ab)(hc:IE n args eH h e=ab)(hx:VR (ay P G) R X V.l Y x e):VR (ay P (ss++vs)) R (my X H eH) H.l Y x h:=by
 cases h with
 |one c=>
  cases e<;>simp only[IE]at hc<;>try (cases hc;done)
  exact Ef hI hJ hL zo hc hx
 |ag cs=>
  cases e<;>simp only[IE]at hc<;>try (cases hc;done)
  obtain⟨xs,h1,h2⟩:=hx;exact⟨xs,h1,nZ (r:=cZ (ay P G) R X V.l Y) (λx a b ha cn hx=>Ef hI hJ hL (λk hk=>zo k (azJ.2 ⟨a,ha,hk⟩)) cn hx) hc h2⟩
 |tu us=>
  cases e<;>simp only[IE]at hc<;>try (cases hc;done)
  obtain⟨xs,h1,h2⟩:=hx;refine⟨xs,h1,nZ (λx a b ha cn hx=>?_) hc h2⟩;simp only[ayz,beq_iff_eq]at cn;have hla:∀c∈a.2,∀k∈tn c,isLive H.l k=ab:=λc hc k hk=>zo k (azJ.2 ⟨a,ha,azJ.2 ⟨c,hc,hk⟩⟩);unfold wA at hx⊢;rw[cn.1];split at hx
  .rename_i hb;rw[if_pos hb];obtain⟨ys,h3,h4⟩:=hx;exact⟨ys,h3,nZ (r:=cZ (ay P G) R X V.l Y) (λx c c' hca jh hx=>Ef hI hJ hL (hla c hca) jh hx) cn.2 h4⟩
  .rename_i hb;rw[if_neg hb];obtain⟨c,h3,h4⟩:=hx;have fC:=cn.2;rw[h3]at fC;obtain⟨a1,a2⟩:=a;cases a2 with
   |nil=>cases fC
   |cons c' r=>
    cases r with
    |cons=>simp[kQ]at fC
    |nil=>
     simp only[kQ,Bool.and_true]at fC;exact⟨c',rfl,Ef hI hJ hL (hla c' ax) fC h4⟩
omit hI hJ hL in
theorem N2{m:Nat}(hJ:J Cx (ay P G) R X V.g V.l E Y)(hl:ss.length=n)(hp:∃I,G=ss++I)(h:inst n m H V=aa (args,eH)){vs:List IV}(hv:All2 (λ(e:SE) y=>e.den P G=aa y) args vs):
 vs.length=m/\J Cx (ay P (ss++vs)) R (my X H eH) H.g H.l E Y:=by
 unfold inst at h;split at h
 .cases h
 .rename_i hlr;have ae2:Kw H=ab:=by simpa using hlr
  split at h<;>try (cases h;done)
  split at h<;>try (cases h;done)
  split at h<;>try (cases h;done)
  split at h<;>try (cases h;done)
  rename_i hc;simp only[ayB,ay7]at h;obtain⟨e1,e2⟩:=h;rw[e1,e2]at hc;simp only[ayz,azc]at hc;obtain⟨⟨⟨c1,c2⟩,c3⟩,c4⟩:=hc;have hI:Ins P n args G ss vs:=⟨hl,hp,hv⟩;unfold Kw at ae2;simp only[ayz,ayP]at ae2;obtain⟨l1,l2⟩:=ae2
  have NX:∀{k id},my X H eH k=aa id->isLive H.l k=ab/\∃k',uf eH k=aa k'/\X k'=aa id:=by
   intro k id hk;unfold my at hk;split at hk
   .rename_i fX;obtain⟨k',h1,h2⟩:=ayV.1 hk;exact⟨fX,k',h1,h2⟩
   .cases hk
  refine⟨by rw[<-hv.len];exact c4,λd t pv hg=>?_,λk o ho=>?_,λk k' id h1 h2=>?_,λk id hk=>?_,hJ.qO,hJ.fits,hJ.wf,hJ.top⟩
  .have dt:(d,t,pv)∈H.g:=by
    have:∀{g:List (Nat×Nat×PV SE)},cN d t g=aa pv->(d,t,pv)∈g:=by
     intro g;induction g with
     |nil=>intro h;cases h
     |cons p g ih=>
      obtain⟨a,b,q⟩:=p;intro h;rcases l9 h with⟨rfl,rfl,rfl⟩|⟨_,h2⟩
      .simp
      .exact azA _ (ih h2)
    exact this hg
   unfold akz at c1;rw[ayP]at c1;have:=c1 _ dt;simp only at this;split at this
   .rename_i GL sj;exact TJ hI hJ c2 (λk hk=>l1 _ dt k hk) this (hJ.slot d t GL sj)
   .cases this
  .by_cases hd:o=.dead
   .subst hd;trivial
   .obtain⟨k',o',h1,h2,h3⟩:=N1 c2 ho hd;rw[azP]at h1
    have fX:isLive H.l k=ab:=by
     unfold isLive;rw[ho];cases o<;>first|rfl|exact absurd rfl hd
    have vL:my X H eH k=X k':=by simp[my,fX,h1]
    have fT:=hJ.obj k' o' h2;cases o with
    |dead=>exact absurd rfl hd
    |var cs=>
     cases o'<;>simp only[yN]at h3<;>try (cases h3;done)
     obtain⟨id,c7,g1,g2,g3,g4⟩:=fT;have hrefs:=l2 _ (ayM ho);simp only at hrefs;rw[ayP]at hrefs;exact⟨id,c7,by rw[vL];exact g1,g2,g3,nZ (r:=cZ (ay P G) R X V.l Y) (λx a b ha cn hx=>Ef hI hJ c2 (λk hk=>hrefs k (azJ.2 ⟨a,ha,hk⟩)) cn hx) h3 g4⟩
    |row s st cut fr z=>
     cases o'<;>simp only[yN,ayz,azc,beq_iff_eq]at h3<;>try (cases h3;done)
     obtain⟨⟨⟨⟨rfl,rfl⟩,Tu⟩,pU⟩,hz⟩:=h3;obtain⟨cm,es,g1,g2,g3⟩:=fT;refine⟨cm,es,nY hI hz g1,g2,?_⟩;rcases g3 with⟨a1,a2⟩|⟨id,cs,aB,mn,a1,a2,a3,a4,a5,a6,a7⟩
     .exact .inl ⟨by rw[vL];exact a1,a2⟩
     .exact .inr ⟨id,cs,aB,mn,by rw[vL];exact a1,a2,a3,a4,a5,a6,λj x y hx hy=>(a7 j x y hx hy).wide (λh=>by subst h;simpa using pU)⟩
    |mp kt z=>
     cases o'<;>simp only[yN,ayz,azc]at h3<;>try (cases h3;done)
     obtain⟨⟨rfl,hz⟩,hlk⟩:=h3;rw[ti]at fT⊢;split at fT
     .rename_i jD;rw[if_pos jD];obtain⟨h0,id,ba,p,g1,g2,g3,g4⟩:=fT
      .exact⟨h0,id,ba,p,nY hI hz g1,by rw[vL];exact g2,g3,g4⟩
     .rename_i jD;rw[if_neg jD];obtain⟨id,es,clock,ds,g1,g2,g3,g4,g5⟩:=fT;exact⟨id,es,clock,ds,nY hI hz g1,by rw[vL];exact g2,g3,g4,g5⟩
    |lp c st sn=>
     cases o'<;>simp only[yN,ayz,azc]at h3<;>try (cases h3;done)
     obtain⟨⟨rfl,rfl⟩,yf⟩:=h3;obtain⟨id,rc,tm,fV,s,p,f,g1,g2,g3,g4,g5,g6⟩:=fT;have hrefs:=l2 _ (ayM ho);simp only at hrefs;rw[ayP]at hrefs;refine⟨id,rc,tm,fV,s,p,f,by rw[vL];exact g1,g2,g3,g4,g5,λq hq=>?_⟩;obtain⟨q',GN,Xo⟩:=Mf yf hq;simp only[ayz,azc]at Xo;refine⟨Xo.1.2,?_⟩;rw[Xo.1.1];exact TJ hI hJ c2 (λk hk=>hrefs k (azJ.2 ⟨q,hq,hk⟩)) Xo.2 (g6 q' GN).2
  .obtain⟨_,a,qV,yw⟩:=NX h1;obtain⟨_,b,da,eR⟩:=NX h2;have:=hJ.inj a b id yw eR;subst this;exact akY c3 qV da
  .obtain⟨fX,a,qV,yw⟩:=NX hk;obtain⟨o,ho,_⟩:=TI fX;exact⟨du ho,(hJ.lt a id yw).2⟩
end
section
variable{Cx:Cs}
variable{P:Program}{N:Nat}{Y al:St}{R R':Rs}{X aN:Ph}{E:Nat->Env}{G ss vs:List IV}{V:SS}{d t:Nat}
theorem J.TK{Γ:Gm SE}{L:List (LO SE)}(hJ:J Cx (ay P G) R X Γ L E Y){pv:PV SE}(h:VR (ay P G) R X L Y ((E d).at t) pv):J Cx (ay P G) R X (Nw d t pv Γ) L E Y:=by
 refine{hJ with slot:=λd' t' GL HN=>?_};rcases l9 HN with⟨rfl,rfl,rfl⟩|⟨_,h3⟩
 .exact h
 .exact hJ.slot d' t' GL (Km Γ h3).2
theorem aan(hJ:J Cx (ay P G) R X V.g V.l E Y)(d t:Nat):∃R',J Cx (ay P G) R' X (zZ d t V).g (zZ d t V).l E Y/\(zZ d t V).n=V.n/\(zZ d t V).ln=V.ln:=by
 unfold zZ;split
 .rename_i k hg;split
  .rename_i s st cut fr es hk;obtain⟨R',h1,h2,h3⟩:=xn hJ k;have hv:=hJ.slot d t _ hg;have JN:cZ (ay P G) R' X (nV k V).l Y ((E d).at t) (.sr k):=h1.Tc hv;obtain⟨y,a1,a2,a3⟩:=Tb h2 (h3 _ _ _ _ _ hk) JN;refine⟨R',h2.TK (pv:=.one (.w fr es)) ⟨y,a1,a2,a3⟩,?_,?_⟩
   .rw[HL];exact h1.2.1
   .rw[aam];exact h1.2.2.1
  .exact⟨R,hJ,rfl,rfl⟩
 .exact⟨R,hJ,rfl,rfl⟩
theorem BK:∀(ws:List (Nat×Nat×Nat)) {V:SS} {R:Rs},J Cx (ay P G) R X V.g V.l E Y->∃R',J Cx (ay P G) R' X (settle ws V).g (settle ws V).l E Y/\(settle ws V).n=V.n/\(settle ws V).ln=V.ln
 |[],V,R,hJ=>⟨R,hJ,rfl,rfl⟩
 |(d,t,m)::ws,V,R,hJ=>by
  simp only[settle];split
  .obtain⟨R1,h1,h2,h3⟩:=aan hJ d t;obtain⟨R2,h4,h5,h6⟩:=BK ws h1;exact⟨R2,h4,h5.trans h2,h6.trans h3⟩
  .exact BK ws hJ
theorem yx(L:List (LO SE)):∀(g:List (Nat×Nat×PV SE)) {V:SS} {R:Rs},J Cx (ay P G) R X V.g V.l E Y->∃R',J Cx (ay P G) R' X (yq L g V).g (yq L g V).l E Y/\(yq L g V).n=V.n/\(yq L g V).ln=V.ln
 |[],V,R,hJ=>⟨R,hJ,rfl,rfl⟩
 |(d,t,pv)::g,V,R,hJ=>by
  unfold yq;split
  .rename_i hh;cases hh
  .rename_i d' t' k g' hh;cases hh;split
   .split
    .rename_i k' _;obtain⟨R1,h1,h2,_⟩:=xn hJ k';obtain⟨R2,h4,h5,h6⟩:=yx L g h2;exact⟨R2,h4,h5.trans h1.2.1,h6.trans h1.2.2.1⟩
    .exact yx L g hJ
   .exact yx L g hJ
  .rename_i p g' _ hh;cases hh;exact yx L g hJ
theorem ae3(ws:List (Nat×Nat×Nat))(H:SS){V:SS}{R:Rs}(hJ:J Cx (ay P G) R X V.g V.l E Y):∃R',J Cx (ay P G) R' X (ID ws H V).g (ID ws H V).l E Y/\(ID ws H V).n=V.n/\(ID ws H V).ln=V.ln:=by
 obtain⟨R1,h1,h2,h3⟩:=BK ws hJ;obtain⟨R2,h4,h5,h6⟩:=yx H.l H.g h1;exact⟨R2,h4,h5.trans h2,h6.trans h3⟩
theorem TL{L:List (LO SE)}{Γ:Gm SE}(hJ:J Cx (ay P G) R X Γ L E Y){x:IV}{b:Bool}{s:Nat}(hx:cZ (ay P G) R X L Y x (.nl b s)):
 J Cx (ay P G) R X Γ (L++[.row s af af af (.tr s .an)]) E Y/\la (ay P G) (ay P G) R X L Y R X (L++[.row s af af af (.tr s .an)]) Y (λ_=>False)/\cZ (ay P G) R X (L++[.row s af af af (.tr s .an)]) Y x (.sr L.length):=by
 obtain⟨hs,hx⟩:=hx;have hz:(SE.tr s .an).den P G=aa (.tree s []):=by simp[SE.den,hs]
 obtain⟨h1,h2⟩:=hJ.Aa (fr:=af) hs hz;exact⟨h2,h1,s,af,af,af,_,[],by simp,hz,.inl ⟨w6 hJ (ayA _),rfl,by subst hx;cases b<;>simp⟩⟩
theorem All2.set{O β:Type}{r:O->β->Prop}:∀{as:List O} {bs:List β} {i:Nat} {b:β},All2 r as bs->(∀a,as[i]?=aa a->r a b)->All2 r as (bs.set i b)
 |[],[],i,b,_,_=>by simp;trivial
 |a::as,b'::bs,i,b,h,hr=>by
  cases i with
  |zero=>exact⟨hr a rfl,h.2⟩
  |succ i=>exact⟨h.1,All2.set h.2 λa ha=>hr a (by simpa using ha)⟩
 |[],_::_,_,_,h,_=>h.elim
 |_::_,[],_,_,h,_=>h.elim
theorem aco(hJ:J Cx (ay P G) R X V.g V.l E Y)(d t j:Nat):J Cx (ay P G) R X (D8 d t j V).g (D8 d t j V).l E Y/\(D8 d t j V).n=V.n/\(D8 d t j V).ln=V.ln:=by
 unfold D8;split
 .rename_i b s hg;split
  .obtain⟨h1,_,h2⟩:=TL hJ (x:=(E d).at t) (b:=b) (s:=s) (hJ.slot d t _ hg);exact⟨h1.TK (pv:=.one (.sr V.l.length)) h2,rfl,rfl⟩
  .exact⟨hJ,rfl,rfl⟩
 .rename_i cs hg;split
  .rename_i b s hc;obtain⟨xs,yV,sb⟩:=hJ.slot d t _ hg;obtain⟨x,hx,hr⟩:=sb.Db hc;obtain⟨h1,h3,h2⟩:=TL hJ hr;refine⟨h1.TK (pv:=.ag _) ⟨xs,yV,(sb.mono λ_ _ cn=>cn.step h3 (Cl.a_ _)).set λa ha=>?_⟩,rfl,rfl⟩;rw[hx]at ha;cases ha;exact h2
  .exact⟨hJ,rfl,rfl⟩
 .exact⟨hJ,rfl,rfl⟩
theorem acp(hJ:J Cx (ay P G) R X V.g V.l E Y)(k j:Nat):∃R',J Cx (ay P G) R' X (D9 k j V).g (D9 k j V).l E Y/\(D9 k j V).n=V.n/\(D9 k j V).ln=V.ln:=by
 unfold D9;split
 .rename_i cs hk;split
  .rename_i b s hc;obtain⟨id,c7,g1,g2,g3,g4⟩:=hJ.obj k _ hk;obtain⟨x,hx,hr⟩:=g4.Db hc;obtain⟨h1,h3,h2⟩:=TL hJ hr;have lH:=du hk;have l8:(V.l++[LO.row s af af af (SE.tr s SE.an)])[k]?=aa (.var cs):=by rw[ayK lH];exact hk
   obtain⟨fq,bR⟩:=h1.vu (R':=R) (bad:=λ_=>False) (lg:=.var (cs.set j (.sr V.l.length))) (fK:=.cells c7 0 0) g1 l8 (λ_ _=>rfl)
    (λm hm=>by rw[g2]at hm;cases hm) (λm _ _ _ hm=>by rw[g2]at hm;cases hm) (λm _ _ _ hm=>by rw[g2]at hm;cases hm)
    (λ_ _=>⟨_,rfl⟩) (λ_ _ h=>by cases h) (λ_ _ _ _ _ h=>by cases h) (λ_ _ pv _=>pv.a_) (λ_ o _ _=>o.a_)
    (λfq=>⟨id,c7,g1,g2,by rw[St.dv,if_pos rfl],((g4.mono λ_ _ cn=>cn.step h3 (Cl.a_ _)).set λa ha=>by rw[hx]at ha;cases ha;exact h2).mono λ_ _ cn=>cn.step fq (Cl.a_ _)⟩)
   have LL:Y.put id (.cells c7 0 0)=Y:=by
    unfold St.put
    have:Y.t.set id (.cells c7 0 0)=Y.t:=T.WF.ext (hJ.wf.set _ _) hJ.wf λi=>by
     rw[T.gV];split
     .rename_i hh;subst hh;exact g3.symm
     .rfl
    rw[this]
   rw[LL]at bR
   have Dh:(V.l++[LO.row s af af af (SE.tr s SE.an)]).set k (LO.var (cs.set j (Cl.sr V.l.length)))=V.l.set k (LO.var (cs.set j (Cl.sr V.l.length)))++[LO.row s af af af (SE.tr s SE.an)]:=by
    rw[List.set_append_left _ _ lH]
   rw[Dh]at bR;exact⟨R,bR,rfl,rfl⟩
  .exact⟨R,hJ,rfl,rfl⟩
 .split
  .obtain⟨R',h1,h2,h3⟩:=xn hJ k;exact⟨R',h2,h1.2.1,h1.2.2.1⟩
  .exact⟨R,hJ,rfl,rfl⟩
 .exact⟨R,hJ,rfl,rfl⟩
theorem Fu(h:Hint):∀(l:List (Nat×Nat×Nat)) {V:SS},J Cx (ay P G) R X V.g V.l E Y->J Cx (ay P G) R X (wR h l V).g (wR h l V).l E Y/\(wR h l V).n=V.n/\(wR h l V).ln=V.ln
 |[],V,hJ=>⟨hJ,rfl,rfl⟩
 |(d,t,j)::l,V,hJ=>by
  simp only[wR];split
  .obtain⟨h1,h2,h3⟩:=aco hJ d t j;obtain⟨h4,h5,h6⟩:=Fu h l h1;exact⟨h4,h5.trans h2,h6.trans h3⟩
  .exact Fu h l hJ
theorem Mg:∀(l:List (Nat×Nat)) {V:SS} {R:Rs},J Cx (ay P G) R X V.g V.l E Y->∃R',J Cx (ay P G) R' X (wS l V).g (wS l V).l E Y/\(wS l V).n=V.n/\(wS l V).ln=V.ln
 |[],V,R,hJ=>⟨R,hJ,rfl,rfl⟩
 |(k,j)::l,V,R,hJ=>by
  simp only[wS];obtain⟨R1,h1,h2,h3⟩:=acp hJ k j;obtain⟨R2,h4,h5,h6⟩:=Mg l h1;exact⟨R2,h4,h5.trans h2,h6.trans h3⟩
theorem TM(h:Hint)(hJ:J Cx (ay P G) R X V.g V.l E Y):∃R',J Cx (ay P G) R' X (wT h (settle h.wO V)).g (wT h (settle h.wO V)).l E Y/\(wT h (settle h.wO V)).n=V.n/\(wT h (settle h.wO V)).ln=V.ln:=by
 obtain⟨R',h1,h2,h3⟩:=BK h.wO hJ;obtain⟨h4,h5,h6⟩:=Fu h h.LQ.reverse h1;obtain⟨R2,h7,h8,h9⟩:=Mg h.AE.reverse h4;exact⟨R2,h7,h8.trans (h5.trans h2),h9.trans (h6.trans h3)⟩
end
section
variable{Cx:Cs}
variable{P:Program}{N:Nat}{Y al:St}{R R':Rs}{X aN:Ph}{E:Nat->Env}{G:List IV}{ro:Nat}{Z:Io}{w:World}{cfg:eS}{self:m8}
variable{C:Cr}{Q:IV->Prop}{K:List (List IV->Prop)}{V:SS}{d f0:Nat}{o:Oper}{k:PV SE->SS->ak}{L:List (LO SE)}{Γ:Gm SE}
theorem Mh{g:FuncId}{bs:List (Nat×Nat)}{args:List (PV SE)}{t:TypeId}{c:FuncId}{wC:List (Nat×Nat)}(h:IF cfg g bs args=aa (t,c,wC)):bs=[]/\args=[.one (.fn c wC)]/\guardOf cfg g=aa t:=by
 unfold IF at h;split at h
 .rw[ayG]at h;obtain⟨t',h1,h2⟩:=h;cases h2;exact⟨rfl,rfl,h1⟩
 .cases h
theorem HP{j:Nat}(h:Hw d V=aa j):cN d 2 V.g=aa (.one (.pt j 0 1))/\V.l[j]?=aa (.var [.v (.i 0)]):=by
 unfold Hw at h;split at h
 .rename_i j' hg;split at h
  .rename_i z hj;split at h
   .rename_i hz;cases h;have:z=0:=by simpa using hz
    subst this;exact⟨hg,hj⟩
   .cases h
  .cases h
 .cases h
theorem TN(hJ:J Cx (ay P G) R X V.g V.l E Y){j:Nat}(h:Hw d V=aa j){sa:Nat}(he:(E d).at 2=.ptr sa 0 0 1):X j=aa sa/\R sa=ah/\Y.at sa=aa (.cells [.int 0] 0 0):=by
 obtain⟨hg,hj⟩:=HP h;obtain⟨id,cs,h1,h2,h3⟩:=hJ.slot d 2 _ hg;obtain⟨bz,c7,h4,h5,h6,h7⟩:=hJ.obj j _ hj;rw[he]at h3;have hid:id=sa:=by injection h3 with e;exact e.symm
 subst hid;rw[h1]at h4;cases h4;refine⟨h1,h5,?_⟩;rw[h6]
 match c7,h7 with
 |[x],h7=>
  obtain⟨y,h8,h9,_⟩:=h7.1;simp only[ay,SE.den,ayB]at h8;subst h8;rw[cQ h9]
theorem J.acq(hJ:J Cx (ay P G) R X Γ L E Y){j id:Nat}{cs cY:List (Cl SE)}{c7:List IV}(h1:X j=aa id)(hj:L[j]?=aa (.var cs))(h2:R id=ah)(hc:All2 (cZ (ay P G) R X L Y) c7 cY):
 J Cx (ay P G) R X Γ (L.set j (.var cY)) E (Y.put id (.cells c7 0 0))/\la (ay P G) (ay P G) R X L Y R X (L.set j (.var cY)) (Y.put id (.cells c7 0 0)) (λ_=>False):=by
 obtain⟨fq,bR⟩:=hJ.vu (R':=R) (bad:=λ_=>False) (lg:=.var cY) (fK:=.cells c7 0 0) h1 hj (λ_ _=>rfl)
  (λm hm=>by rw[h2]at hm;cases hm) (λm _ _ _ hm=>by rw[h2]at hm;cases hm) (λm _ _ _ hm=>by rw[h2]at hm;cases hm)
  (λ_ _=>⟨_,rfl⟩) (λ_ _ h=>by cases h) (λ_ _ _ _ _ h=>by cases h) (λ_ _ pv _=>pv.a_) (λ_ o _ _=>o.a_)
  (λfq=>⟨id,_,h1,h2,by rw[St.dv,if_pos rfl],hc.mono λ_ _ cn=>cn.step fq (Cl.a_ _)⟩)
 exact⟨bR,fq⟩
theorem J.aiD(hJ:J Cx (ay P G) R X Γ L E Y)(ob fK:Ob):J Cx (ay P G) R (cA X L.length Y.n) Γ ((L++[LO.dead]).set L.length LO.dead) E ((Y.add ob).put Y.n fK)/\
 la (ay P G) (ay P G) R X L Y R (cA X L.length Y.n) (L++[LO.dead]) (Y.add ob) (λ_=>False)/\
 la (ay P G) (ay P G) R (cA X L.length Y.n) (L++[LO.dead]) (Y.add ob) R (cA X L.length Y.n) ((L++[LO.dead]).set L.length LO.dead) ((Y.add ob).put Y.n fK) (λ_=>False):=by
 have hs:=D3 hJ ob .dead;have bR:=hJ.AB ob .dead trivial;have hn:=hJ.sV
 obtain⟨eY,fE⟩:=bR.vu (k:=L.length) (id:=Y.n) (lo:=.dead) (R':=R) (bad:=λ_=>False) (lg:=.dead) (fK:=fK) (by simp[cA]) ax (λ_ _=>rfl)
  (λm hm=>by rw[hn]at hm;cases hm) (λm _ _ _ hm=>by rw[hn]at hm;cases hm) (λm _ _ _ hm=>by rw[hn]at hm;cases hm)
  (λ_ h=>by cases h) (λ_ _ h=>by cases h) (λ_ _ _ _ _ h=>by cases h) (λ_ _ pv _=>pv.a_) (λ_ o _ _=>o.a_) (λ_=>trivial)
 exact⟨fE,hs,eY⟩
theorem Qf(hC:jK P C)(bG:oE Cx P C Q self)(hJ:J Cx (ay P G) R X V.g V.l E Y)(hn:G.length=V.n)(hK:K.length=V.lv)(cD:(E d).n=V.nt){g c:FuncId}{t:TypeId}{dst:Option Nat}{wC:List (Nat×Nat)}{cl:IV}(hg:g<P.funcs.size)
 (jf:VR (ay P G) R X V.l Y cl (.one (.fn c wC)))(hs:(LS P cfg self d f0 dst g t c wC V k).sat P C Q K G){RW:Nat->IV->St->Prop}
 (hk:∀(pv:PV SE) (V':SS) I K' R' aN E' al v,yv Cx P d E K G V.nt V' I K' R' aN E' al->E' d=E d->VR (ay P (G++I)) R' aN V'.l al v pv->(k pv V').sat P C Q K' (G++I)->∃b,∀N,b<=N->al.n<=N/\RW N v al):
 ∃b,∀N,b<=N->dM P N g [cl] Y (RW N):=by
 unfold LS at hs;obtain⟨xs,z,hx,hc,hs⟩:=hs;obtain⟨t',rfl,aum⟩:=(hC _ _ _ _ hc).2.2.2.1 g hg rfl
 have htt:t'=t:=by
  unfold lQ at hx;simp[fa,SE.den]at hx;omega
 subst htt;have hJu:J Cx (ay P (G++[z])) R X V.g V.l E Y:=hJ.up λe z h=>SE.dN P e h;have aun:VR (ay P (G++[z])) R X V.l Y cl (.one (.fn c wC)):=jf;have jU:All2 (cZ (ay P (G++[z])) R X V.l Y) [.int 0] [.v (.i 0)]:=⟨⟨.int 0,rfl,.raw _,rfl⟩,trivial⟩;have cm:=D3 hJu (.cells [.int 0] 0 0) (.var [.v (.i 0)])
 have bR:J Cx (ay P (G++[z])) R (cA X V.l.length Y.n) V.g (V.l++[.var [.v (.i 0)]]) E (Y.add (.cells [.int 0] 0 0)):=
  hJu.AB _ _ ⟨Y.n,[.int 0],by simp[cA],hJu.sV,by simp,jU.mono λ_ _ cn=>cn.step cm (Cl.a_ _)⟩
 have HQ:VR (ay P (G++[z])) R (cA X V.l.length Y.n) (V.l++[.var [.v (.i 0)]]) (Y.add (.cells [.int 0] 0 0)) (.ptr Y.n 0 0 1) (.one (.pt V.l.length 0 1)):=⟨Y.n,[.v (.i 0)],by simp[cA],by simp,rfl⟩;have auo:VR (ay P (G++[z])) R (cA X V.l.length Y.n) (V.l++[.var [.v (.i 0)]]) (Y.add (.cells [.int 0] 0 0)) cl (.one (.fn c wC)):=aun.step cm (PV.a_ _)
 let e1:Env:=(⟨3,.lf⟩:Env).put (aa 2) (.ptr Y.n 0 0 1)
 have lF:e1.at 2=.ptr Y.n 0 0 1:=dG (by decide);have ae4:e1.n=3:=fc ..
 have fE:J Cx (ay P (G++[z])) R (cA X V.l.length Y.n) ((d+1,2,.one (.pt V.l.length 0 1))::eV (d+1) V.g) (V.l++[.var [.v (.i 0)]]) (ly E (d+1) e1) (Y.add (.cells [.int 0] 0 0)):=by
  refine{bR with slot:=λd' t pv HN=>?_};rcases l9 HN with⟨rfl,rfl,rfl⟩|⟨bt,HN⟩
  .rw[bO,lF];exact HQ
  .obtain⟨h1,h2⟩:=py HN;rw[fi _ _ _ h1];exact bR.slot d' t pv h2
 have cL:∃fn,P.funcs[c]?=aa fn/\fn.body.isSome=ab/\(fn.name != "runtime.NumGoroutine")=ab:=by
  unfold oT at hs;split at hs<;>try exact hs.elim
  rename_i fn cL;split at hs<;>try exact hs.elim
  rename_i body hb;split at hs<;>try exact hs.elim
  split at hs<;>try exact hs.elim
  rename_i jh;simp only[ayz]at jh;exact⟨fn,cL,by simp[hb],jh.2⟩
 obtain⟨fn,cL,hb,oD⟩:=cL;obtain⟨ys,kO,uS⟩:=nw (args:=[]) auo cL hb oD;rw[azl]at kO
 obtain⟨_,_,_,_,b,hcx⟩:=zn (d:=d+1) (V:={V with n:=V.n+1,l:=V.l++[.var [.v (.i 0)]],g:=(d+1,2,.one (.pt V.l.length 0 1))::eV (d+1) V.g,nt:=3}) (G:=G++[z]) (E:=ly E (d+1) e1)
  (RW:=λN _ cU=>cU.at Y.n=aa (.cells [.int 0] 0 0)/\cU.n<=N/\RW N (.int 0) (cU.put Y.n (.cells [.int 0] 0 0)))
  (PW:=λN v cU=>∃u,v=.dR t' (.agg [.raw u])/\ao (.raw u)=ab/\cU.at Y.n=aa (.cells [.int 0] 0 0)/\cU.n+1<=N/\Y.n<cU.n/\RW N (.raw u) (zY cU Y.n (.raw u)))
  bG fE (by simp[hn]) hK (by rw[bO,ae4]) uS hs (by
   intro pv V' I K' R' aN E' al v hf mB hv br;split at br<;>try exact br.elim
   rename_i j hj;have TO:(E' (d+1)).at 2=.ptr Y.n 0 0 1:=by rw[mB,bO,lF]
   obtain⟨h1,h2,h3⟩:=TN hf.hJ hj TO;obtain⟨_,jB⟩:=HP hj;obtain⟨vG,_⟩:=hf.hJ.acq h1 jB h2 (c7:=[.int 0]) (cY:=[.v (.i 0)]) ⟨⟨.int 0,rfl,.raw _,rfl⟩,trivial⟩;have vM:E' d=E d:=by rw[hf.hE d ai,fi _ _ _ ai]
   obtain⟨b,hb⟩:=hk (.one (.v (.i 0))) {V' with g:=eV (d+1) V'.g,nt:=V.nt,l:=V'.l.set j (.var [.v (.i 0)])} ([z]++I) K' R' aN E' (al.put Y.n (.cells [.int 0] 0 0)) (.int 0)
    ⟨hf.hK,hf.fX,rfl,by rw[<-ayJ];exact uT (V:={V' with l:=V'.l.set j (.var [.v (.i 0)])}) vG (d+1),by rw[<-ayJ];exact hf.hn,λi hi=>by rw[hf.hE i ai,fi _ _ _ ai],by rw[vM]⟩ vM
    (by rw[<-ayJ];exact⟨.int 0,rfl,.raw _,rfl⟩) (by rw[<-ayJ];exact br)
   exact⟨max b al.n,λN hN=>⟨by omega,h3,by omega,(hb N ai).2⟩⟩) (by
   intro tt pv V' I K' R' aN E' al v hf mB hv br;split at br<;>try exact br.elim
   rename_i e j hj;split at br<;>try exact br.elim
   rename_i htt;have:=ayH htt;subst this;obtain⟨⟨y0,TP⟩,br⟩:=br;have TO:(E' (d+1)).at 2=.ptr Y.n 0 0 1:=by rw[mB,bO,lF]
   obtain⟨h1,h2,h3⟩:=TN hf.hJ hj TO;obtain⟨_,jB⟩:=HP hj;obtain⟨vs,rfl,db⟩:=hv
   obtain⟨x0,rfl,y,AA,sU,P0⟩:∃x0,vs=[x0]/\∃y,ay P (G++[z]++I) e=aa y/\jj x0 y/\ao y=ab:=by
    match vs,db with
    |[x0],db=>exact⟨x0,rfl,db.1⟩
   have hyr:aF y=ab:=by
    have aeE:e.den P (G++[z]++I)=aa y:=AA;simp only[SE.den,aeE,ayx]at TP;split at TP
    .assumption
    .cases TP
   obtain⟨u,rfl⟩:∃u,y=.raw u:=by
    cases y<;>simp[aF]at hyr;exact⟨_,rfl⟩
   have hxu:=cQ sU;subst hxu;obtain⟨Qg,cd,lE⟩:=hf.hJ.aiD (.cells [.int 0] 0 0) (.cells [.raw u] 0 0);have aup:=du jB;have ae0:cA aN V'.l.length al.n j=aa Y.n:=by simp[cA,show j≠V'.l.length by omega,h1]
   have auq:((V'.l++[LO.dead]).set V'.l.length LO.dead)[j]?=aa (.var [.v (.i 0)]):=by
    rw[aAo ai,ayK aup];exact jB
   obtain⟨hJb,_⟩:=Qg.acq ae0 auq h2 (c7:=[.raw u]) (cY:=[.v e]) ⟨⟨.raw u,AA,.raw _,P0⟩,trivial⟩;have aj:=(hf.hJ.lt j Y.n h1).2;have vM:E' d=E d:=by rw[hf.hE d ai,fi _ _ _ ai]
   obtain⟨b,hb⟩:=hk (.one (.v e)) {V' with g:=eV (d+1) V'.g,nt:=V.nt,l:=((V'.l++[LO.dead]).set V'.l.length LO.dead).set j (.var [.v e])} ([z]++I) K' R' (cA aN V'.l.length al.n) E' (zY al Y.n (.raw u)) (.raw u)
    ⟨hf.hK,hf.fX,rfl,by rw[<-ayJ];exact uT (V:={V' with l:=((V'.l++[LO.dead]).set V'.l.length LO.dead).set j (.var [.v e])}) hJb (d+1),by rw[<-ayJ];exact hf.hn,λi hi=>by rw[hf.hE i ai,fi _ _ _ ai],by rw[vM]⟩ vM
    (by rw[<-ayJ];exact⟨.raw u,AA,.raw _,P0⟩) (by rw[<-ayJ];exact br)
   refine⟨max b (al.n+1),λN hN=>⟨by omega,u,rfl,P0,h3,by omega,aj,(hb N ai).2⟩⟩)
 refine⟨max b (Y.n+1),λN hN=>?_⟩;exact aum N cl c ys Y _ _ _ kO ai (hcx N ai) (λv cU h=>h) λv cU h=>h
end
section
variable{Cx:Cs}
variable{P:Program}{N:Nat}{Y al:St}{R R':Rs}{X aN:Ph}{E:Nat->Env}{G:List IV}{ro:Nat}{Z:Io}{w:World}{cfg:eS}{self:m8}
variable{C:Cr}{Q:IV->Prop}{K:List (List IV->Prop)}{V:SS}{d f0:Nat}{o:Oper}{k:PV SE->SS->ak}{L:List (LO SE)}{Γ:Gm SE}{rd:Option Nat}{df:List Df}
variable{kx:Kx}{sk:List Nat}{ops:Array Oper}{l:List Oper}{kk:SS->ak}{CW:Nat->Env->St->Prop}{CX:Nat->lP}
def mC(e:Env)(sk:List Nat):Prop:=∀t,yL sk t=ab->e.at t=.undef
theorem mC.nil(e:Env):mC e []:=λ_ h=>by cases h
theorem mC.put{e:Env}{sk:List Nat}(h:mC e sk)(dst:Option Nat)(x:IV):mC (e.put dst x) (vA sk dst):=by
 cases dst with
 |none=>exact h
 |some d=>
  intro t ht;obtain⟨h1,h2⟩:=Dc ht;rw[gd h2];exact h t h1
theorem mC.add{e:Env}{sk:List Nat}(h:mC e sk){dst:Option Nat}(hd:∀t,dst=aa t->t<e.n):mC (e.put dst .undef) (IL sk dst):=by
 cases dst with
 |none=>exact h
 |some d=>
  intro t ht;rcases uL ht with rfl|ht
  .exact dG (hd _ rfl)
  .exact h.put (aa d) .undef t ht
theorem mC.agD{e:Env}{sk:List Nat}(h:mC e sk){ops:Array Oper}{o:Oper}(hs:oU sk ops o=ab):aT o ops e=af:=by
 unfold oU at hs;unfold aT;split at hs<;>try (cases hs;done)
 rename_i j w hg;rw[hg];simp only;split at hs<;>try (cases hs;done)
 rename_i t ht;rw[ht];simp only;rw[h t hs];split
 .rfl
 .rfl
def Eg(Cx:Cs)(P:Program)(C:Cr)(Q:IV->Prop)(cfg:eS)(self:m8)(kx:Kx)(d f0:Nat)(ops:Array Oper)(rd:Option Nat)(df:List Df)(kk:SS->ak)(CX:Nat->lP)(sk:List Nat)(l:List Oper):Prop:=
 ∀(V:SS) G K R X E Y,mC (E d) sk->(gY P cfg self kx Cx d f0 af ops sk l V kk).sat P C Q K G->J Cx (ay P G) R X V.g V.l E Y->G.length=V.n->K.length=V.lv->(E d).n=V.nt->KS Cx P C Q d E K G V.nt kk (λN e Y=>CX N .normal e Y)->KP Cx P C Q d E K G V.nt kx (λN v e Y=>CX N (.cw v) e Y)->
  ∃b,∀N,b<=N->eU P N rd ops l (E d) df Y (CX N)
theorem kG(ih:Eg Cx P C Q cfg self kx d f0 ops rd df kk CX sk l){dst:Option Nat}(su:∀x,mC ((E d).put dst x) sk)(hd:∀t,dst=aa t->t<(E d).n){nt:Nat}(cD:(E d).n=nt)(eh:KS Cx P C Q d E K G nt kk (λN e Y=>CX N .normal e Y))(kT:KP Cx P C Q d E K G nt kx (λN v e Y=>CX N (.cw v) e Y))
 {V1:SS}{I:List IV}{K1:List (List IV->Prop)}{R1:Rs}{dV:Ph}{E1:Nat->Env}{au:St}{x:IV}{pv:PV SE}
 (hJ:J Cx (ay P (G++I)) R1 dV V1.g V1.l E1 au)(hn:(G++I).length=V1.n)(hK:K<+:K1)(fX:K1.length=V1.lv)(lR:V1.nt=nt)(hE:∀j,j<d->E1 j=E j)(mB:E1 d=E d)
 (hx:VR (ay P (G++I)) R1 dV V1.l au x pv)(hs:(gY P cfg self kx Cx d f0 af ops sk l (V1.cy d dst pv) kk).sat P C Q K1 (G++I)):
 ∃b,∀N,b<=N->eU P N rd ops l ((E d).put dst x) df au (CX N):=by
 have bR:=Fq (d:=d) (dst:=dst) hJ hx (by rw[mB];exact hd);have N3:(V1.cy d dst pv).nt=nt:=by cases dst<;>exact lR
 have ae5:(V1.cy d dst pv).lv=V1.lv:=by cases dst<;>rfl
 obtain⟨b,hb⟩:=ih (V1.cy d dst pv) (G++I) K1 R1 dV _ au (by rw[bO,mB];exact su x) hs bR (by rw[HL];exact hn) (by rw[ae5];exact fX) (by rw[bO,fc,mB,cD,N3]) (by
  rw[N3];exact eh.fwd hK (λj hj=>by rw[fi _ _ _ ai];exact hE j hj) (by rw[bO,fc,mB])) (by
  rw[N3];exact kT.fwd hK (λj hj=>by rw[fi _ _ _ ai];exact hE j hj) (by rw[bO,fc,mB]))
 refine⟨b,λN hN=>?_⟩;have:=hb N hN;rw[bO,mB]at this;exact this
theorem acr{sX:Bool}{g:FuncId}{c8:List (PV SE)}(h:AJ P cfg d sX o V=aa (g,c8)):
 ∃c f bs,o.op=.call c/\c.callee=.value f/\cg P d V 0 f=.one (.fn g bs)/\c8=kF P d V c.args.toList c.argTypes.toList++bs.map (λ(p:Nat×Nat)=>.one (.pt p.1 0 p.2)):=by
 unfold AJ at h;split at h<;>try (cases h;done)
 split at h<;>try (cases h;done)
 rename_i c ho;split at h<;>try (cases h;done)
 rename_i f hc;split at h<;>try (cases h;done)
 rename_i g' bs hf;split at h<;>try (cases h;done)
 simp only[ayB,ay7]at h;obtain⟨rfl,rfl⟩:=h;exact⟨c,f,bs,ho,hc,hf,rfl⟩
theorem KM{es:List SE}{vs:List IV}(h:lQ (P:=P) G (fa es)=aa vs):All2 (λ(e:SE) y=>e.den P G=aa y) es vs:=by
 induction es generalizing vs with
 |nil=>
  unfold lQ at h;simp only[fa,SE.den,ayB]at h;subst h;trivial
 |cons e es ih=>
  unfold lQ at h;simp only[fa,SE.den]at h;cases h1:e.den P G with
  |none=>rw[h1]at h;simp at h
  |some x=>
   rw[h1]at h;simp only[ayx]at h;cases h2:(fa es).den P G with
   |none=>rw[h2]at h;simp at h
   |some y=>
    rw[h2]at h;simp only[ayx]at h;cases y<;>simp only at h<;>try (cases h;done)
    rename_i cs;cases h;exact⟨h1,ih (by unfold lQ;rw[h2])⟩
theorem ae6{g:FuncId}{dst:Option Nat}{c8:List (PV SE)}(h:∀fn,P.funcs[g]?=aa fn->fn.body.isSome=ab->(fn.name != "runtime.NumGoroutine")=ab->False):∃n,IG P cfg self kx d f0 dst g c8 V k=.fail n:=by
 unfold IG;split
 .split
  .rename_i fn cL;split
   .rename_i hc;simp only[ayz]at hc;exact(h fn cL hc.1 hc.2).elim
   .exact⟨_,rfl⟩
  .exact⟨_,rfl⟩
 .unfold oT;split
  .rename_i fn cL;split
   .rename_i body hb;split
    .exact⟨_,rfl⟩
    .split
     .rename_i hc;simp only[ayz]at hc;exact(h fn cL (by simp[hb]) hc.2).elim
     .exact⟨_,rfl⟩
   .exact⟨_,rfl⟩
  .exact⟨_,rfl⟩
theorem ae7(hC:jK P C)(bG:oE Cx P C Q self)(hJ:J Cx (ay P G) R X V.g V.l E Y)(hn:G.length=V.n)(hK:K.length=V.lv)(cD:(E d).n=V.nt){g:FuncId}{dst:Option Nat}{args:List IV}{c8:List (PV SE)}(bE:All2 (VR (ay P G) R X V.l Y) args c8)
 (hs:(IG P cfg self kx d f0 dst g c8 V k).sat P C Q K G){RW PW:Nat->IV->St->Prop}
 (hk:∀(pv:PV SE) (V':SS) I K' R' aN E' al v,yv Cx P d E K G V.nt V' I K' R' aN E' al->E' d=E d->VR (ay P (G++I)) R' aN V'.l al v pv->(k pv V').sat P C Q K' (G++I)->∃b,∀N,b<=N->al.n<=N/\RW N v al)
 (hkx:∀t (pv:PV SE) (V':SS) I K' R' aN E' al v,yv Cx P d E K G V.nt V' I K' R' aN E' al->E' d=E d->VR (ay P (G++I)) R' aN V'.l al v pv->(kx t pv V').sat P C Q K' (G++I)->∃b,∀N,b<=N->al.n<=N/\PW N (.dR t v) al):
 ∃fn,P.funcs[g]?=aa fn/\fn.body.isSome=ab/\(fn.name != "runtime.NumGoroutine")=ab/\∃b,∀N,b<=N->vv P N g args Y (RW N) (PW N):=by
 unfold IG at hs;split at hs
 .rename_i t c wC vi;obtain⟨_,rfl,_⟩:=Mh vi;split at hs<;>try exact hs.elim
  rename_i fn cL;split at hs<;>try exact hs.elim
  rename_i cF;simp only[ayz]at cF
  match args,bE with
  |[cl],bE=>
   obtain⟨b,hb⟩:=Qf hC bG hJ hn hK cD (azj.1 cL).1 bE.1 hs hk;exact⟨fn,cL,cF.1,cF.2,b,λN hN=>(hb N hN).toX⟩
 .exact zn bG hJ hn hK cD bE hs hk hkx
theorem ae8(hC:jK P C)(bG:oE Cx P C Q self)(hJ:J Cx (ay P G) R X V.g V.l E Y)(hn:G.length=V.n)(hK:K.length=V.lv)(cD:(E d).n=V.nt){g:FuncId}{dst:Option Nat}{args:List IV}{c8:List (PV SE)}(bE:All2 (VR (ay P G) R X V.l Y) args c8)
 (hd:∀t,dst=aa t->t<(E d).n)
 {k:SS->ak}(hs:(IH P cfg self kx d f0 dst g c8 V k).sat P C Q K G){RW PW:Nat->IV->St->Prop}
 (hk:∀(H:SS) vs R' aN E' al v,J Cx (ay P (G++vs)) R' aN H.g H.l E' al->(G++vs).length=H.n->H.lv=V.lv->H.nt=V.nt->(∀j,j<d->E' j=E j)->E' d=(E d).put dst v->(k H).sat P C Q K (G++vs)->∃b,∀N,b<=N->al.n<=N/\RW N v al)
 (hkx:∀t (pv:PV SE) (V':SS) I K' R' aN E' al v,yv Cx P d E K G V.nt V' I K' R' aN E' al->E' d=E d->VR (ay P (G++I)) R' aN V'.l al v pv->(kx t pv V').sat P C Q K' (G++I)->∃b,∀N,b<=N->al.n<=N/\PW N (.dR t v) al):
 ∃fn,P.funcs[g]?=aa fn/\fn.body.isSome=ab/\(fn.name != "runtime.NumGoroutine")=ab/\∃b,∀N,b<=N->vv P N g args Y (RW N) (PW N):=by
 unfold IH at hs;simp only at hs;split at hs
 .exact hs.elim
 .simp only[ak.sat]at hs;refine ae7 (V:={V with lv:=V.lv+1}) hC bG hJ hn (by simp[hK]) cD bE hs ?_ (λt pv V' I K' R' aN E' al v hf=>hkx t pv V' I K' R' aN E' al v ⟨(List.prefix_append K _).trans hf.hK,hf.fX,hf.cD,hf.hJ,hf.hn,hf.hE,hf.GS⟩);intro pv V' I K' R' aN E' al v hf mB hv br;have bR:=Fq (d:=d) (dst:=dst) hf.hJ hv (by rw[mB];exact hd);obtain⟨R2,fE,yb,_⟩:=TM _ bR;split at br
  .rename_i es eH hi;obtain⟨vs,p,h1,h2,h3⟩:=br;obtain⟨hlen,vG⟩:=N2 (ss:=G) fE hn ⟨I,rfl⟩ hi (KM h1);obtain⟨t,ht⟩:=hf.hK;rw[<-ht,ayJ,ay0 ai,hK,Nat.sub_self]at h2;simp only[List.singleton_append,List.getElem?_cons_zero,ayB]at h2;subst h2;exact hk _ vs R2 _ _ al v vG (by rw[ayC,hlen,hn]) rfl rfl (λj hj=>by rw[fi _ _ _ ai];exact hf.hE j hj) (by rw[bO,mB]) h3.2
  .exact br.elim
end
section
variable{Cx:Cs}
variable{P:Program}{N:Nat}{Y al:St}{R R':Rs}{X aN:Ph}{E:Nat->Env}{G:List IV}{cfg:eS}
variable{C:Cr}{Q:IV->Prop}{K:List (List IV->Prop)}{V:SS}{d f0:Nat}{o:Oper}{k:PV SE->SS->ak}{L:List (LO SE)}{Γ:Gm SE}
theorem N4{e:SE}{z:IV}(h:(SE.rws e).den P G=aa z):∃s es,e.den P G=aa (.tree s es)/\z=.tree s es/\∀e∈es,∀c∈cellsOf e,aF c=ab:=by
 simp only[SE.den,ayV]at h;obtain⟨y,h1,h2⟩:=h;split at h2<;>try (cases h2;done)
 split at h2<;>try (cases h2;done)
 rename_i cb;cases h2;rw[ayP]at cb;exact⟨_,_,h1,rfl,λe he c hc=>ayP.1 (cb e he) c hc⟩
def Xw(Cx:Cs)(P:Program)(C:Cr)(Q:IV->Prop)(K:List (List IV->Prop))(E:Nat->Env)(G:List IV)(lv:Nat×Nat)(k:PV SE->SS->ak)(KW:Nat->IV->St->Prop):Prop:=
 ∀(V1:SS) (I:List IV) (R1:Rs) (dV:Ph) (au:St) (x:IV) (pv:PV SE),J Cx (ay P (G++I)) R1 dV V1.g V1.l E au->V1.ln=lv->(G++I).length=V1.n->V1.ln=lv->VR (ay P (G++I)) R1 dV V1.l au x pv->(k pv V1).sat P C Q K (G++I)->∃b,∀N,b<=N->KW N x au
theorem ae9{fr:Bool}{x:IV}{cs:List IV}(h:bD fr R Y x (.agg cs)):∃xs,x=.agg xs/\All2 (bD fr R Y) xs cs:=by
 cases h with
 |agg sc _ hl hh=>exact⟨sc,rfl,.mk hl hh⟩
 |pure _ hf hp=>
  refine⟨cs,rfl,.mk rfl λi a b h1 h2=>?_⟩;rw[h1]at h2;cases h2;cases hp with
  |agg _ hh=>exact .pure a hf (hh a (ayM h1))
theorem Fv{t:TypeId}{e:SE}{x z:IV}{f:ak}(hz:e.den P G=aa z)(hc:jj x z)(hs:(tj P t e f).sat P C Q K G):f.sat P C Q K G/\VR (ay P G) R X L Y x (ofType P t e):=by
 unfold tj at hs;unfold ofType;by_cases ha:isAgg P t=ab
 .rw[if_pos ha]at hs;obtain⟨⟨y,hy⟩,hk⟩:=hs;simp only[SE.den,hz,ayx]at hy;split at hy
  .rename_i cs;split at hy
   .rename_i jh;obtain⟨xs,rfl,pc⟩:=ae9 hc;refine⟨hk,?_⟩;rw[if_pos ha];refine⟨xs,rfl,.mk (by simp[pc.len,jh.1]) λi a b h1 h2=>?_⟩;have hi:=(ayw.1 h1).1;rw[pc.len]at hi;rw[ayR,aAO ai]at h2;simp only[ay_,ayB]at h2;subst h2;have hci:cs[i]?=aa cs[i]:=ayv hi;have bu:Ev.ao cs[i]=ab:=(ayP.1 jh.2) _ (ayy hi);exact⟨cs[i],by simp[ay,SE.den,hz,hci,yr,bu],pc.get h1 hci,bu⟩
   .cases hy
  .cases hy
 .rw[if_neg ha]at hs;obtain⟨⟨y,hy⟩,hk⟩:=hs;obtain⟨h1,h2⟩:=vF hy;rw[hz]at h1;cases h1;rw[if_neg ha];exact⟨hk,z,hy,hc,h2⟩
theorem N5:∀{zs:List SE} {v:IV},(fa zs).den P G=aa v->∃ys,v=.agg ys/\All2 (λ(z:SE) y=>z.den P G=aa y) zs ys
 |[],v,h=>by
  simp only[fa,SE.den,ayB]at h;exact⟨[],h.symm,trivial⟩
 |z::zs,v,h=>by
  simp only[fa,SE.den]at h;obtain⟨x,hx,h⟩:=ayV.1 h;obtain⟨w,hw,h⟩:=ayV.1 h;obtain⟨ys,rfl,uS⟩:=N5 hw;simp only[ayB]at h;exact⟨x::ys,h.symm,hx,uS⟩
theorem Mi:∀(args:List (PV SE)),args=(uO args).1.map (λp=>PV.one (Cl.pt p.1 0 p.2))++(uO args).2
 |[]=>rfl
 |pv::r=>by
  unfold uO;split
  .rename_i k ext r' h;cases h;simp only[azs,azv];rw[<-Mi r]
  .simp
theorem Eh:∀{l:List Nat},distinct l=ab->l.Nodup
 |[],_=>List.nodup_nil
 |k::l,h=>by
  simp only[distinct,ayz,azn,List.any_eq_false]at h;refine aAC.2 ⟨λhm=>?_,Eh h.2⟩;exact h.1 k hm ax
theorem ae_(es:List SE)(h:∀e∈es,∃y,e.den P G=aa y):∃cs:List IV,All2 (λ(z:SE) y=>z.den P G=aa y) es cs:=by
 induction es with
 |nil=>exact⟨[],trivial⟩
 |cons e es ih=>
  obtain⟨y,hy⟩:=h e ax;obtain⟨cs,bQ⟩:=ih λe he=>h e (by simp[he]);exact⟨y::cs,hy,bQ⟩
theorem JO(hJ:J Cx (ay P G) R X V.g V.l E Y):∀{l:List (Nat×Nat)} {Hx:List (List SE)},AI V l=aa Hx->
 ∃ins:List (List IV),Hx.length=l.length/\ins.length=l.length/\All2 (λ(z:SE) y=>z.den P G=aa y) (Hx.map fa) (ins.map IV.agg)/\
  ∀(i:Nat) (p:Nat×Nat) (cs:List IV),l[i]?=aa p->ins[i]?=aa cs->∃es:List SE,V.l[p.1]?=aa (.var (es.map .v))/\cs.length=p.2/\All2 (λ(z:SE) y=>z.den P G=aa y) es cs
 |[],Hx,h=>by
  simp only[AI,ayB]at h;subst h;exact⟨[],rfl,rfl,trivial,λi p cs h=>by simp at h⟩
 |(k,n)::l,Hx,h=>by
  simp only[AI]at h;split at h<;>try (cases h;done)
  rename_i ds hk;split at h<;>try (cases h;done)
  rename_i hn;split at h<;>try (cases h;done)
  rename_i es r jV hr;simp only[ayB]at h;subst h;have SP:=KI jV;subst SP;have oO:=ayH hn;obtain⟨ins,h1,h2,h3,h4⟩:=JO hJ hr;obtain⟨id,c7,o1,o2,o3,o4⟩:=hJ.obj k _ hk
  obtain⟨cs,bQ⟩:=ae_ (P:=P) (G:=G) es λe he=>by
   obtain⟨q,hq⟩:=azO he;obtain⟨x,_,hx⟩:=o4.Db (i:=q) (b:=.v e) (by rw[ayR,hq];rfl);obtain⟨y,hy,_⟩:=hx;exact⟨y,hy⟩
  refine⟨cs::ins,by simp[h1],by simp[h2],⟨fJ bQ,h3⟩,λi p cY hp hc=>?_⟩;cases i with
  |zero=>
   simp at hp hc;subst hp hc;exact⟨es,hk,by rw[<-bQ.len];simpa using oO,bQ⟩
  |succ i=>exact h4 i p cY (by simpa using hp) (by simpa using hc)
theorem JP{y:SE}:∀{l:List (Nat×Nat)} {i:Nat} {L:List (LO SE)},(nb y i l L).length=L.length
 |[],_,_=>rfl
 |(k,n)::l,i,L=>by simp[nb,JP (l:=l)]
theorem Dm{y:SE}:∀{l:List (Nat×Nat)} {i j:Nat} {L:List (LO SE)},j∉l.map (·.1)->(nb y i l L)[j]?=L[j]?
 |[],_,_,_,_=>rfl
 |(k,n)::l,i,j,L,h=>by
  simp only[azs,ayN,not_or]at h;simp only[nb];rw[Dm h.2,aAo (λhc=>h.1 hc.symm)]
theorem JQ{y:SE}:∀{l:List (Nat×Nat)} {i q:Nat} {p:Nat×Nat} {L:List (LO SE)},(l.map (·.1)).Nodup->l[q]?=aa p->p.1<L.length->
 (nb y i l L)[p.1]?=aa (.var ((azR p.2).map λj=>.v (.bC (.proj y (i+q+1)) j)))
 |[],_,_,_,_,_,h,_=>by simp at h
 |(k,n)::l,i,0,p,L,uK,h,aj=>by
  simp at h;subst h;simp only[azs,aAC]at uK;simp only[nb];rw[Dm uK.1,List.getElem?_set_self aj]
 |(k,n)::l,i,q+1,p,L,uK,h,aj=>by
  simp only[azs,aAC]at uK;simp only[nb];rw[JQ (q:=q) uK.2 (by simpa using h) (by simpa using aj)];rw[show i+1+q+1=i+(q+1)+1 by omega]
theorem Mj{O β:Type}{r:O->β->Prop}:∀{bs cs:List β} {as:List O},All2 r as (bs++cs)->∃as1 as2,as=as1++as2/\All2 r as1 bs/\All2 r as2 cs
 |[],cs,as,h=>⟨[],as,rfl,trivial,h⟩
 |b::bs,cs,[],h=>h.elim
 |b::bs,cs,a::as,h=>by
  obtain⟨as1,as2,rfl,h1,h2⟩:=Mj h.2;exact⟨a::as1,as2,rfl,⟨h.1,h1⟩,h2⟩
theorem aiE{a b:List (List IV)}(h:a.map IV.agg=b.map IV.agg):a=b:=(List.map_inj_right (λx y hh=>by injection hh)).1 h
theorem aiF(hC:jK P C)(hJ:J Cx (ay P G) R X V.g V.l E Y)(hn:G.length=V.n){g:FuncId}{l:List (Nat×Nat)}{rest:List (PV SE)}{ps xs:List IV}
 (hp:All2 (VR (ay P G) R X V.l Y) ps (l.map λp=>PV.one (Cl.pt p.1 0 p.2)))(hx:All2 (VR (ay P G) R X V.l Y) xs rest)(hs:(aeA P g l rest V k).sat P C Q K G){KW:Nat->IV->St->Prop}(hk:Xw Cx P C Q K E G V.ln k KW):
 ∃b,∀N,b<=N->dM P N g (ps++xs) Y (KW N):=by
 unfold aeA at hs;split at hs<;>try exact hs.elim
 rename_i zs V' Hx fn hr hoc cL;split at hs
 .exact hs.elim
 rename_i aur;have ir:rest.all na=ab:=by simpa using aur
 split at hs
 .exact hs.elim
 rename_i aus;have uK:(l.map (·.1)).Nodup:=Eh (by simpa using aus);split at hs<;>try exact hs.elim
 rename_i t ht;obtain⟨_,aao⟩:=rz (P:=P) (G:=G) (R:=R) (X:=X) (Y:=Y) hr ir;obtain⟨ys,c1,c2⟩:=aao hx;obtain⟨ins,i1,i2,i3,i4⟩:=JO hJ hoc;obtain⟨us,z,d1,d2,d3⟩:=hs
 have yW:us=.agg (ins.map IV.agg)::ys:=by
  have cb:All2 (λ(z:SE) y=>z.den P G=aa y) (fa (Hx.map fa)::zs) (.agg (ins.map IV.agg)::ys):=⟨fJ i3,c1⟩;have:=fJ cb;unfold lQ at d1;rw[show SE.ac (fa (Hx.map fa)) (fa zs)=fa (fa (Hx.map fa)::zs)from rfl,this]at d1;cases d1;rfl
 subst yW;obtain⟨ayn,yd,outs,z0,e1,rfl,e3,e4,aut⟩:=(hC _ _ _ _ d2).2.2.1 g (azj.1 cL).1 rfl;simp only[aAa,IV.agg.injEq]at e1;obtain⟨e1,rfl⟩:=e1;have:=aiE e1;subst this;have Lw:outs.length=ins.length:=by have:=congrArg azg e3;simpa using this
 have WZ:∀e w,ay P G e=aa w->ay P (G++[IV.aL (z0::outs.map IV.agg)]) e=aa w:=λe w h=>SE.dN P e h;have mz:(SE.var V.n).den P (G++[IV.aL (z0::outs.map IV.agg)])=aa (IV.aL (z0::outs.map IV.agg)):=by simp[SE.den,<-hn]
 have auu:(SE.proj (.var V.n) 0).den P (G++[IV.aL (z0::outs.map IV.agg)])=aa z0:=by simp only[SE.den]at mz⊢;rw[mz];rfl
 refine aaj WZ hJ (ks:=l.map (·.1)) uK (L':=nb (.var V.n) 0 l V.l) (ins:=ins) (outs:=outs) (by simp[i2]) (λi k cs hk hi=>?_) ⟨by rw[hp.len,aAq,i2],λi cs p hi Bx=>?_⟩ c2 aut Lw JP (λj hj=>Dm hj) (λi k cs hk hi=>?_) KW λR' al v JJ hv=>?_
 .rw[ayR]at hk;obtain⟨p,y_,rfl⟩:=ayG.1 hk;obtain⟨es,a1,_,a3⟩:=i4 i p cs y_ hi;refine⟨_,a1,.mk (by rw[aAq,a3.len]) λq c u hc hu=>?_⟩;rw[ayR]at hc;obtain⟨e,he,rfl⟩:=ayG.1 hc;exact⟨e,rfl,a3.get he hu⟩
 .have wz:i<l.length:=by rw[<-i2];exact(ayw.1 hi).1
  have Xx:=ayv wz;obtain⟨es,a1,a2,a3⟩:=i4 i _ cs Xx hi;obtain⟨id,ds,b1,b2,b3⟩:=hp.get Bx (by rw[ayR,Xx];rfl);exact⟨id,by simp only[ayR,Xx,ay_,ayx];exact b1,by rw[b3,a2]⟩
 .rw[ayR]at hk;obtain⟨p,y_,rfl⟩:=ayG.1 hk;have P4:i<ins.length:=by rw[<-Lw];exact(ayw.1 hi).1
  obtain⟨es,a1,a2,_⟩:=i4 i p _ y_ (ayv P4);have aj:p.1<V.l.length:=(ayw.1 a1).1;refine⟨_,JQ uK y_ aj,?_⟩
  have jf:cs.length=p.2:=by
   have h5:=congrArg (λq=>q[i]?) e3;simp only[ayR,hi,ayv P4,ay_,ayB]at h5;omega
  refine .mk (by simp[jf]) λq c u hc hu=>?_;have hq:=(ayw.1 hu).1;rw[ayR,aAO ai]at hc;simp only[ay_,ayB]at hc;subst hc;refine⟨_,rfl,?_⟩
  have hoi:(z0::outs.map IV.agg)[0+i+1]?=aa (.agg cs):=by
   rw[azP,List.getElem?_cons_succ,ayR,hi];rfl
  have HC:=e4 cs (ayM hi) u (ayM hu);show(SE.bC _ _).den P _=_;simp only[SE.den]at mz⊢;rw[mz];simp only[ayx,hoi,hu];simp[yr,HC]
 .obtain⟨g1,g2⟩:=Fv (R:=R') (X:=X) (L:=nb (.var V.n) 0 l V.l) (Y:=al) auu hv d3;exact hk {V with n:=V.n+1,l:=nb (.var V.n) 0 l V.l} [IV.aL (z0::outs.map IV.agg)] R' X al v _ JJ rfl (by simp[hn]) rfl g2 g1
theorem Mk(hC:jK P C)(hJ:J Cx (ay P G) R X V.g V.l E Y)(hn:G.length=V.n){g:FuncId}{j:Nat}{zs:List SE}{x:IV}{xs ys:List IV}(hx:cZ (ay P G) R X V.l Y x (.sr j))
 (hz:All2 (λ(z:SE) y=>z.den P G=aa y) zs ys)(pc:All2 jj xs ys)(hs:(II P g zs j V k).sat P C Q K G){KW:Nat->IV->St->Prop}(hk:Xw Cx P C Q K E G V.ln k KW):
 ∃b,∀N,b<=N->dM P N g (x::xs) Y (KW N):=by
 unfold II at hs;split at hs<;>try exact hs.elim
 rename_i s fr es hj;split at hs<;>try exact hs.elim
 rename_i afa;have aap:g<P.funcs.size:=by simpa using afa
 obtain⟨⟨_,hr⟩,us,z,h1,h2,h3⟩:=hs;obtain⟨s1,gg,h4,_,ki⟩:=N4 hr
 have yW:us=.tree s1 gg::ys:=by
  have:All2 (λ(z:SE) y=>z.den P G=aa y) (es::zs) (.tree s1 gg::ys):=⟨h4,hz⟩;unfold lQ at h1;rw[fJ this]at h1;cases h1;rfl
 subst yW;obtain⟨s2,e2,xs2,aQ,g1,rfl,Ak⟩:=(hC _ _ _ _ h2).2.1 g aap rfl;simp only[aAa,IV.tree.injEq]at g1;obtain⟨⟨rfl,rfl⟩,rfl⟩:=g1;obtain⟨_,so,k1,_,_⟩:=hJ.obj j _ hj;have y9:es.den P G=aa (.tree s so):=k1;rw[h4]at y9;cases y9;have bR:=hJ.up (jX:=ay P (G++[.tree s aQ])) (λe y h=>SE.dN P e h)
 have da:cZ (ay P (G++[.tree s aQ])) R X V.l Y x (.sr j):=by
  have hbv:VR (ay P G) R X V.l Y x (.one (.sr j)):=hx;exact VR.up hJ hbv (λe z h=>SE.dN P e h)
 have fE:=bR.ZF j;have hjd:(V.l.map (LO.drop j))[j]?=aa (.row s af af fr es):=by simp[ayR,hj,LO.drop]
 have eR:cZ (ay P (G++[.tree s aQ])) R X (V.l.map (LO.drop j)) Y x (.sr j):=da.step (Kn bR j) (Cl.a_ _);have mz:(SE.var V.n).den P (G++[.tree s aQ])=aa (.tree s aQ):=by simp[SE.den,<-hn]
 refine acj fE hjd (SE.dN P es h4) mz ki eR pc (λd t pv hg=>L5 hg) (λi o hi bt=>by
  rw[ayR]at hi;obtain⟨o',_,rfl⟩:=ayG.1 hi;exact o'.oP j) Ak KW λR' aN al v a b=>?_
 exact hk ((({V with n:=V.n+1}:SS).uN j).setObj j (.row s af af af (.var V.n))) [.tree s aQ] R' aN al v (.one (.sr j)) a rfl (by simp[hn,SS.uN,SS.setObj]) rfl b h3
theorem Xy{KW:Nat->IV->St->Prop}(hC:jK P C)(hJ:J Cx (ay P G) R X V.g V.l E Y)(hn:G.length=V.n){g:FuncId}{c8:List (PV SE)}{xs:List IV}
 (bE:All2 (VR (ay P G) R X V.l Y) xs c8)(hs:(S7 P g c8 V k).sat P C Q K G)
 (hk:∀(V1:SS) (I:List IV) (R1:Rs) (dV:Ph) (au:St) (x:IV) (pv:PV SE),J Cx (ay P (G++I)) R1 dV V1.g V1.l E au->V1.ln=V.ln->(G++I).length=V1.n->V1.ln=V.ln->VR (ay P (G++I)) R1 dV V1.l au x pv->(k pv V1).sat P C Q K (G++I)->∃b,∀N,b<=N->KW N x au):
 ∃b,∀N,b<=N->dM P N g xs Y (KW N):=by
 unfold S7 at hs;split at hs
 .have he:=Mi c8;rw[he]at bE;obtain⟨ps,as,rfl,hp,hx⟩:=Mj bE;exact aiF hC hJ hn hp hx hs hk
 split at hs<;>try exact hs.elim
 rename_i c rest _;split at hs<;>try exact hs.elim
 rename_i zs V' hr;split at hs
 .exact hs.elim
 rename_i hp;have va:rest.all na=ab:=by simpa using hp
 cases xs with
 |nil=>exact bE.elim
 |cons x xs=>
  obtain⟨_,ir⟩:=rz (P:=P) (G:=G) (R:=R) (X:=X) (Y:=Y) hr va;obtain⟨ys,c1,c2⟩:=ir bE.2;split at hs<;>try exact hs.elim
  .exact Mk hC hJ hn bE.1 c1 c2 hs hk
  .rename_i b s _;have hx:=bE.1;unfold newObj at hs;obtain⟨cm,mA⟩:=hx;have qJ:(SE.tr s SE.an).den P G=aa (.tree s []):=by simp[SE.den,cm]
   obtain⟨_,fE⟩:=hJ.Aa (fr:=af) cm qJ;have oA:(V.l++[LO.row s af af af (SE.tr s SE.an)])[V.l.length]?=aa (.row s af af af (SE.tr s SE.an)):=by simp
   exact Mk (V:={V with l:=V.l++[.row s af af af (.tr s .an)]}) hC fE hn (x:=x) ⟨s,af,af,af,_,[],oA,qJ,.inl ⟨w6 hJ (ayA _),rfl,by subst mA;cases b<;>simp⟩⟩ c1 c2 hs hk
end
section
variable{Cx:Cs}
variable{P:Program}{N:Nat}{Y al:St}{R R':Rs}{X aN:Ph}{E:Nat->Env}{G:List IV}
variable{C:Cr}{Q:IV->Prop}{K:List (List IV->Prop)}{V:SS}{d:Nat}{k:PV SE->SS->ak}
theorem dM.wO{f:FuncId}{args:List IV}{RW RW':IV->St->Prop}(h:dM P N f args Y RW)(hm:∀v al,RW v al->RW' v al):dM P N f args Y RW':=
 λZ us w hi hr=>(h Z us w hi hr).mono λ_ _ ⟨v,al,h1,h2⟩=>⟨v,al,hm _ _ h1,h2⟩
theorem akZ{x p z:IV}(h:iO 11 x p=aa z):x=.raw (.slice ah 0 0):=by
 unfold iO at h;split at h
 .split at h<;>cases h
 .rw[if_neg (λh=>absurd h.1 (by decide)),if_neg (λh=>absurd h.1 (by decide)),if_neg (λh=>absurd h.1 (by decide))]at h;cases h
 .rw[if_neg (by decide)]at h;cases h
 .rfl
 .cases h
theorem aaq{KW:Nat->IV->St->Prop}(hC:jK P C)(hJ:J Cx (ay P G) R X V.g V.l E Y)(hn:G.length=V.n){g:FuncId}{c8:List (PV SE)}{xs:List IV}
 (bE:All2 (VR (ay P G) R X V.l Y) xs c8)(hs:(IK P g c8 V k).sat P C Q K G)
 (hk:∀(V1:SS) (I:List IV) (R1:Rs) (dV:Ph) (au:St) (x:IV) (pv:PV SE),J Cx (ay P (G++I)) R1 dV V1.g V1.l E au->V1.ln=V.ln->(G++I).length=V1.n->V1.ln=V.ln->VR (ay P (G++I)) R1 dV V1.l au x pv->(k pv V1).sat P C Q K (G++I)->∃b,∀N,b<=N->KW N x au):
 ∃b,∀N,b<=N->dM P N g xs Y (KW N):=by
 unfold IK at hs;split at hs
 rotate_left
 .exact Xy hC hJ hn bE hs hk
 rename_i s rest;split at hs<;>try exact hs.elim
 rename_i zs V' hr;split at hs<;>try exact hs.elim
 rename_i cF;simp only[ayz]at cF;obtain⟨⟨ir,afa⟩,cm⟩:=cF;have aap:g<P.funcs.size:=by simpa using afa
 have auv:0<s:=by simpa using cm
 cases xs with
 |nil=>exact bE.elim
 |cons x xs=>
  obtain⟨hx,ia⟩:=bE;obtain⟨_,hx⟩:=hx;simp only[if_true]at hx;subst hx;obtain⟨_,aao⟩:=rz (P:=P) (G:=G) (R:=R) (X:=X) (Y:=Y) hr ir;obtain⟨ys,c1,c2⟩:=aao ia;obtain⟨us,z,d1,d2,⟨w,hw⟩,d3⟩:=hs
  have yW:us=.raw (.slice ah 0 0)::ys:=by
   have cb:All2 (λ(z:SE) y=>z.den P G=aa y) (.raw (.slice ah 0 0)::zs) (.raw (.slice ah 0 0)::ys):=⟨rfl,c1⟩;unfold lQ at d1;rw[fJ cb]at d1;cases d1;rfl
  subst yW;have mz:(SE.var V.n).den P (G++[z])=aa z:=by simp[SE.den,<-hn]
  have hz:z=.raw (.slice ah 0 0):=by
   simp only[SE.den]at mz hw;rw[mz]at hw;exact akZ hw
  subst hz;obtain⟨jW,_,_⟩:=(hC _ _ _ _ d2).1 aap;have uR:jN P 0 g (.raw (.slice ah 0 0)::xs) Y (.raw (.slice ah 0 0)) Y:=dX.Ru jW ⟨.raw _,c2⟩;obtain⟨b,hb⟩:=hk {V with n:=V.n+1} [.raw (.slice ah 0 0)] R X Y (.raw (.slice ah 0 0)) (.one (.nl ab s)) (hJ.up (λe y h=>SE.dN P e h)) rfl (by simp[hn]) rfl ⟨auv,rfl⟩ d3;exact⟨max b Y.n,λN hN=>(dM.W7 uR ai).wO λv au hv=>by obtain⟨rfl,rfl⟩:=hv;exact hb N ai⟩
theorem aiG{KW:Nat->IV->St->Prop}(hC:jK P C)(hJ:J Cx (ay P G) R X V.g V.l E Y)(hn:G.length=V.n){g:FuncId}{c8:List (PV SE)}{xs:List IV}{q:Bool}
 (bE:All2 (VR (ay P G) R X V.l Y) xs c8)(hs:(if q=ab then IK P g c8 V k else S7 P g c8 V k).sat P C Q K G)
 (hk:∀(V1:SS) (I:List IV) (R1:Rs) (dV:Ph) (au:St) (x:IV) (pv:PV SE),J Cx (ay P (G++I)) R1 dV V1.g V1.l E au->V1.ln=V.ln->(G++I).length=V1.n->V1.ln=V.ln->VR (ay P (G++I)) R1 dV V1.l au x pv->(k pv V1).sat P C Q K (G++I)->∃b,∀N,b<=N->KW N x au):
 ∃b,∀N,b<=N->dM P N g xs Y (KW N):=by
 split at hs
 .exact aaq hC hJ hn bE hs hk
 .exact Xy hC hJ hn bE hs hk
end
section
variable{P:Program}{N:Nat}{Z:Io}{w:World}{Y al:St}{e:Env}{rd:Option Nat}{fn:FuncId}{df:List Df}{CW:lP}{ops:Array Oper}{o:Oper}{l:List Oper}
def St.skip(Y:St):St:=⟨Y.n+1,Y.t⟩
@[simp] theorem St.aiH(Y:St)(j:Nat):Y.skip.at j=Y.at j:=rfl
@[simp] theorem St.acu(Y:St):Y.skip.n=Y.n+1:=rfl
theorem afb{ob:Ob}(h:Inv N Z (Y.add ob) w)(h0:∀id,Y.n<=id->Y.at id=ah):Inv N Z Y.skip w:=
 ⟨h.mem,h.sep,h.jy,h.fresh,h.inj,λid o ho=>h.obj id o (by
  rw[St.aiH]at ho;rw[St.gz,if_neg (λhc=>by rw[<-hc,h0 _ (ayA _)]at ho;cases ho)];exact ho),λid hid=>h0 id (by simp at hid;omega)⟩
theorem aiI{ro:Nat}{ob:Ob}{bX:Io}{w1:World}(h:Le ro Z w Y bX w1 (Y.add ob)):Le ro Z w Y bX w1 Y.skip:=
 ⟨h.ext,h.own,h.Bg,λ_ h1 _=>h1,λ_ _ _=>rfl,h.yJ,h.os,h.tape,h.output,h.size,h.frame,h.wK⟩
theorem dg.range{g:Operand}{ps:Array Tmp}{gy bd:Code}{f:FuncId}{args:List IV}{RW:IV->St->Prop}(kO:gT P (aC e g) [.r8 (Y.n+1)]=aa (.enter f args))(hN:Y.n+2<=N)
 (h:dM P N f args (Y.skip.add (.loop .ready ah 0 e.t e.n ps.toList gy bd Y.n)) RW)
 (hRW:∀v l6,RW v l6->l6.n<=N/\∃s p f3 tm l5 uH Js uJ nU,l6.at (Y.n+1)=aa (.loop s p f3 tm l5 uH Js uJ nU)/\s≠.busy/\
  ∃ex:Ex,ex.EE=af/\(∀t,ex≠.goto t)/\fR ex=p/\CW ex e (l6.put (Y.n+1) (.loop .exhausted p f3 tm l5 uH Js uJ nU))):
 dg P N ah (.rangeFunc g ps gy bd) e df Y CW:=by
 intro B F Z a w Q hF hi he hd hQ;refine wpIn_rangeFunc λPB _=>?_;obtain⟨w1,bX,ld,marks,i0,l0,wx,LG,C8⟩:=Sw (P:=P) (ro:=0) (rd:=ah) (au:=Y.add (.Gy af)) (fV:=Y.n) (mark:=[.wI Y.n]) rfl (by simp;omega) hF hi;have i1:=afb i0 hi.wf;have l1:=aiI l0
 have Rg:E5 B bX w1 Y.skip Y.n:=by
  obtain⟨l',cH,hh⟩:=i0.obj Y.n (.Gy af) ax;rw[wx]at cH;cases cH;refine⟨ld,wx,hi.wf _ (ayA _),by simp,?_,hh⟩;rcases l0.own Y.n ld.b ⟨0,ld,wx,rfl⟩with⟨e',l',h1,_⟩|h1
  .rw[hi.fresh Y.n (ayA _) ai e']at h1;cases h1
  .exact ayU hd.1 h1
 have h_:=i1.fresh (Y.n+1) (ayA _) ai 0;have gI:=lx (l:=⟨w1.heap.size,1,1⟩) h_
 obtain⟨i2,l2⟩:=i1.DP (ro:=0) (go:=.loop {state:=.ready,pending:=ah,fn:=PB,tmps:=a.tmps,params:=ps,assign:=gy,body:=bd,defers:=ld.b}) (ob:=.loop .ready ah 0 e.t e.n ps.toList gy bd Y.n) (by simp;omega)
  ⟨⟨w1.heap.size,1,1⟩,ld,a.tmps,PB,cK _ _ _ _,gI _ _ _ wx,by simp,he.1.symm,λt=>((he.2 t).mono l1.ext).mono gI⟩
 have fC:c_ bX (Y.n+1) 0 ⟨w1.heap.size,1,1⟩ (Y.n+1) 0=aa ⟨w1.heap.size,1,1⟩:=cK _ _ _ _;simp only[St.acu]at i2 l2 fC gI;generalize Jt:({w1 with heap:=w1.heap.push (.loop {state:=.ready,pending:=ah,fn:=PB,tmps:=a.tmps,params:=ps,assign:=gy,body:=bd,defers:=ld.b})}:World)=w2 at i2 l2;generalize c_ bX (Y.n+1) 0 ⟨w1.heap.size,1,1⟩=r9 at i2 l2 fC gI;obtain⟨d,gr,jf⟩:=Bo (w:=w2) (((he.mono l1.ext).mono gI).eval g) (aG.cons (.r8 (Y.n+1) _ fC) aG.nil) kO;rcases jf with⟨f',as,vs,jb,hinv,db,_⟩|⟨_,_,jb,_⟩
 .cases jb;refine⟨w1.heap.size,marks,w2,d,w2,f,vs.toArray,w2,by rw[C8,Jt],?_,λf' _=>hF.fn f',hinv,hF.depth,?_⟩
  .simpa[resolve,rangeCall,Act.eval]using gr
  .refine(hF.calls (h r9 vs w2 i2 db)).mono λed w3 hR=>?_;obtain⟨v,l6,sW,hR⟩:=hR;obtain⟨wv,s,p,f3,tm,l5,uH,Js,uJ,nU,Aq,da,ex,yV,sb,JR,TQ⟩:=hRW v l6 sW;cases ed with
   |panicked chain=>exact hR.elim
   |outgrown=>exact hR.elim
   |returned u=>
    obtain⟨PC,_,i3,l3⟩:=hR;have DV:=l3.ext _ _ _ fC;obtain⟨ld3,ts3,f3',hd3,PD,PE,ET⟩:=kC i3 Aq DV;obtain⟨i4,l4⟩:=zU (ro:=0) (dE:=.exhausted) (zi:=p) (f':=f3') i3 (azi _) Aq DV hd3 PE;refine⟨p,_,by simp only[Instr.endLoop,ayL,pn PD,ayD,PA s da,ayW,if_false,ic (P:=P) PD ax,ayT];rfl,?_⟩;have l34:=Le.then i2 wv l3 l4;have Bq:=Le.then i1 (by simp only[St.kB,St.acu];omega) l2 l34;have sO:=Le.then hi (by simp;omega) l1 Bq;have e4:dc PC e a.tmps:=he.mono sO.ext
    have d5:∀{w4:World},Le 0 Z w Y PC w4 (l6.put (Y.n+1) (.loop .exhausted p f3 tm l5 uH Js uJ nU))->Le 0 bX w1 Y.skip PC w4 (l6.put (Y.n+1) (.loop .exhausted p f3 tm l5 uH Js uJ nU))->yY B PC w4 (l6.put (Y.n+1) (.loop .exhausted p f3 tm l5 uH Js uJ nU)) df (marks++a.defers):=by
     intro w4 sO Bq;obtain⟨DZ,ids,h1,h2,h3⟩:=hd;refine⟨ayU DZ sO.size,Y.n::ids,(LG.mono Bq.ext).append (h1.mono sO.ext),λid hid=>?_,aAC.2 ⟨λhc=>?_,h3⟩⟩
     .rcases ayN.1 hid with rfl|hid
      .exact Rg.step i1 Bq
      .exact(h2 id hid).step hi sO
     .obtain⟨_,_,_,aj,_⟩:=h2 _ hc;omega
    cases ex with
    |normal=>simp only[fR]at JR;subst JR;exact hQ _ _ _ TQ _ _ _ [] i4 sO e4 (d5 sO Bq) trivial
    |exit i=>simp only[fR]at JR;subst JR;exact wpIn_exit (hQ _ _ _ TQ {a with defers:=marks++a.defers} _ _ [] i4 sO e4 (d5 sO Bq) trivial)
    |ret=>simp only[fR]at JR;subst JR;exact wpIn_ret (hQ _ _ _ TQ {a with defers:=marks++a.defers} _ _ [] i4 sO e4 (d5 sO Bq) trivial)
    |goto t=>exact absurd rfl (sb t)
    |cw v=>cases yV
 .cases jb
theorem eU.round{nz:Nat}{args:List IV}{Sy:FuncId}{tm:T IV}{l5:Nat}{ps:List Tmp}{gy bd:Code}{fV:Nat}(hw:aT o ops e=ab)(hv:aA P 0 (aC e) o Y=aa (.round nz args))
 (aK:Y.at nz=aa (.loop .ready ah Sy tm l5 ps gy bd fV))(hlen:args.length=ps.length)
 (h:dg P N (aa nz) gy ((ps.zip args).foldl (λe (p,v)=>e.put (aa p) v) ⟨l5,tm⟩) [] Y (λex e1 au=>ex=.normal/\au.n<=N/\∃f1 Ai EF Xz N6 XA sy,au.at nz=aa (.loop .ready ah f1 Ai EF Xz N6 XA sy)/\
  dg P N (aa nz) bd e1 [] (au.put nz (.loop .busy ah f1 Ai EF Xz N6 XA sy)) (λex e2 cU=>ex.EE=af/\cU.n<=N/\∃s3 p3 f3 Jp C7 uH Fw uJ nU,cU.at nz=aa (.loop s3 p3 f3 Jp C7 uH Fw uJ nU)/\
   eU P N rd ops l (e.put o.dst (.bool (fR ex).isNone)) df (cU.put nz (.loop (if(fR ex).isNone then .ready else .done) (fR ex) f3 Jp C7 uH Fw uJ nU)) CW))):
 eU P N rd ops (o::l) e df Y CW:=by
 refine .cons hw λB F Z a w Q k hl hF hi he hd hQ=>?_;refine⟨λf _=>hF.fn f,?_⟩;rw[Oper.semAt_eq _ _ _ (jg hv ax)];obtain⟨loc,us,afc,hr,h2⟩:=qv hi he.eval hv;obtain⟨ld,ts,f',XB,hh,hE,aj⟩:=kC hi aK afc;have bf:us.toArray.size=ps.toArray.size:=by simp[<-h2.1,hlen]
 have hy:(aCG loc.b us.toArray).run P w=.ok (.round loc.b f' ((ps.zip us).foldl (λtmps (t,a)=>tmps.setIfInBounds t a) ts) gy bd) w:=by
  have hz:((ps.toArray.zip us.toArray).foldl (λtmps (t,a)=>tmps.setIfInBounds t a) ts)=(ps.zip us).foldl (λtmps (t,a)=>tmps.setIfInBounds t a) ts:=by simp[List.zip_toArray]
  simp only[aCG,ayL,pn hh,ayD,bf,ne_eq,not_true_eq_false,if_false,ayT,hz]
 rw[hr,hy,Oper.uponIn_round];refine⟨hF.depth,roundIn_of_wpIn (hF.fn f') ?_⟩;rw[hF.inRound];refine h w.heap.size (ay8.inRound loc.b) Z {tmps:=_,defers:=[]} w _ (.inr ⟨nz,loc,rfl,afc,rfl⟩) hi (Ha hE h2) yY.start λex e1 au hc=>?_;obtain⟨rfl,eC,f1,Ai,EF,Xz,N6,XA,sy,po,ao1⟩:=hc;intro a1 w1 bX fB i1 l1 dB d1 p1;have oL:=l1.ext _ _ _ afc;obtain⟨ld1,ts1,f1',Ar,wu,lF,oN⟩:=kC i1 po oL;obtain⟨i2,l2⟩:=zU (ro:=0) (dE:=.busy) (zi:=ah) (f':=f1') i1 (azi _) po oL Ar lF;refine⟨_,by simp only[Instr.beginRound,ayL,pn wu,ayD,ic (P:=P) wu ax,ayT];rfl,?_⟩;refine ao1 w.heap.size (ay8.inRound loc.b) bX a1 _ _ (.inr ⟨nz,loc,rfl,oL,rfl⟩) i2 dB (d1.step i1 l2) λex e2 cU hc=>?_;obtain⟨hnp,yb,s3,p3,f3,Jp,C7,uH,Fw,uJ,nU,Aq,afd⟩:=hc;intro a2 w2 r9 ch2 i3 l3 e2' d2 p2;refine Hb (by simp[hnp]) ?_;have fC:=l3.ext _ _ _ oL;obtain⟨ld2,ts2,f2',Jq,uG,Bp,bJ⟩:=kC i3 Aq fC;obtain⟨i4,l4⟩:=zU (ro:=0) (dE:=if(fR ex).isNone then .ready else .done) (zi:=fR ex) (f':=f2') i3 (azi _) Aq fC Jq Bp;have Bq:=Le.then i2 yb l3 l4;have sO:=Le.then i1 (by simp only[St.ng];exact eC) l2 Bq;have l04:=Le.then hi eC l1 sO;refine⟨.bool (fR ex).isNone,_,by simp only[Instr.endRound,ayL,pn uG,ayD,ic (P:=P) uG ax,ayT];rfl,?_⟩;exact afd B F r9 _ _ Q (k+1) hl (hF.mono l04.ext) i4 ((he.mono l04.ext).put (.raw _) _) (by have:=hd.step hi l04;cases o.dst<;>exact this) (λex e' al hc=>(hQ ex e' al hc).from hi l04 (by simp only[St.ng];exact yb))
end
section
variable{Cx:Cs}
variable{P:Program}{N:Nat}{Y al:St}{R R':Rs}{X aN:Ph}{E:Nat->Env}{G:List IV}{ro:Nat}{Z:Io}{w:World}{cfg:eS}{self:m8}
variable{C:Cr}{Q:IV->Prop}{K:List (List IV->Prop)}{V:SS}{d f0:Nat}{o:Oper}{k:PV SE->SS->ak}{L:List (LO SE)}{Γ:Gm SE}{rd:Option Nat}{df:List Df}
variable{kx:Kx}{sk:List Nat}{ops:Array Oper}{l:List Oper}{kk:SS->ak}{CX:Nat->lP}
theorem J.aar(hJ:J Cx (ay P G) R X Γ L E Y){j nz c st dE f:Nat}{sn wB:List (Nat×PV SE)}{rc:agr}{tm:T IV}{s:LoopState}{p:Option Code}{fV:Nat}(my:X j=aa nz)(hj:L[j]?=aa (.lp c st sn))(hR:R nz=ah)
 (hc:dE<2->Cx[c]?=aa rc)(hl:ZD dE s p)(yf:∀q∈wB,q.2.qN=ab/\VR (ay P G) R X L Y ((⟨rc.n,tm⟩:Env).at q.1) q.2):
 J Cx (ay P G) R X Γ (L.set j (.lp c dE wB)) E (Y.put nz (.loop s p f tm rc.n rc.ps rc.gy rc.bd fV))/\
 la (ay P G) (ay P G) R X L Y R X (L.set j (.lp c dE wB)) (Y.put nz (.loop s p f tm rc.n rc.ps rc.gy rc.bd fV)) (λ_=>False):=by
 obtain⟨h1,h2⟩:=hJ.vu (R':=R) (bad:=λ_=>False) (lg:=.lp c dE wB) (fK:=.loop s p f tm rc.n rc.ps rc.gy rc.bd fV) my hj (λ_ _=>rfl)
  (λm hm=>by rw[hR]at hm;cases hm) (λm _ _ _ hm=>by rw[hR]at hm;cases hm) (λm _ _ _ hm=>by rw[hR]at hm;cases hm)
  (λ_ h=>by cases h) (λ_ _ h=>by cases h) (λ_ _ _ _ _ h=>by cases h) (λ_ _ pv _=>pv.a_) (λ_ o _ _=>o.a_)
  (λfq=>⟨nz,rc,tm,fV,s,p,f,my,hR,hc,by rw[St.dv,if_pos rfl],hl,λq hq=>⟨(yf q hq).1,(yf q hq).2.step fq (PV.a_ _)⟩⟩)
  (λ_ _ _ _=>⟨c,dE,wB,rfl⟩)
 exact⟨h2,h1⟩
theorem Ml{d d' t:Nat}{pv:PV SE}:∀{sn:List (Nat×PV SE)},cN d' t (LU d sn)=aa pv->d'=d/\(t,pv)∈sn
 |[],h=>by cases h
 |q::sn,h=>by
  rcases l9 (show cN d' t ((d,q.1,q.2)::LU d sn)=aa pv from h)with⟨rfl,rfl,rfl⟩|⟨_,h2⟩
  .exact⟨rfl,by simp⟩
  .obtain⟨h3,h4⟩:=Ml h2;exact⟨h3,by simp[h4]⟩
theorem TR{D:Nat}:∀{ps:List Tmp} {args:List IV} {c8:List (PV SE)} {Γ:Gm SE} {e0:Env},J Cx (ay P G) R X Γ L (ly E D e0) Y->All2 (VR (ay P G) R X L Y) args c8->(∀p∈ps,p<e0.n)->
 J Cx (ay P G) R X (IJ D ps c8 Γ) L (ly E D ((ps.zip args).foldl (λe (p,v)=>e.put (aa p) v) e0)) Y/\((ps.zip args).foldl (λe (p,v)=>e.put (aa p) v) e0).n=e0.n
 |[],_,_,_,_,h,_,_=>⟨by simpa[IJ]using h,rfl⟩
 |p::ps,[],[],_,_,h,_,_=>⟨by simpa[IJ]using h,rfl⟩
 |p::ps,a::args,v::c8,Γ,e0,h,ha,hp=>by
  have h1:=h.put D (t:=p) (x:=a) (pv:=v) (by rw[bO];exact hp p ax) ha.1;rw[bO,abV]at h1;obtain⟨h2,h3⟩:=TR (ps:=ps) h1 ha.2 (λq hq=>by rw[fc];exact hp q (by simp[hq]));exact⟨h2,by simp only[List.zip_cons_cons,aze];rw[h3,fc]⟩
 |p::ps,[],_::_,_,_,_,h,_=>h.elim
 |p::ps,_::_,[],_,_,_,h,_=>h.elim
theorem aiJ{pv:PV SE}{j:Nat}(h:S9 pv j=ab):pv=.one (.yl j):=by
 unfold S9 at h;split at h
 .rw[ayH h]
 .cases h
theorem acv(bG:oE Cx P C Q self)(ih:Eg Cx P C Q cfg self kx d f0 ops rd df kk CX sk l)(hJ:J Cx (ay P G) R X V.g V.l E Y)(hn:G.length=V.n)(hK:K.length=V.lv)(cD:(E d).n=V.nt)
 (hd:∀t,o.dst=aa t->t<(E d).n)(su:∀x,mC ((E d).put o.dst x) sk)(eh:KS Cx P C Q d E K G V.nt kk (λN e Y=>CX N .normal e Y))(kT:KP Cx P C Q d E K G V.nt kx (λN v e Y=>CX N (.cw v) e Y))(hw:aT o ops (E d)=ab)
 {c:Call}{fo:Operand}{j:Nat}(ho:o.op=.call c)(hc:c.callee=.value fo)(hf:cg P d V 0 fo=.one (.yl j))
 (hs:(S_ P self Cx d f0 o.dst fo j (kF P d V c.args.toList c.argTypes.toList) V λpv V=>gY P cfg self kx Cx d f0 af ops sk l (V.cy d o.dst pv) kk).sat P C Q K G):
 ∃b,∀N,b<=N->eU P N rd ops (o::l) (E d) df Y (CX N):=by
 have sq:=bF hJ d 0 fo;rw[hf]at sq;obtain⟨nz,_,_,_,p1,_,p3⟩:=sq
 have link:∀{V':SS} {ν':List IV} {R':Rs} {aN:Ph} {E':Nat->Env} {al:St},J Cx (ay P ν') R' aN V'.g V'.l E' al->E' d=E d->S9 (cg P d V' 0 fo) j=ab->aN j=aa nz:=by
  intro V' ν' R' aN E' al JJ mB hy;have hv:=bF JJ d 0 fo;rw[aiJ hy]at hv;obtain⟨id,_,_,_,a1,_,a3⟩:=hv;rw[mB,p3]at a3;cases a3;exact a1
 unfold S_ at hs;split at hs<;>try exact hs.elim
 rename_i c0 sn hj;split at hs<;>try exact hs.elim
 rename_i rc Ak;split at hs<;>try exact hs.elim
 rename_i cF;simp only[ayz,azc,ayP]at cF;obtain⟨hlen,lG⟩:=cF;obtain⟨id,rc',tm,fV,s,p,f,q1,q2,q3,q4,q5,q6⟩:=hJ.obj j _ hj;rw[p1]at q1;cases q1;have ak0:=q3 ai;rw[Ak]at ak0;cases ak0;obtain⟨rfl,rfl⟩:=q5;have bE:=jm hJ d c.args.toList c.argTypes.toList;have fF:(c.args.toList.map (aC (E d))).length=rc.ps.length:=by rw[bE.len];exact hlen
 have fD:aA P 0 (aC (E d)) o Y=aa (.round nz (c.args.toList.map (aC (E d)))):=by
  simp only[aA,ho,hc];rw[p3];rfl
 have l_:J Cx (ay P G) R X (LU (d+1) sn++eV (d+1) V.g) V.l (ly E (d+1) ⟨rc.n,tm⟩) Y:=by
  refine{hJ with slot:=λd' t pv hg=>?_};rcases Dl hg with hg|hg
  .obtain⟨rfl,h2⟩:=Ml hg;rw[bO];exact(q6 _ h2).2
  .obtain⟨h1,h2⟩:=py hg;rw[fi _ _ _ h1];exact hJ.slot d' t pv h2
 obtain⟨bR,eC⟩:=TR l_ bE (λq hq=>by have:=lG q hq;simpa using this)
 obtain⟨b,hb⟩:=bG ab (d+1) _ rc.gy {V with g:=IJ (d+1) rc.ps (kF P d V c.args.toList c.argTypes.toList) (LU (d+1) sn++eV (d+1) V.g),nt:=rc.n} _ G K R X _ Y
  (λN ex e1 au=>ex=.normal/\au.n<=N/\∃f1 Ai EF Xz N6 XA sy,au.at nz=aa (.loop .ready ah f1 Ai EF Xz N6 XA sy)/\
   dg P N (aa nz) rc.bd e1 [] (au.put nz (.loop .busy ah f1 Ai EF Xz N6 XA sy)) (λex e2 cU=>ex.EE=af/\cU.n<=N/\∃s3 p3 f3 Jp C7 uH Fw uJ nU,cU.at nz=aa (.loop s3 p3 f3 Jp C7 uH Fw uJ nU)/\
    eU P N rd ops l ((E d).put o.dst (.bool (fR ex).isNone)) df (cU.put nz (.loop (if(fR ex).isNone then .ready else .done) (fR ex) f3 Jp C7 uH Fw uJ nU)) (CX N)))
  (aa nz) [] ax hs bR hn hK (by rw[bO,eC]) (by
   intro ex V' I K' R' aN E' al x hF hx br;dsimp only at br;split at br<;>try exact br.elim
   rename_i c1 sn1 hj1;split at br<;>try exact br.elim
   rename_i jh;simp only[ayz,azc]at jh;obtain⟨rfl,GP⟩:=jh;obtain rfl:=hx;have ak1:E' d=E d:=by rw[hF.hE d ai,fi _ _ _ ai]
   have r0:=link hF.hJ ak1 GP;obtain⟨id1,JS,Ai,sy,s1,p1',f1,r1,r2,r3,r4,r5,r6⟩:=hF.hJ.obj j _ hj1;rw[r0]at r1;cases r1;have ak2:=r3 ai;rw[Ak]at ak2;cases ak2;obtain⟨rfl,rfl⟩:=r5;obtain⟨fE,_⟩:=hF.hJ.aar (dE:=1) (f:=f1) (fV:=sy) (s:=.busy) (p:=ah) r0 hj1 r2 (λ_=>Ak) ⟨rfl,rfl⟩ r6
   obtain⟨b2,eR⟩:=bG ab (d+1) _ rc.bd {V' with l:=V'.l.set j (.lp c0 1 sn1)} _ (G++I) K' R' aN E' _
    (λN ex e2 cU=>ex.EE=af/\cU.n<=N/\∃s3 p3 f3 Jp C7 uH Fw uJ nU,cU.at nz=aa (.loop s3 p3 f3 Jp C7 uH Fw uJ nU)/\
     eU P N rd ops l ((E d).put o.dst (.bool (fR ex).isNone)) df (cU.put nz (.loop (if(fR ex).isNone then .ready else .done) (fR ex) f3 Jp C7 uH Fw uJ nU)) (CX N))
    (aa nz) [] ax br fE hF.hn hF.fX (by rw[hF.GS,bO,eC,hF.cD]) (by
     intro XC V2 μ2 K2 R2 BG E2 cU x2 Qh sb eY;dsimp only at eY;split at eY<;>try exact eY.elim
     rename_i c2 sn2 Bm;split at eY<;>try exact eY.elim
     rename_i ak3;simp only[ayz,azc]at ak3;obtain⟨rfl,auw⟩:=ak3;have ak4:E2 d=E d:=by rw[Qh.hE d ai,ak1]
     have t0:=link Qh.hJ ak4 auw;obtain⟨id2,rc2,tm2,TS,s2,p2,f2,t1,t2,t3,t4,t5,t6⟩:=Qh.hJ.obj j _ Bm;rw[t0]at t1;cases t1;have ak5:=t3 ai;rw[Ak]at ak5;cases ak5
     have fin:∀(dE:Nat) (wB:List (Nat×PV SE)) (b0:Bool) (jp:Option Code),(∀q∈wB,q∈sn2)->ZD dE (if jp.isNone then .ready else .done) jp->jp.isNone=b0->
      (gY P cfg self kx Cx d f0 af ops sk l (SS.cy {V2 with g:=eV (d+1) V2.g,nt:=V.nt,l:=V2.l.set j (.lp c0 dE wB)} d o.dst (.one (.v (.b b0)))) kk).sat P C Q K2 (G++I++μ2)->
      ∃b,∀N,b<=N->eU P N rd ops l ((E d).put o.dst (.bool b0)) df (cU.put nz (.loop (if jp.isNone then .ready else .done) jp f2 tm2 rc.n rc.ps rc.gy rc.bd TS)) (CX N):=by
      intro dE wB b0 jp jJ GM hb0 je;obtain⟨vG,_⟩:=Qh.hJ.aar (dE:=dE) (wB:=wB) (f:=f2) (fV:=TS) t0 Bm t2 (λ_=>Ak) GM (λq hq=>t6 q (jJ q hq));have hJ4:=uT (V:={V2 with l:=V2.l.set j (.lp c0 dE wB)}) vG (d+1)
      have:=kG (V1:={V2 with g:=eV (d+1) V2.g,nt:=V.nt,l:=V2.l.set j (.lp c0 dE wB)}) (I:=I++μ2) (K1:=K2) (R1:=R2) (dV:=BG) (E1:=E2) (x:=.bool b0) (pv:=.one (.v (.b b0))) ih su hd cD eh kT
       (by rw[<-ayJ];exact hJ4) (by rw[<-ayJ];exact Qh.hn) (hF.hK.trans Qh.hK) Qh.fX rfl (λi hi=>by rw[Qh.hE i ai,hF.hE i ai,fi _ _ _ ai]) ak4
       ⟨.raw (.bool b0),rfl,.raw _,rfl⟩ (by rw[<-ayJ];exact je)
      exact this
     unfold akB at eY;cases XC with
     |cw t pv=>exact eY.elim
     |normal=>
      obtain rfl:=sb;obtain⟨b3,eg⟩:=fin 0 sn2 ab ah (λq hq=>hq) ⟨rfl,rfl⟩ rfl eY;exact⟨max b3 cU.n,λN hN=>⟨by omega,rfl,by omega,s2,p2,f2,tm2,_,_,_,_,TS,t4,eg N ai⟩⟩
     |ret=>
      obtain rfl:=sb;obtain⟨b3,eg⟩:=fin 2 [] af (aa .ret) (λq hq=>by cases hq) ⟨by simp,rfl⟩ rfl eY;exact⟨max b3 cU.n,λN hN=>⟨by omega,rfl,by omega,s2,p2,f2,tm2,_,_,_,_,TS,t4,eg N ai⟩⟩
     |exit i=>
      obtain rfl:=sb;obtain⟨b3,eg⟩:=fin (i+4) [] af (aa (.exit i)) (λq hq=>by cases hq) ⟨by simp,rfl⟩ rfl eY;exact⟨max b3 cU.n,λN hN=>⟨by omega,rfl,by omega,s2,p2,f2,tm2,_,_,_,_,TS,t4,eg N ai⟩⟩)
   exact⟨max b2 al.n,λN hN=>⟨by omega,rfl,by omega,f1,Ai,_,_,_,_,sy,r4,eR N ai⟩⟩)
 refine⟨b,λN hN=>?_⟩;have:=hb N hN;rw[bO]at this;exact .round hw fD q4 fF this
theorem J.skip(hJ:J Cx (ay P G) R X Γ L E Y):J Cx (ay P G) R X Γ L E Y.skip:=by
 have hg:ji R Y R Y.skip:=⟨λ_ m h=>⟨m,h,ayA _⟩,λid m cs aB mn _ aK=>⟨cs,aB,aK,ayA _,λ_ _=>rfl⟩,hJ.fits⟩;have hs:la (ay P G) (ay P G) R X L Y R X L Y.skip (λ_=>False):=.mk' (λ_ _ h=>h) hg (λk cs hk=>⟨⟨cs,hk⟩,rfl⟩) (λk kt es hk=>⟨⟨es,hk⟩,rfl⟩) (λk s st cut fr z hk _=>⟨⟨st,hk⟩,rfl,λ_ _=>rfl⟩) (λk c st snap hk=>⟨⟨c,st,snap,hk⟩,rfl⟩)
 exact⟨λd t pv hg=>(hJ.slot d t pv hg).step hs pv.a_,λk o hk=>(hJ.obj k o hk).step hs rfl (λ_ _=>⟨rfl,rfl⟩) o.a_,hJ.inj,λk id hk=>⟨(hJ.lt k id hk).1,aDg (hJ.lt k id hk).2⟩,
  λid m h=>aDg (hJ.qO id m h),hJ.fits,hJ.wf,λid hid=>hJ.top id (Nat.le_of_succ_le hid)⟩
theorem J.cx(hJ:J Cx (ay P G) R X Γ L E Y){Cx':Cs}(h:∀(k c st:Nat) (sn:List (Nat×PV SE)),L[k]?=aa (LO.lp c st sn)->st<2->∀rc,Cx[c]?=aa rc->Cx'[c]?=aa rc):J Cx' (ay P G) R X Γ L E Y:=by
 refine{hJ with obj:=λk o hk=>?_};have ho:=hJ.obj k o hk;cases o with
 |lp c st sn=>
  obtain⟨id,rc,tm,fV,s,p,f,q1,q2,q3,q4,q5,q6⟩:=ho;exact⟨id,rc,tm,fV,s,p,f,q1,q2,λbI=>h k c st sn hk bI rc (q3 bI),q4,q5,q6⟩
 |_=>exact ho
theorem acw{q:Nat×PV SE}(h:q∈p5 d V):cN d q.1 V.g=aa q.2/\q.2.qN=ab:=by
 unfold p5 at h;obtain⟨p,_,hp⟩:=List.mem_filterMap.1 h;split at hp<;>try (cases hp;done)
 split at hp<;>try (cases hp;done)
 split at hp<;>try (cases hp;done)
 rename_i bI;cases hp;exact⟨‹_›,bI⟩
theorem TT{c j:Nat}:∀{L:List (LO SE)} {k0:Nat},BE c j k0 L=ab->∀{k c' st:Nat} {sn:List (Nat×PV SE)},L[k]?=aa (.lp c' st sn)->k0+k≠j->st<2->c'<c
 |[],_,_,k,_,_,_,h,_,_=>by simp at h
 |o::L,k0,hl,k,c',st,sn,h,hj,bI=>by
  cases k with
  |zero=>
   simp at h;subst h;simp only[BE,ayz,azf,azc,az7]at hl;rcases hl.1 with(h1|h1)|h1
   .omega
   .omega
   .simpa using h1
  |succ k=>
   have cH:BE c j (k0+1) L=ab:=by
    cases o<;>simp only[BE,ayz]at hl<;>first|exact hl|exact hl.2
   exact TT cH (by simpa using h) ai bI
theorem acx{jk:Cs->m8}(Mm:∀Cx,oE Cx P C Q (jk Cx))(hJ:J Cx (ay P G) R X V.g V.l E Y)(hn:G.length=V.n)(hK:K.length=V.lv)(cD:(E d).n=V.nt){k:yp->SS->ak}{CW:Nat->lP}(jE:KW Cx P C Q d E K G V.nt k CW)
 {g:Operand}{params:Array Tmp}{assign body:Code}{F:FuncId}{bs:List (Nat×Nat)}{f1:Nat}(hg:cg P d V 0 g=.one (.fn F bs))
 (hs:(oT P cfg (jk (Cx++[⟨params.toList,assign,body,V.nt⟩])) (λ_ _ _=>.fail 135) (d+1) f1 ah F (.one (.yl V.l.length)::bs.map λ(k,ext)=>.one (.pt k 0 ext))
    {V with g:=(d+1,0,.one (.yl V.l.length))::eV (d+1) V.g,l:=V.l++[.lp Cx.length 0 (p5 d V)],nt:=1} λ_ W=>match cN (d+1) 0 W.g,W.l[V.l.length]? with
     |some (.one (.yl j)),aa (.lp c' st _)=>if ayI j V.l.length&&ayI c' Cx.length&&BE Cx.length V.l.length 0 W.l then akD V.l.length Cx.length st {W with g:=eV (d+1) W.g,nt:=V.nt} k else .fail 137
     |_,_=>.fail 137).sat P C Q K G):
 ∃b,∀N,b<=N->dg P N ah (.rangeFunc g params assign body) (E d) df Y (CW N):=by
 have cL:∃fn,P.funcs[F]?=aa fn/\fn.body.isSome=ab/\(fn.name != "runtime.NumGoroutine")=ab:=by
  unfold oT at hs;split at hs<;>try exact hs.elim
  rename_i fn cL;split at hs<;>try exact hs.elim
  rename_i body hb;split at hs<;>try exact hs.elim
  split at hs<;>try exact hs.elim
  rename_i jh;simp only[ayz]at jh;exact⟨fn,cL,by simp[hb],jh.2⟩
 obtain⟨fn,cL,hb,oD⟩:=cL
 have hJc:J (Cx++[⟨params.toList,assign,body,V.nt⟩]) (ay P G) R X V.g V.l E Y.skip:=hJ.skip.cx λk c st sn _ _ rc h=>by
  rw[ayK (du h)];exact h
 have cm:=D3 hJc (.loop .ready ah 0 (E d).t (E d).n params.toList assign body Y.n) (.lp Cx.length 0 (p5 d V))
 have bR:=hJc.AB (.loop .ready ah 0 (E d).t (E d).n params.toList assign body Y.n) (.lp Cx.length 0 (p5 d V))
  ⟨Y.skip.n,⟨params.toList,assign,body,V.nt⟩,(E d).t,Y.n,.ready,ah,0,by simp[cA],hJc.sV,λ_=>by simp,by rw[St.gz,if_pos rfl,cD],⟨rfl,rfl⟩,λq hq=>by
   obtain⟨h1,h2⟩:=acw hq;exact⟨h2,(hJc.slot d q.1 q.2 h1).step cm (PV.a_ _)⟩⟩
 have ak6:=bF (V:={V with l:=V.l++[.lp Cx.length 0 (p5 d V)]}) bR d 0 g;rw[show cg P d {V with l:=V.l++[.lp Cx.length 0 (p5 d V)]} 0 g=.one (.fn F bs)from hg]at ak6;obtain⟨ys,kO,uS⟩:=nw (args:=[.r8 (Y.n+1)]) ak6 cL hb oD
 have GP:VR (ay P G) R (cA X V.l.length Y.skip.n) (V.l++[.lp Cx.length 0 (p5 d V)]) (Y.skip.add (.loop .ready ah 0 (E d).t (E d).n params.toList assign body Y.n)) (.r8 (Y.n+1)) (.one (.yl V.l.length)):=
  ⟨Y.n+1,Cx.length,0,p5 d V,by simp[cA],by simp,rfl⟩
 obtain⟨e1,lF⟩:∃e1,e1=(⟨1,.lf⟩:Env).put (aa 0) (.r8 (Y.n+1)):=⟨_,rfl⟩;have ak7:e1.at 0=.r8 (Y.n+1):=by rw[lF];exact dG (by decide)
 have ae4:e1.n=1:=by rw[lF];exact fc ..
 have fE:J (Cx++[⟨params.toList,assign,body,V.nt⟩]) (ay P G) R (cA X V.l.length Y.skip.n) ((d+1,0,.one (.yl V.l.length))::eV (d+1) V.g) (V.l++[.lp Cx.length 0 (p5 d V)]) (ly E (d+1) e1) (Y.skip.add (.loop .ready ah 0 (E d).t (E d).n params.toList assign body Y.n)):=by
  refine{bR with slot:=λd' t pv HN=>?_};rcases l9 HN with⟨rfl,rfl,rfl⟩|⟨bt,HN⟩
  .rw[bO,ak7];exact GP
  .obtain⟨h1,h2⟩:=py HN;rw[fi _ _ _ h1];exact bR.slot d' t pv h2
 obtain⟨_,_,_,_,b,hcx⟩:=zn (d:=d+1) (V:={V with g:=(d+1,0,.one (.yl V.l.length))::eV (d+1) V.g,l:=V.l++[.lp Cx.length 0 (p5 d V)],nt:=1}) (E:=ly E (d+1) e1) (args:=.r8 (Y.n+1)::ys) (c8:=.one (.yl V.l.length)::bs.map λ(p:Nat×Nat)=>.one (.pt p.1 0 p.2))
  (RW:=λN _ l6=>l6.n<=N/\∃s p f3 tm l5 uH Js uJ nU,l6.at (Y.n+1)=aa (.loop s p f3 tm l5 uH Js uJ nU)/\s≠.busy/\
   ∃ex:Ex,ex.EE=af/\(∀t,ex≠.goto t)/\fR ex=p/\CW N ex (E d) (l6.put (Y.n+1) (.loop .exhausted p f3 tm l5 uH Js uJ nU)))
  (PW:=λ_ _ _=>False) (Mm _) fE hn hK (by rw[bO,ae4]) ⟨GP,uS⟩ hs (by
   intro pv V' I K' R' aN E' al v hF mB hv br;split at br<;>try exact br.elim
   rename_i j1 c1 mX sn1 hg1 oL;split at br<;>try exact br.elim
   rename_i jh;simp only[ayz,azc]at jh;obtain⟨⟨rfl,rfl⟩,aen⟩:=jh;have pW:=hF.hJ.slot (d+1) 0 _ hg1;obtain⟨sa,_,_,_,a1,_,a3⟩:=pW;rw[mB,bO,ak7]at a3;cases a3;obtain⟨id,JS,Ai,sy,s1,p1,f1,r1,r2,r3,r4,r5,r6⟩:=hF.hJ.obj _ _ oL;rw[a1]at r1;cases r1;have vM:E' d=E d:=by rw[hF.hE d ai,fi _ _ _ ai]
   have fin:∀(dE:Nat) (XC:yp) (ex:Ex),2<=dE->ZD dE .exhausted p1->(∀(R:Rs) X L Y,XR P (G++I) R X L Y XC ex)->
    (k XC {V' with g:=eV (d+1) V'.g,nt:=V.nt,l:=V'.l.set V.l.length (.lp Cx.length dE [])}).sat P C Q K' (G++I)->
    ∃b,∀N,b<=N->al.n<=N/\CW N ex (E d) (al.put (Y.n+1) (.loop .exhausted p1 f1 Ai JS.n JS.ps JS.gy JS.bd sy)):=by
    intro dE XC ex bI GM hxr je;obtain⟨vG,_⟩:=hF.hJ.aar (dE:=dE) (wB:=[]) (rc:=JS) (tm:=Ai) (f:=f1) (fV:=sy) (s:=.exhausted) (p:=p1) a1 oL r2 (λh=>by omega) GM (λq hq=>by cases hq)
    have hJ4:J Cx (ay P (G++I)) R' aN V'.g (V'.l.set V.l.length (.lp Cx.length dE [])) E' (al.put (Y.n+1) (.loop .exhausted p1 f1 Ai JS.n JS.ps JS.gy JS.bd sy)):=vG.cx λk2 c st sn mq auy rc Ak=>by
     rw[List.getElem?_set]at mq;split at mq
     .split at mq
      .cases mq;omega
      .cases mq
     .have aj:c<Cx.length:=TT aen mq ai auy;rw[ayK aj]at Ak;exact Ak
    have hJ5:=uT (V:={V' with l:=V'.l.set V.l.length (.lp Cx.length dE [])}) hJ4 (d+1)
    obtain⟨b,hb⟩:=jE XC {V' with g:=eV (d+1) V'.g,nt:=V.nt,l:=V'.l.set V.l.length (.lp Cx.length dE [])} I K' R' aN E' _ ex
     ⟨hF.hK,hF.fX,rfl,hJ5,hF.hn,λi hi=>by rw[hF.hE i ai,fi _ _ _ ai],by rw[vM]⟩ (hxr _ _ _ _) je
    refine⟨b,λN hN=>⟨(hb N hN).1,?_⟩⟩;have:=(hb N hN).2;rw[vM]at this;exact this
   rcases mX with _|_|_|_|i
   .obtain⟨rfl,rfl⟩:=r5;obtain⟨b,hb⟩:=fin 3 .normal .normal ai ⟨by simp,rfl⟩ (λ_ _ _ _=>rfl) br;exact⟨b,λN hN=>⟨(hb N hN).1,(hb N hN).1,_,_,_,_,_,_,_,_,_,r4,by simp,.normal,rfl,by simp,rfl,(hb N hN).2⟩⟩
   .exact br.elim
   .obtain⟨da,rfl⟩:=r5;obtain⟨b,hb⟩:=fin 2 .ret .ret ai ⟨by simp,rfl⟩ (λ_ _ _ _=>rfl) br;exact⟨b,λN hN=>⟨(hb N hN).1,(hb N hN).1,_,_,_,_,_,_,_,_,_,r4,da,.ret,rfl,by simp,rfl,(hb N hN).2⟩⟩
   .exact br.elim
   .obtain⟨da,rfl⟩:=r5;obtain⟨b,hb⟩:=fin (i+4) (.exit i) (.exit i) ai ⟨by simp,rfl⟩ (λ_ _ _ _=>rfl) br;exact⟨b,λN hN=>⟨(hb N hN).1,(hb N hN).1,_,_,_,_,_,_,_,_,_,r4,da,.exit i,rfl,by simp,rfl,(hb N hN).2⟩⟩) (by
   intro t pv V' I K' R' aN E' al v hF mB hv br;exact br.elim)
 refine⟨max b (Y.n+2),λN hN=>.range (f:=F) (args:=.r8 (Y.n+1)::ys) ?_ ai ((hcx N ai).toW λ_ _ h=>h) λv l6 h=>h⟩;exact kO
end
section
variable{Cx:Cs}
variable{P:Program}{N:Nat}{Y al:St}{R R':Rs}{X aN:Ph}{E:Nat->Env}{G:List IV}{ro:Nat}{Z:Io}{w:World}{cfg:eS}{self:m8}
variable{C:Cr}{Q:IV->Prop}{K:List (List IV->Prop)}{V:SS}{d f0:Nat}{o:Oper}{k:PV SE->SS->ak}{L:List (LO SE)}{Γ:Gm SE}{rd:Option Nat}{df:List Df}
variable{kx:Kx}{sk:List Nat}{ops:Array Oper}{l:List Oper}{kk:SS->ak}{CX:Nat->lP}
theorem lS{V V1:SS}(h:V1.ln=V.ln):V1.lv=V.lv/\V1.nt=V.nt:=by
 simp only[SS.ln,ay7]at h;exact h
theorem acy(hC:jK P C)(bG:oE Cx P C Q self)(ih:Eg Cx P C Q cfg self kx d f0 ops rd df kk CX sk l)(hJ:J Cx (ay P G) R X V.g V.l E Y)(hn:G.length=V.n)(hK:K.length=V.lv)(cD:(E d).n=V.nt)
 (hd:∀t,o.dst=aa t->t<(E d).n)(su:∀x,mC ((E d).put o.dst x) sk)(eh:KS Cx P C Q d E K G V.nt kk (λN e Y=>CX N .normal e Y))(kT:KP Cx P C Q d E K G V.nt kx (λN v e Y=>CX N (.cw v) e Y))(hw:aT o ops (E d)=ab)
 (hs:(LV P cfg self kx Cx d f0 af o V λpv V=>gY P cfg self kx Cx d f0 af ops sk l (V.cy d o.dst pv) kk).sat P C Q K G):
 ∃b,∀N,b<=N->eU P N rd ops (o::l) (E d) df Y (CX N):=by
 have Mn:(gF P d o V λpv V=>gY P cfg self kx Cx d f0 af ops sk l (V.cy d o.dst pv) kk).sat P C Q K G->∃b,∀N,b<=N->eU P N rd ops (o::l) (E d) df Y (CX N):=by
  intro hs;obtain⟨x,au,R1,dV,pv,V1,I,h1,h2,h3,h4,h5,h6⟩:=aci hJ hn hs;obtain⟨b,hb⟩:=kG ih su hd cD eh kT h2 h4 (azH K) (by rw[(lS h5).1];exact hK) (lS h5).2 (λ_ _=>rfl) rfl h3 h6;exact⟨max b au.n,λN hN=>.val hw h1 ai (hb N ai)⟩
 unfold LV at hs;split at hs
 .rename_i c ho;unfold ZW at hs;split at hs
  .exact Mn hs
  .rename_i f hc;split at hs
   rotate_left
   .rename_i j hf;simp only[ayW,if_false]at hs;exact acv bG ih hJ hn hK cD hd su eh kT hw ho hc hf hs
   .exact hs.elim
   rename_i g bs hf;simp only at hs;split at hs
   .rename_i t cf wC vi;obtain⟨rfl,sj,_⟩:=Mh vi;split at hs<;>try exact hs.elim
    rename_i fn cL;split at hs<;>try exact hs.elim
    rename_i cF;simp only[ayz]at cF;have sq:=bF hJ d 0 f;rw[hf]at sq;have bE:=jm hJ d c.args.toList c.argTypes.toList;obtain⟨ys,kO,uS⟩:=nw (args:=c.args.toList.map (aC (E d))) sq cL cF.1.2 cF.2
    have KL:ys=[]:=by
     cases ys with
     |nil=>rfl
     |cons=>exact uS.elim
    subst KL;rw[ayO]at kO
    have fD:aA P 0 (aC (E d)) o Y=aa (.enter g (c.args.toList.map (aC (E d)))):=by
     simp only[aA,ho,hc];exact kO
    rw[sj]at bE
    obtain⟨cl,jf,auz⟩:∃cl,c.args.toList.map (aC (E d))=[cl]/\VR (ay P G) R X V.l Y cl (.one (.fn cf wC)):=by
     generalize c.args.toList.map (aC (E d))=l at bE
     match l,bE with
     |[cl],bE=>exact⟨cl,rfl,bE.1⟩
    obtain⟨b,hb⟩:=Qf (RW:=λN v au=>au.n<=N/\eU P N rd ops l ((E d).put o.dst v) df au (CX N)) hC bG hJ hn hK cD (azj.1 cL).1 auz hs (by
     intro pv V' I K' R' aN E' al v hF mB hv br;obtain⟨b,hb⟩:=kG ih su hd cD eh kT hF.hJ hF.hn hF.hK hF.fX hF.cD hF.hE mB hv br;exact⟨max b al.n,λN hN=>⟨by omega,by omega,hb N ai⟩⟩)
    rw[jf]at fD;exact⟨b,λN hN=>.call hw fD (hb N hN) λv au hv=>hv⟩
   split at hs
   .rename_i hp;simp only[ayz,az8]at hp;have jA:=hp.1;subst jA
    have pU:∃(args:List IV) (v:IV) (au:St) (R1:Rs) (dV:Ph) (pv:PV SE) (V1:SS) (I:List IV),aA P 0 (aC (E d)) o Y=aa (.enter g args)/\(∀ro,jN P ro g args Y v au)/\(au=Y\/∃ob,au=Y.add ob)/\J Cx (ay P (G++I)) R1 dV V1.g V1.l E au/\VR (ay P (G++I)) R1 dV V1.l au v pv/\(G++I).length=V1.n/\V1.ln=V.ln/\
     (gY P cfg self kx Cx d f0 af ops sk l (V1.cy d o.dst pv) kk).sat P C Q K (G++I):=by
     exact Qe hC hJ hn ho hc hf hs
    obtain⟨args,v,au,R1,dV,pv,V1,I,fD,uR,_,g1,g2,g3,g4,g5⟩:=pU;obtain⟨b,hb⟩:=kG ih su hd cD eh kT g1 g3 (azH K) (by rw[(lS g4).1];exact hK) (lS g4).2 (λ_ _=>rfl) rfl g2 g5;exact⟨max b au.n,λN hN=>.call hw fD (dM.W7 (uR 0) ai) λv1 cU hv=>by obtain⟨rfl,rfl⟩:=hv;exact⟨by omega,hb N ai⟩⟩
   split at hs
   .rename_i hp;simp only[ayz,az8]at hp;have jA:=hp.1;subst jA;split at hs<;>try exact hs.elim
    rename_i fn cL;split at hs<;>try exact hs.elim
    rename_i cF;simp only[ayz]at cF;have sq:=bF hJ d 0 f;rw[hf]at sq;have bE:=jm hJ d c.args.toList c.argTypes.toList;obtain⟨ys,kO,uS⟩:=nw (args:=c.args.toList.map (aC (E d))) sq cL cF.1.2 cF.2
    have KL:ys=[]:=by
     cases ys with
     |nil=>rfl
     |cons=>exact uS.elim
    subst KL;rw[ayO]at kO
    have fD:aA P 0 (aC (E d)) o Y=aa (.enter g (c.args.toList.map (aC (E d)))):=by
     simp only[aA,ho,hc];exact kO
    obtain⟨b,hb⟩:=aiG (KW:=λN v au=>au.n<=N/\eU P N rd ops l ((E d).put o.dst v) df au (CX N)) hC hJ hn bE hs (by
     intro V1 I R1 dV au x pv h2 h4 hlen h5 hx h6;obtain⟨b,hb⟩:=kG ih su hd cD eh kT h2 hlen (azH K) (by rw[(lS h5).1];exact hK) (lS h5).2 (λ_ _=>rfl) rfl hx h6;exact⟨max b au.n,λN hN=>⟨by omega,hb N ai⟩⟩)
    exact⟨b,λN hN=>.call hw fD (hb N hN) λv au hv=>hv⟩
   split at hs
   .rename_i hp;simp only[ayz,az8]at hp;have jA:=hp.1;subst jA;split at hs<;>try exact hs.elim
    rename_i zs V' fn hr cL;split at hs<;>try exact hs.elim
    rename_i cF;simp only[ayz]at cF;obtain⟨g',args,z,R1,pv,V1,I,h1,h2,h3,h4,h5,h6,h7⟩:=TF hC hJ hn ho hc hf hr cL cF.1.2 cF.2 cF.1.1 hs;obtain⟨b,hb⟩:=kG ih su hd cD eh kT h3 h5 (azH K) (by rw[(lS h6).1];exact hK) (lS h6).2 (λ_ _=>rfl) rfl h4 h7;refine⟨max b Y.n,λN hN=>.call hw h1 (dM.W7 (h2 0) ai) λv au hv=>?_⟩;obtain⟨rfl,rfl⟩:=hv;exact⟨by omega,hb N ai⟩
   .split at hs
    .exact hs.elim
    .have sq:=bF hJ d 0 f;rw[hf]at sq;have bE:=jm hJ d c.args.toList c.argTypes.toList
     have cL:∃fn,P.funcs[g]?=aa fn/\fn.body.isSome=ab/\(fn.name != "runtime.NumGoroutine")=ab:=by
      unfold oT at hs;split at hs<;>try exact hs.elim
      rename_i fn cL;split at hs<;>try exact hs.elim
      rename_i body hb;split at hs<;>try exact hs.elim
      split at hs<;>try exact hs.elim
      rename_i jh;simp only[ayz]at jh;exact⟨fn,cL,by simp[hb],jh.2⟩
     obtain⟨fn,cL,hb,oD⟩:=cL;obtain⟨ys,kO,uS⟩:=nw (args:=c.args.toList.map (aC (E d))) sq cL hb oD
     have fD:aA P 0 (aC (E d)) o Y=aa (.enter g (c.args.toList.map (aC (E d))++ys)):=by
      simp only[aA,ho,hc];exact kO
     obtain⟨_,_,_,_,b,TQ⟩:=zn (RW:=λN v au=>au.n<=N/\eU P N rd ops l ((E d).put o.dst v) df au (CX N)) (PW:=λN v au=>CX N (.cw v) (E d) au) bG hJ hn hK cD (bE.app uS) hs (by
      intro pv V' I K' R' aN E' al v hF mB hv br;obtain⟨b,hb⟩:=kG ih su hd cD eh kT hF.hJ hF.hn hF.hK hF.fX hF.cD hF.hE mB hv br;exact⟨max b al.n,λN hN=>⟨by omega,by omega,hb N ai⟩⟩) (by
      intro t pv V' I K' R' aN E' al v hF mB hv br;obtain⟨b,hb⟩:=kT t pv V' I K' R' aN E' al v hF hv br;exact⟨b,λN hN=>⟨(hb N hN).1,by rw[<-mB];exact(hb N hN).2⟩⟩)
     exact⟨b,λN hN=>.ZH hw fD (TQ N hN) (λv au hv=>hv) λv au hv=>hv⟩
  .exact hs.elim
 .exact Mn hs
theorem TU{a:SE}{u x:IV}(h:Ro a=aa u)(hx:VR (ay P G) R X V.l Y x (.one (.v a))):x=u:=by
 unfold Ro at h;split at h<;>try (cases h;done)
 .cases h;obtain⟨y,h1,h2,_⟩:=hx;simp only[ay,SE.den,ayB]at h1;subst h1;exact cQ h2
 .cases h;obtain⟨y,h1,h2,_⟩:=hx;simp only[ay,SE.den,ayB]at h1;subst h1;exact cQ h2
theorem afe(hJ:J Cx (ay P G) R X V.g V.l E Y){pv:PV SE}(h:Ta P d V o=aa pv):∃x,aA P 0 (aC (E d)) o Y=aa (.val x Y)/\VR (ay P G) R X V.l Y x pv:=by
 unfold Ta at h;split at h
 .rename_i op t x y yt ho;split at h<;>try (cases h;done)
  rename_i a b ha hb;split at h<;>try (cases h;done)
  rename_i u v hu hv;have hx:=bF hJ d t x;have hy:=bF hJ d t y;rw[ha]at hx;rw[hb]at hy;rw[ayG]at h;obtain⟨e,h1,rfl⟩:=h;rw[ayV]at h1;obtain⟨w,h2,h3⟩:=h1;refine⟨w,?_,?_⟩
  .simp only[aA,ho,TU hu hx,TU hv hy,h2,ret]
  .unfold agw at h3;split at h3<;>try (cases h3;done)
   .cases h3;exact⟨_,rfl,.raw _,rfl⟩
   .cases h3;exact⟨_,rfl,.raw _,rfl⟩
 .rename_i t x ix ho;split at h<;>try (cases h;done)
  rename_i n el cs z hu ky cX;split at h<;>try (cases h;done)
  rename_i s ba bf JI;split at h<;>try (cases h;done)
  rename_i hc;have hx:=bF hJ d t x;have hi:=bF hJ d 0 ix;rw[ky]at hx;rw[cX]at hi;have wq:=TU (a:=.i z) rfl hi;obtain⟨c7,hxe,bQ⟩:=hx
  obtain⟨v,hv,hr⟩:=uQ (pv:=pv) bf JI bQ hc.2.2 (by
   split at h
   .rename_i ha;cases h;rw[if_pos ha]
   .rename_i ha;rw[if_neg ha];split at h
    .rename_i c jh;cases h;exact⟨c,jh,rfl⟩
    .cases h)
  refine⟨v,?_,hr⟩;simp only[aA,ho,hu,hxe,wq,bf,IV.int];rw[if_pos ⟨hc.1,hc.2.1⟩,hv];rfl
 .cases h
theorem aiK(hJ:J Cx (ay P G) R X V.g V.l E Y){es:SE}{s:Nat}{c:Cl SE}(h:ZX P d V o=aa (es,s,c)){z:IV}(hz:(SE.sub s es (.len es) (.i 0)).den P G=aa z):
 ∃x,aA P 0 (aC (E d)) o Y=aa (.val x Y)/\VR (ay P G) R X V.l Y x (.one c):=by
 unfold ZX at h;split at h<;>try (cases h;done)
 rename_i c0 ho;split at h<;>try (cases h;done)
 rename_i hc;have bE:=jm hJ d c0.args.toList c0.argTypes.toList;split at h<;>try (cases h;done)
 rename_i base ca hh;rw[hh]at bE;obtain⟨x0,x1,hx,vo,vK⟩:=KF bE;split at h<;>try (cases h;done)
 rename_i t0 t1 Xj Xk;split at h<;>try (cases h;done)
 rename_i et et1 het aeL;split at h<;>try (cases h;done)
 rename_i s' z' bytes bf sZ HE;split at h<;>try (cases h;done)
 rename_i cF;simp only[azf,azn,not_or,Bool.not_eq_true,Bool.not_eq_false]at cF;obtain⟨⟨cd,lE⟩,hc3⟩:=cF;have auA:=ayH lE;have ayo:bytes<=1000000:=by simpa using hc3
 have cm:s'≠0:=λh=>by subst h;simp at cd
 split at h<;>try (cases h;done)
 rename_i fr aQ raw b w aeM;cases h;simp only[SE.den,ayV]at hz;obtain⟨a1,jV,b1,⟨a2,ak8,hlen⟩,h0⟩:=hz;rw[jV]at ak8;cases ak8
 have:a1=.tree s []:=by
  obtain⟨a,ha,h0⟩:=h0;cases ha;unfold Hy at hlen;split at hlen<;>try (cases hlen;done)
  rename_i q fs;cases hlen;simp only[p6,ie]at h0;split at h0
  .rename_i hc;obtain⟨rfl,_,h1,_,_⟩:=hc;have:fs=[]:=List.eq_nil_of_length_eq_zero (by simpa using h1);rw[this]
  .cases h0
 subst this;have bt:iz s []=ab:=rfl;obtain⟨g1,new,g2,g3,_,g5⟩:=HD hJ aeM vK jV ai bt (λ_=>⟨.tree s [],by simp[SE.den,jV]⟩);have kM:new=[]:=by simpa using g3
 subst kM;obtain⟨hw,mA⟩:=vo;refine⟨x0,?_,hw,mA⟩;have ao2:fw 0 s 0 0 [] x0 Y=aa (.val x0 Y):=by subst mA;cases b<;>simp[fw,ret]
 have iW:qi x0=aa 0:=by subst mA;cases b<;>rfl
 simp only[aA,ho,hc,fx,hx,mh,Xj,Xk,qf het,qf aeL,bf,sZ,HE,uB,g1,g2,iW];rw[if_neg (by rintro(h|h);exact cm h;exact h auA),if_pos ⟨by simp,by simp,by simp;omega,by simp⟩];exact ao2
theorem aff(hC:jK P C)(bG:oE Cx P C Q self)(ih:Eg Cx P C Q cfg self kx d f0 ops rd df kk CX sk l)(hJ:J Cx (ay P G) R X V.g V.l E Y)(hn:G.length=V.n)(hK:K.length=V.lv)(cD:(E d).n=V.nt)
 (hd:∀t,o.dst=aa t->t<(E d).n)(su:∀x,mC ((E d).put o.dst x) sk)(eh:KS Cx P C Q d E K G V.nt kk (λN e Y=>CX N .normal e Y))(kT:KP Cx P C Q d E K G V.nt kx (λN v e Y=>CX N (.cw v) e Y))(hw:aT o ops (E d)=ab)
 (hs:(E_ P cfg self kx Cx d f0 af o V λpv V=>gY P cfg self kx Cx d f0 af ops sk l (V.cy d o.dst pv) kk).sat P C Q K G):
 ∃b,∀N,b<=N->eU P N rd ops (o::l) (E d) df Y (CX N):=by
 unfold E_ at hs;simp only[]at hs;split at hs
 .rename_i es s c hq;split at hq
  .obtain⟨⟨z,hz⟩,hk⟩:=hs;obtain⟨x,h1,h2⟩:=aiK hJ hq hz;obtain⟨b,hb⟩:=kG (V1:=V) (I:=[]) (x:=x) (pv:=.one c) ih su hd cD eh kT (by rw[ayO];exact hJ) (by rw[ayO];exact hn) (azH K) hK rfl (λ_ _=>rfl) rfl (by rw[ayO];exact h2) (by rw[ayO];exact hk);exact⟨max b Y.n,λN hN=>.val hw h1 ai (hb N ai)⟩
  .cases hq
 .split at hs
  .rename_i pv hq;split at hq
   .obtain⟨x,h1,h2⟩:=afe hJ hq;obtain⟨b,hb⟩:=kG (V1:=V) (I:=[]) (x:=x) (pv:=pv) ih su hd cD eh kT (by rw[ayO];exact hJ) (by rw[ayO];exact hn) (azH K) hK rfl (λ_ _=>rfl) rfl (by rw[ayO];exact h2) (by rw[ayO];exact hs);exact⟨max b Y.n,λN hN=>.val hw h1 ai (hb N ai)⟩
   .cases hq
  .exact acy hC bG ih hJ hn hK cD hd su eh kT hw hs
theorem afg{o:Oper}{rest:List Oper}{t:TypeId}{pv:PV SE}(h:ZY P d V o rest=aa (t,pv)):
 ∃x p b,o.op=.makeInterface t x/\o.dst=aa b/\o.guard=ah/\rest=[p]/\p.op=.panic (.tmp b)/\p.guard=ah/\(∀u,(P.underlying t=aa (.interface u)->False)/\(P.underlying t=ah->False))/\pv=cg P d V t x:=by
 unfold ZY at h;split at h<;>try (cases h;done)
 rename_i t1 x1 p1 ho;split at h<;>try (cases h;done)
 rename_i a b hp fN hg1 hg2;split at h<;>try (cases h;done)
 rename_i hc;simp only[ayz]at hc;obtain⟨cn,lE⟩:=hc;have:=ayH cn;subst this;cases h;refine⟨x1,p1,a,ho,fN,hg1,rfl,hp,hg2,λu=>⟨λhu=>?_,λhu=>?_⟩,rfl⟩
 .unfold KA at lE;rw[hu]at lE;cases lE
 .unfold KA at lE;rw[hu]at lE;cases lE
theorem N7(hC:jK P C)(bG:oE Cx P C Q self):∀(l:List Oper) (sk:List Nat),Eg Cx P C Q cfg self kx d f0 ops rd df kk CX sk l
 |[],sk=>by
  intro V G K R X E Y _ hs hJ hn hK cD eh _;obtain⟨b,hb⟩:=eh.now hJ hn hK hs;exact⟨b,λN hN=>.nil (hb N hN).2⟩
 |o::l,sk=>by
  intro V G K R X E Y HR hs hJ hn hK cD eh kT;have ih:∀sk,Eg Cx P C Q cfg self kx d f0 ops rd df kk CX sk l:=λsk=>N7 hC bG l sk;simp only[gY]at hs
  have XB:∀t,o.dst=aa t->t<V.nt:=by
   intro t ht;rw[ht]at hs;by_cases aj:t<V.nt
   .exact aj
   .have:azp t V.nt=af:=by
     cases h:azp t V.nt
     .rfl
     .exact absurd (by simpa using h) aj
    simp only[this,Bool.not_false,if_true]at hs;exact hs.elim
  rw[if_neg]at hs
  rotate_left
  .cases hh:o.dst with
   |none=>simp
   |some t=>simp[XB t hh]
  .have hd:∀t,o.dst=aa t->t<(E d).n:=by rw[cD];exact XB
   simp only[ayW,if_false]at hs;split at hs
   .rename_i t pv afh;obtain⟨x,p,b0,ho,fN,hg1,rfl,hp,hg2,hty,rfl⟩:=afg afh;have hx:=bF hJ d t x;have bR:=Fs (d:=d) (dst:=o.dst) (x:=.dR t (aC (E d) x)) hJ;have Ng:(V.lj d o.dst).ln=V.ln:=Ft ..
    obtain⟨fX,lR⟩:=lS Ng
    obtain⟨b,hb⟩:=kT t _ (V.lj d o.dst) [] K R X _ Y (aC (E d) x) ⟨azH K,by rw[fX];exact hK,lR,by rw[ayO];exact bR,by rw[ayO,HM];exact hn,λj hj=>fi _ _ _ ai,by rw[bO,fc]⟩
     (by rw[ayO];cases o.dst<;>exact hx) (by rw[ayO];exact hs)
    rw[bO]at hb;refine⟨max b Y.n,λN hN=>?_⟩;have hw1:aT o ops (E d)=ab:=by unfold aT;rw[hg1]
    have fD:aA P 0 (aC (E d)) o Y=aa (.val (.dR t (aC (E d) x)) Y):=by
     simp only[aA,ho];split
     .rename_i u hu;exact((hty u).1 hu).elim
     .rfl
     .rename_i hu;exact((hty #[]).2 hu).elim
    refine .val hw1 fD ai ?_;have aj:b0<(E d).n:=hd b0 fN;refine .panic (by unfold aT;rw[hg2]) (v:=.dR t (aC (E d) x)) ?_ (hb N ai).2;simp only[aA,hp,aC];rw[fN,dG aj]
   rename_i afh;clear afh
   have kb:∀(V1:SS),J Cx (ay P G) R X V1.g V1.l E Y->V1.n=V.n->V1.ln=V.ln->aT o ops (E d)=ab->
    (match AJ P cfg d af o V1 with
     |some (g,args)=>IH P cfg self kx d f0 o.dst g args V1 λV=>gY P cfg self kx Cx d f0 af ops (vA sk o.dst) l V kk
     |none=>E_ P cfg self kx Cx d f0 af o V1 λpv V=>gY P cfg self kx Cx d f0 af ops (vA sk o.dst) l (V.cy d o.dst pv) kk).sat P C Q K G->∃b,∀N,b<=N->eU P N rd ops (o::l) (E d) df Y (CX N):=by
    intro V1 bR eC GC hw fq;obtain⟨fX,lR⟩:=lS GC;split at fq
    .rename_i g c8 hj;obtain⟨c,f,bs,ho,hc,hf,rfl⟩:=acr hj;have sq:=bF bR d 0 f;rw[hf]at sq;have bE:=jm bR d c.args.toList c.argTypes.toList
     have cL:∃fn,P.funcs[g]?=aa fn/\fn.body.isSome=ab/\(fn.name != "runtime.NumGoroutine")=ab:=by
      by_cases hh:∃fn,P.funcs[g]?=aa fn/\fn.body.isSome=ab/\(fn.name != "runtime.NumGoroutine")=ab
      .exact hh
      .exfalso;unfold IH at fq;simp only at fq;split at fq
       .exact fq
       .rename_i hfb
        obtain⟨n,hn⟩:=ae6 (P:=P) (cfg:=cfg) (self:=self) (kx:=λ_ _ _=>.fail 0) (d:=d) (f0:=f0) (dst:=o.dst) (V:={V1 with lv:=V1.lv+1}) (k:=λpv W=>.bad 999999 (W.cy d o.dst pv).n (W.cy d o.dst pv).lv 0 0 (W.cy d o.dst pv).g (W.cy d o.dst pv).l (W.cy d o.dst pv).g (W.cy d o.dst pv).l) (g:=g)
         (c8:=kF P d V1 c.args.toList c.argTypes.toList++bs.map λ(p:Nat×Nat)=>.one (.pt p.1 0 p.2)) (λfn h1 h2 h3=>hh ⟨fn,h1,h2,h3⟩)
        rw[hn]at hfb;cases hfb
     obtain⟨fn,cL,hb,oD⟩:=cL;obtain⟨ys,kO,uS⟩:=nw (args:=c.args.toList.map (aC (E d))) sq cL hb oD
     have fD:aA P 0 (aC (E d)) o Y=aa (.enter g (c.args.toList.map (aC (E d))++ys)):=by
      simp only[aA,ho,hc];exact kO
     obtain⟨_,_,_,_,b,TQ⟩:=ae8 (RW:=λN v au=>au.n<=N/\eU P N rd ops l ((E d).put o.dst v) df au (CX N)) (PW:=λN v au=>CX N (.cw v) (E d) au) hC bG bR (by rw[eC];exact hn) (by rw[fX];exact hK) (by rw[lR];exact cD) (bE.app uS) hd fq (by
      intro H vs R' aN E' al v JJ oO auB afi hE' vM br
      obtain⟨b,hb⟩:=ih (vA sk o.dst) H (G++vs) K R' aN E' al (by rw[vM];exact HR.put o.dst _) br JJ oO (by rw[auB,fX];exact hK) (by rw[vM,fc,afi,lR];exact cD) (by
       rw[afi,lR];exact eh.fwd (azH K) hE' (by rw[vM,fc])) (by
       rw[afi,lR];exact kT.fwd (azH K) hE' (by rw[vM,fc]))
      refine⟨max b al.n,λN hN=>⟨by omega,by omega,?_⟩⟩;have:=hb N ai;rw[vM]at this;exact this) (by
      intro t pv V' I K' R' aN E' al v hF mB hv br;obtain⟨b,hb⟩:=kT t pv V' I K' R' aN E' al v (lR▸hF) hv br;exact⟨b,λN hN=>⟨(hb N hN).1,by rw[<-mB];exact(hb N hN).2⟩⟩)
     exact⟨b,λN hN=>.ZH hw fD (TQ N hN) (λv au hv=>hv) λv au hv=>hv⟩
    .exact aff hC bG (ih (vA sk o.dst)) bR (by rw[eC];exact hn) (by rw[fX];exact hK) (by rw[lR];exact cD) hd (λx=>HR.put o.dst x) (by rw[lR];exact eh) (by rw[lR];exact kT) hw fq
   have Fx:∀(V1:SS),J Cx (ay P G) R X V1.g V1.l E Y->V1.n=V.n->V1.ln=V.ln->aT o ops (E d)=af->
    (gY P cfg self kx Cx d f0 af ops (IL sk o.dst) l (V1.lj d o.dst) kk).sat P C Q K G->∃b,∀N,b<=N->eU P N rd ops (o::l) (E d) df Y (CX N):=by
    intro V1 bR eC GC hw fq;have Ng:(V1.lj d o.dst).ln=V.ln:=by rw[Ft,GC]
    obtain⟨fX,lR⟩:=lS Ng
    obtain⟨b,hb⟩:=ih (IL sk o.dst) (V1.lj d o.dst) G K R X _ Y (by rw[bO];exact HR.add hd) fq (Fs (x:=.undef) bR) (by rw[HM,eC];exact hn) (by rw[fX];exact hK) (by rw[bO,fc,lR];exact cD) (by
     rw[lR];have:=eh.fwd (BJ:=[]) (E1:=ly E d ((E d).put o.dst .undef)) (azH K) (λj hj=>fi _ _ _ ai) (by rw[bO,fc]);rw[ayO]at this;exact this) (by
     rw[lR];have:=kT.fwd (BJ:=[]) (E1:=ly E d ((E d).put o.dst .undef)) (azH K) (λj hj=>fi _ _ _ ai) (by rw[bO,fc]);rw[ayO]at this;exact this)
    refine⟨b,λN hN=>.skip hw ?_⟩;have:=hb N hN;rw[bO]at this;exact this
   obtain⟨w1,w2,w3⟩:=TG (o:=o) hJ cD (ops:=ops)
   have w2':(if oU sk ops o=ab then Want.skip else vz ops d V o)=.skip->aT o ops (E d)=af:=λh=>by
    by_cases hq:oU sk ops o=ab
    .exact HR.agD hq
    .rw[if_neg hq]at h;exact w2 h
   have w0:∀w,w≠.skip->(if oU sk ops o=ab then Want.skip else vz ops d V o)=w->vz ops d V o=w:=λw hw h=>by
    by_cases hq:oU sk ops o=ab
    .rw[if_pos hq]at h;exact absurd h.symm hw
    .rw[if_neg hq]at h;exact h
   split at hs
   .rename_i hh;exact kb V hJ rfl rfl (w1 (w0 _ ax hh)) hs
   .rename_i hh;exact Fx V hJ rfl rfl (w2' hh) hs
   .rename_i t e want hh;replace hh:=w0 _ ax hh;obtain⟨hg,hb⟩:=w3 _ _ _ hh;rcases hs with⟨h1,hs⟩|⟨h1,hs⟩
    .obtain⟨aK,bR⟩:=J.refine hJ hg h1;have hw:=hb _ aK;cases want
     .exact Fx _ bR rfl rfl (by rw[hw];rfl) hs
     .exact kb _ bR rfl rfl (by rw[hw];rfl) hs
    .obtain⟨aK,bR⟩:=J.refine hJ hg h1;have hw:=hb _ aK;cases want
     .exact kb _ bR rfl rfl (by rw[hw];rfl) hs
     .exact Fx _ bR rfl rfl (by rw[hw];rfl) hs
   .exact hs.elim
end
end Go.Ev
