/- Lemmas over the model, without conditions of their own: operations on expressions (2). -/
import Derived.Test.YtggffkaadeagbaaGreatEvK
open List renaming eq_nil_of_length_eq_zero->atr,all_append->awt,getElem?_take->atp,all_eq_true->as6,getElem?_append_left->asY,getElem?_append_right->atm,getElem?_eq_some_iff->asM,length_append->atc,getElem?_of_mem->auD,mem_of_getElem?->asZ,mem_flatMap->auX,getElem?_map->as4,replicate->ate,eq_of_mem_replicate->at0,map_cons->atJ,replicate_succ->au0,flatten_cons->avh,mem_cons->aty,map_nil->aun,getElem?_eq_getElem->asL,map_map->avw
open Nat renaming add_mul->atq,le_refl->asR,zero_le->atE,mul_le_mul_right->atk,sub_zero->awd,zero_mul->avO,beq_eq->atv,eq_of_beq_eq_true->asV,ble_eq->auw
open Option renaming bind_eq_some_iff->as_,bind_some->asU,map_eq_some_iff->asS
open Bool renaming and_eq_true->asN,not_eq_true'->atD,or_eq_true->atw,not_eq_true->awk,not_eq_false->avz
open Option.some renaming injEq->asP
open Prod.mk renaming injEq->ati
open Go.Builtin renaming len->axL,append->axh
open Go.Instr renaming findNow->atZ,sameNow->avV,findAsking->atM,findKey->auj,sameBits->avq,checkKey->awy
open Go renaming undef->atC
open List.cons renaming injEq->atK
open Option renaming some->aa,none->ah
open Bool renaming true->ab,false->af
set_option linter.all false
namespace Go.Ev
variable{P:Program}{N:Nat}{σ ao:St}{R R':Rs}{φ aL:Ph}{E:Nat->Env}{ν:List IV}
variable{C:Cr}{Q:IV->Prop}{K:List (List IV->Prop)}{V:SS}{d:Nat}{o:Oper}{k:PV SE->SS->ak}{L:List (LO SE)}{Γ:Gm SE}
theorem J.reZ(h:J (au P ν) R φ Γ L E σ){k s:Nat}{st cut fr dg:Bool}{z z':SE}{es:List IV}(hk:L[k]?=aa (.row s st cut fr z))(hz:z.den P ν=aa (.tree s es))(p5:z'.den P ν=aa (.tree s es))(hf:fr=ab->dg=ab):
 kO (au P ν) (au P ν) R φ L σ R φ (L.set k (.row s st cut dg z')) σ (λ_=>False)/\J (au P ν) R φ Γ (L.set k (.row s st cut dg z')) E σ:=by
 have py:=dj hk;have aW:∀j,j≠k->(L.set k (.row s st cut dg z'))[j]?=L[j]? :=λj hj=>List.getElem?_set_ne (λhc=>hj hc.symm);have bj:(L.set k (.row s st cut dg z'))[k]?=aa (.row s st cut dg z'):=by simp[py]
 have hs:kO (au P ν) (au P ν) R φ L σ R φ (L.set k (.row s st cut dg z')) σ (λ_=>False):=by
  refine⟨λ_ _ h=>h,ja.refl h.fits,λj oI hj=>?_,λj kt fe hj=>?_,λj s1 sX sB sY z1 hj _=>?_⟩
  ·by_cases bI:j=k
   ·subst bI;rw[hk]at hj;cases hj
   ·exact⟨⟨oI,by rw[aW j bI];exact hj⟩,rfl⟩
  ·by_cases bI:j=k
   ·subst bI;rw[hk]at hj;cases hj
   ·exact⟨⟨fe,by rw[aW j bI];exact hj⟩,rfl⟩
  ·by_cases bI:j=k
   ·subst bI;rw[hk]at hj;cases hj;refine⟨⟨st,dg,z',bj,λfe mP=>⟨es,p5,?_⟩⟩,rfl,λ_ oI _ Bb _ rf=>⟨oI,Bb,rf,rfl,λh=>h⟩⟩;have PU:z.den P ν=aa (.tree s fe):=mP;rw[hz]at PU;cases PU;rfl
   ·exact⟨⟨sX,sY,z1,by rw[aW j bI];exact hj,λfe mP=>⟨fe,mP,rfl⟩⟩,rfl,λ_ oI _ Bb _ rf=>⟨oI,Bb,rf,rfl,λh=>h⟩⟩
 refine⟨hs,{h with slot:=λd t pv hg=>(h.slot d t pv hg).step hs pv.aZ,obj:=λj o hj=>?_,lt:=λj id hj=>by simpa using h.lt j id hj}⟩;by_cases bI:j=k
 ·subst bI;rw[bj]at hj;cases hj;obtain⟨bE,gZ,g1,g2,g3⟩:=h.obj j _ hk;have nM:z.den P ν=aa (.tree s gZ):=g1;rw[hz]at nM;cases nM;refine⟨bE,es,p5,g2,?_⟩;rcases g3 with g3|⟨bB,cz,iW,pX,g3,g4,g5,g6,g7,g8,g9⟩
  ·exact .inl g3
  ·exact .inr ⟨bB,cz,iW,pX,g3,g4,g5,g6,g7,g8,λj x d hx hd=>(g9 j x d hx hd).wide hf⟩
 ·rw[aW j bI]at hj;exact(h.obj j o hj).step hs rfl (λ_ _=>⟨rfl,rfl⟩) o.aZ
theorem TJ{σ:St}(hw:σ.t.WF)(id:Nat)(a b:Ob):(σ.put id a).put id b=σ.put id b:=by
 unfold St.put
 congr 1
 refine T.WF.ext ((hw.set _ _).set _ _) (hw.set _ _) λi=>?_;simp only[T.gj];split<;>rfl
theorem yF{s len n:Nat}{new cL:List IV}{x:IV}(h:eU s len σ x=aa cL)(hl:cL.length=len*s):fF s len n new x σ=ret (.sl σ.n 0 (len+n) ah 0 s) (σ.add (.cells (cL++new) 0 0)):=by
 simp[fF,h,hl]
theorem Jm(h:J (au P ν) R φ Γ L E σ){k s:Nat}{st cut fr dg:Bool}{z z':SE}{es fs new:List IV}{x:IV}(hk:L[k]?=aa (.row s st cut fr z))(hz:z.den P ν=aa (.tree s es))(p5:z'.den P ν=aa (.tree s (es++fs)))
 (hx:cI (au P ν) R φ L σ x (.sr k))(IH:new.length=fs.length*s)(Eb:p7 dg R σ new (flat fs))(hnc:new.all Ev.aj=ab)(yG:∀e∈fs,(cellsOf e).length=s)(qX:(st&&cut)=af)
 (Mv:∀d t pv,cA d t Γ=aa pv->pv.ok (·=k))(hL:∀j o,L[j]?=aa o->j≠k->o.ok (·=k)):
 ∃x' ao R' aL,eO 0 s es.length fs.length new x σ=aa (.val x' ao)/\J (au P ν) R' aL Γ (L.set k (.row s st cut (dg||fr) z')) E ao/\cI (au P ν) R' aL (L.set k (.row s st cut (dg||fr) z')) ao x' (.sr k):=by
 obtain⟨bE,gZ,g1,g2,g3⟩:=h.obj k _ hk;have nM:z.den P ν=aa (.tree s gZ):=g1;rw[hz]at nM;cases nM;have py:=dj hk;have bj:(L.set k (.row s st cut (dg||fr) z'))[k]?=aa (.row s st cut (dg||fr) z'):=by simp[py]
 have ag2:∀e∈es++fs,(cellsOf e).length=s:=λe he=>(List.mem_append.1 he).elim (g2 e) (yG e);have iP:=hx;obtain⟨s2,YQ,abZ,YR,z2,MJ,a1,a2,a3⟩:=hx;rw[hk]at a1;cases a1;have s5:z.den P ν=aa (.tree s MJ):=a2;rw[hz]at s5;cases s5;by_cases lg:fs.length=0
 ·have aoK:fs=[]:=atr lg;subst aoK;rw[List.append_nil]at p5;obtain⟨hs,hJ⟩:=h.reZ (dg:=dg||fr) hk hz p5 (λh=>by simp[h]);refine⟨x,σ,R,φ,?_,hJ,iP.step hs (Cl.aZ _)⟩;rcases a3 with⟨_,_,rfl|rfl⟩|⟨id,cs,ay,mn,cap,_,_,rfl,_⟩<;>simp[eO,ret]
 have fresh:∀cL:List IV,cL.length=es.length*s->(∀(j:Nat) x d,cL[j]?=aa x->(flat es)[j]?=aa d->bn fr R σ x d)->cL.all Ev.aj=ab->
  ∃R' aL,J (au P ν) R' aL Γ (L.set k (.row s st cut (dg||fr) z')) E (σ.add (.cells (cL++new) 0 0))/\cI (au P ν) R' aL (L.set k (.row s st cut (dg||fr) z')) (σ.add (.cells (cL++new) 0 0)) (.sl σ.n 0 (es.length+fs.length) ah 0 s) (.sr k):=by
  intro cL MK ho2 ho3
  let R':Rs:=λi=>if i=σ.n then(if st then aa ((es++fs).length*s)else ah)else R i
  have hlen:(cL++new).length=(es++fs).length*s:=by simp[MK,IH,atq]
  obtain⟨hs,hJ⟩:=h.agD (R':=R') (bad:=(·=k)) (kj:=.row s st cut (dg||fr) z') (eT:=.cells (cL++new) 0 0) hk (λj hj=>by simp[R',hj])
   (λm cs ay mn hm ho=>by
    injection ho with MK ho2 ho3
    subst MK;simp only[R',if_true]at hm;split at hm
    ·cases hm;rw[hlen];exact asR _
    ·cases hm)
   ⟨_,_,_,_,_,rfl⟩ rfl Mv hL
   (λhs=>⟨bE,es++fs,p5,ag2,.inr ⟨σ.n,cL++new,0,0,by simp[bX],by simp,asR _,by rw[hlen];exact asR _,by simp[R'],by rw[awt,ho3,hnc];rfl,λj x d hx hd=>by
    rw[CE]at hd;have hc:=WT ho2 (by rw[MK,nZ g2]) Eb j x d hx hd;rw[Bool.or_comm]at hc;exact hc.mono hs.grow⟩⟩)
  refine⟨R',bX φ k σ.n,hJ,s,st,cut,dg||fr,z',es++fs,bj,p5,.inr ⟨σ.n,cL++new,0,0,ah,by simp[bX],by simp,by simp,atE _,λ_ _=>hlen.symm,λc hc=>by cases hc⟩⟩
 rcases a3 with⟨b1,b2,b3⟩|⟨id,cs,ay,mn,cap,b1,b2,rfl,b4,b5,b6⟩
 ·have he0:es=[]:=atr b2;subst he0;obtain⟨R',aL,hJ,hV⟩:=fresh [] (by simp) (λj x d h=>by simp at h) rfl;refine⟨_,_,R',aL,?_,hJ,hV⟩;rcases b3 with rfl|rfl
  ·simp only[eO];rw[if_pos ⟨trivial,trivial⟩,if_neg lg,yF (cL:=[]) (by simp[eU]) (by simp)];rfl
  ·simp only[eO];rw[if_neg lg,yF (cL:=[]) (by simp[eU]) (by simp)];rfl
 ·rcases g3 with⟨g3,_⟩|⟨bB,cz,iW,pX,g3,g4,g5,g6,g7,g8,g9⟩
  ·rw[b1]at g3;cases g3
  rw[b1]at g3;cases g3;rw[b2]at g4;cases g4
  have hold:eU s es.length σ (.sl id (0*s) (es.length- 0) cap ay s)=aa (cs.take (es.length*s)):=by
   simp only[eU];rw[if_pos ⟨trivial,by simp⟩,b2];simp only;rw[if_pos ⟨g5,asR _,by omega⟩];simp
  have Oo:(cs.take (es.length*s)).length=es.length*s:=by simp;omega
  have akE:∀(j:Nat) x d,(cs.take (es.length*s))[j]?=aa x->(flat es)[j]?=aa d->bn fr R σ x d:=λj x d hx hd=>by
   rw[atp]at hx;split at hx
   ·exact g9 j x d hx hd
   ·cases hx
  have adF:(cs.take (es.length*s)).all Ev.aj=ab:=by
   rw[as6]at g8⊢;exactλc hc=>g8 c (List.mem_of_mem_take hc)
  have Lf:∀(ob:List IV) (tY DE:Nat),(R id=ah\/(DE=mn/\ay<=tY))->DE<=tY->(∀j,j<es.length*s->ob[j]?=cs[j]?)->(∀j,j<new.length->ob[es.length*s+j]?=new[j]?)->(es++fs).length*s<=ob.length->ob.all Ev.aj=ab->
   ∀P5,(P5=ah->cut=af->(es++fs).length*s=ob.length)->(∀c,P5=aa c->DE=tY/\c*s<=ob.length/\(es++fs).length<=c)->
   ∃R',J (au P ν) R' φ Γ (L.set k (.row s st cut (dg||fr) z')) E (σ.put id (.cells ob tY DE))/\cI (au P ν) R' φ (L.set k (.row s st cut (dg||fr) z')) (σ.put id (.cells ob tY DE)) (.sl id 0 (es.length+fs.length) P5 tY s) (.sr k):=by
   intro ob tY DE hRm Tp ag3 aoL ag4 aoM P5 akF WU
   let R':Rs:=λi=>if i=id then(if st then aa ((es++fs).length*s)else ah)else R i
   have BZ:R id=if st then aa (es.length*s)else ah:=g7
   obtain⟨hs,hJ⟩:=h.tQ (R':=R') (bad:=(·=k)) (kj:=.row s st cut (dg||fr) z') (eT:=.cells ob tY DE) b1 hk (λj hj=>by simp[R',hj])
    (λm hm=>by
     rw[BZ]at hm;split at hm
     ·rename_i cw;cases hm;exact⟨(es++fs).length*s,by simp[R',cw],atk s (by simp)⟩
     ·cases hm)
    (λm oI B8 Bb hm aE=>by
     rw[b2]at aE;cases aE;rcases hRm with hRm|⟨rfl,hle⟩
     ·rw[hRm]at hm;cases hm
     ·rw[BZ]at hm;split at hm
      ·cases hm;exact⟨ob,tY,rfl,hle,ag3⟩
      ·cases hm)
    (λm oI B8 Bb hm ho=>by
     injection ho with MK _ _
     subst MK;simp only[R',if_true]at hm;split at hm
     ·cases hm;exact ag4
     ·cases hm)
    (λcs h=>by cases h) (λkt es h=>by cases h) (λ_ _ _ _ _ _=>rfl) Mv hL
    (λhs=>⟨bE,es++fs,p5,ag2,.inr ⟨id,ob,tY,DE,b1,by rw[St.c_,if_pos rfl],Tp,ag4,by simp[R'],aoM,λj x d hx hd=>by
     rw[CE]at hd;have s6:=nZ g2;by_cases hj:j<es.length*s
     ·rw[asY (by omega)]at hd;rw[ag3 j hj]at hx;exact((g9 j x d hx hd).wide (λh=>by simp[h])).mono hs.grow
     ·rw[atm (by omega),s6]at hd
      have zm:j- es.length*s<new.length:=by
       have:=(asM.1 hd).1;rw[nZ yG]at this;omega
      rw[show j=es.length*s+(j- es.length*s) by omega,aoL _ zm]at hx;exact((Eb _ x d hx hd).wide (λh=>by simp[h])).mono hs.grow⟩⟩)
   exact⟨R',hJ,s,st,cut,dg||fr,z',es++fs,bj,p5,.inr ⟨id,ob,tY,DE,P5,b1,by rw[St.c_,if_pos rfl],by simp,atE _,akF,λc hc=>⟨(WU c hc).1,by simpa using(WU c hc).2.1,by simpa using(WU c hc).2.2⟩⟩⟩
  have WV:(es++fs).length*s=es.length*s+fs.length*s:=by simp[atq]
  cases cap with
  |some c=>
   obtain⟨e1,e2,e3⟩:=b6 c rfl;by_cases tz:es.length+fs.length<=c
   ·have asA:es.length*s+fs.length*s<=cs.length:=by
     have:(es.length+fs.length)*s<=c*s:=atk s tz;rw[atq]at this;omega
    obtain⟨R',hJ,hV⟩:=Lf (dF cs (es.length*s) new) ay ay (.inr ⟨e1.symm,asR _⟩) (asR _)
     (λj hj=>by rw[nq (α:=IV) (by omega),if_neg (by omega)])
     (λj hj=>by rw[nq (α:=IV) (by omega),if_pos (by omega)];congr 1;omega)
     (by rw[uF (by omega)];omega) (xy g8 hnc) (aa c) (λh=>by cases h) (λc' yd=>by cases yd;exact⟨rfl,by rw[uF (by omega)];omega,by simpa using tz⟩)
    refine⟨_,_,R',φ,?_,hJ,hV⟩;simp only[eO];rw[if_neg (by simp),if_neg lg];simp only[b2,awd,avO,Nat.zero_add];rw[if_pos tz,if_pos ⟨atE _,trivial,by rw[atq];omega⟩];rfl
   ·obtain⟨R',aL,hJ,hV⟩:=fresh _ Oo akE adF;refine⟨_,_,R',aL,?_,hJ,hV⟩;simp only[eO];rw[if_neg (by simp),if_neg lg];simp only[awd];rw[if_neg tz,yF (by simpa using hold) Oo];rfl
  |none=>
   by_cases P6:es.length*s=cs.length
   ·obtain⟨R',hJ,hV⟩:=Lf (cs++new) (ay+1) mn (.inr ⟨rfl,by omega⟩) (by omega)
     (λj hj=>by rw[asY (by omega)])
     (λj hj=>by rw[atm (by omega)];congr 1;omega)
     (by rw[WV,atc];omega) (by rw[awt,g8,hnc];rfl) ah (λ_ _=>by rw[WV,atc];omega) (λc h=>by cases h)
    refine⟨_,_,R',φ,?_,hJ,hV⟩;simp only[eO];rw[if_neg (by simp),if_neg lg];simp only[b2,awd,avO];rw[if_pos ⟨atE _,trivial,trivial,P6⟩];rfl
   ·have P7:cut=ab:=by
     cases hc:cut with
     |true=>rfl
     |false=>exact absurd (b5 rfl hc) P6
    have cw:st=af:=by rw[P7]at qX;simpa using qX
    obtain⟨R',hJ,hV⟩:=Lf (cs.take (es.length*s)++new) (ay+1+1) (ay+1) (.inl (by rw[g7,cw];rfl)) (by omega)
     (λj hj=>by rw[asY (by omega),atp,if_pos hj])
     (λj hj=>by rw[atm (by omega),Oo];congr 1;omega)
     (by rw[WV,atc,Oo];omega) (by rw[awt,adF,hnc];rfl) ah (λ_ h=>by rw[P7]at h;cases h) (λc h=>by cases h)
    refine⟨.sl id 0 (es.length+fs.length) ah (ay+1+1) s,(σ.put id (.cells (cs.take (es.length*s)) (ay+1) (ay+1))).put id (.cells (cs.take (es.length*s)++new) (ay+1+1) (ay+1)),R',φ,?_,?_,?_⟩
    ·simp only[eO];rw[if_neg (by simp),if_neg lg];simp only[b2,awd,avO];rw[if_neg (λhc=>P6 hc.2.2.2),if_pos ⟨atE _,trivial,trivial,g6⟩];rfl
    ·rw[TJ h.wf];exact hJ
    ·rw[TJ h.wf];exact hV
end Go.Ev
namespace Go.Ev
variable{P:Program}{N:Nat}{σ ao:St}{R R':Rs}{φ aL:Ph}{E:Nat->Env}{ν:List IV}
variable{C:Cr}{Q:IV->Prop}{K:List (List IV->Prop)}{V:SS}{d:Nat}{o:Oper}{k:PV SE->SS->ak}{L:List (LO SE)}{Γ:Gm SE}
theorem fV(h:J (au P ν) R φ V.g V.l E σ)(d:Nat):∀(ops:List Operand) (ts:List TypeId),All2 (VR (au P ν) R φ V.l σ) (ops.map (ax (E d))) (iz P d V ops ts)
 |[],_=>trivial
 |x::xs,t::ts=>⟨bo h d t x,fV h d xs ts⟩
 |x::xs,[]=>⟨bo h d 0 x,fV h d xs []⟩
theorem lr{α β:Type}{r:α->β->Prop}{as:List α}{b:β}(h:All2 r as [b]):∃a,as=[a]/\r a b:=by
 cases as with
 |nil=>exact h.elim
 |cons a as=>
  cases as with
  |nil=>exact⟨a,rfl,h.1⟩
  |cons a' as=>exact h.2.elim
theorem HY{α β:Type}{r:α->β->Prop}{as:List α}{b c:β}(h:All2 r as [b,c]):∃a a',as=[a,a']/\r a b/\r a' c:=by
 cases as with
 |nil=>exact h.elim
 |cons a as=>
  obtain⟨a',rfl,h'⟩:=lr h.2;exact⟨a,a',rfl,h.1,h'⟩
theorem Cl.yH{x:IV}{c:Cl SE}(h:cI (au P ν) R φ L σ x c):c.ok (·=L.length):=by
 cases c with
 |sr k=>obtain⟨_,_,_,_,_,_,h1,_⟩:=h;exactλhc=>by have:=dj h1;omega
 |sv k lo=>obtain⟨_,_,_,_,_,_,_,_,h1,_⟩:=h;exactλhc=>by have:=dj h1;omega
 |pr k i off ext=>obtain⟨_,_,_,_,_,_,_,_,_,_,_,_,h1,_⟩:=h;exactλhc=>by have:=dj h1;omega
 |_=>trivial
theorem CF{xs:List IV}{cs:List (Cl SE)}(h:All2 (cI (au P ν) R φ L σ) xs cs):∀c∈cs,c.ok (·=L.length):=by
 intro c hc;obtain⟨i,hi⟩:=auD hc;obtain⟨a,_,ha⟩:=h.As hi;exact Cl.yH ha
theorem PV.yH{x:IV}{pv:PV SE}(h:VR (au P ν) R φ L σ x pv):pv.ok (·=L.length):=by
 cases pv with
 |one c=>exact Cl.yH (c:=c) h
 |ag cs=>obtain⟨xs,_,h2⟩:=h;exact CF h2
 |tu vs=>
  obtain⟨xs,_,h2⟩:=h;intro p hp c hc;obtain⟨i,hi⟩:=auD hp;obtain⟨a,_,ha⟩:=h2.As hi;unfold tP at ha;split at ha
  ·obtain⟨ys,_,h3⟩:=ha;exact CF h3 c hc
  ·obtain⟨c',h3,h4⟩:=ha;rw[h3]at hc;simp at hc;subst hc;exact Cl.yH h4
theorem OR.yH{j:Nat}{ob:LO SE}(h:OR (au P ν) R φ L σ j ob):ob.ok (·=L.length):=by
 cases ob with
 |var cs=>obtain⟨_,_,_,_,_,h4⟩:=h;exact CF h4
 |_=>trivial
theorem xQ(h:J (au P ν) R φ Γ L E σ){j:Nat}(hj:L.length<=j):φ j=ah:=by
 cases hf:φ j with
 |none=>rfl
 |some id=>have:=(h.lt _ _ hf).1;omega
theorem J.Bf(h:J (au P ν) R φ Γ L E σ){s:Nat}{fr:Bool}{z:SE}(hs:0<s)(hz:z.den P ν=aa (.tree s [])):kO (au P ν) (au P ν) R φ L σ R φ (L++[.row s af af fr z]) σ (λ_=>False)/\J (au P ν) R φ Γ (L++[.row s af af fr z]) E σ:=by
 have hL:∀j o,L[j]?=aa o->(L++[.row s af af fr z])[j]?=aa o:=λj o hj=>by rw[asY (dj hj)];exact hj
 have hc:kO (au P ν) (au P ν) R φ L σ R φ (L++[.row s af af fr z]) σ (λ_=>False):=
  .mk' (λ_ _ h=>h) (ja.refl h.fits) (λj cs hj=>⟨⟨cs,hL j _ hj⟩,rfl⟩) (λj kt es hj=>⟨⟨es,hL j _ hj⟩,rfl⟩) (λj s st cut fr z hj _=>⟨⟨st,hL j _ hj⟩,rfl,λ_ _=>rfl⟩)
 refine⟨hc,{h with slot:=λd t pv hg=>(h.slot d t pv hg).step hc pv.aZ,obj:=λj o hj=>?_,lt:=λj id hj=>by have:=h.lt j id hj;simp;omega}⟩;by_cases Ds:j<L.length
 ·rw[asY Ds]at hj;exact(h.obj j o hj).step hc rfl (λ_ _=>⟨rfl,rfl⟩) o.aZ
 ·have:j=L.length:=by have:=dj hj;simp at this;omega
  subst this;simp at hj;subst hj;exact⟨hs,[],hz,λe he=>(by cases he),.inl ⟨xQ h (asR _),rfl⟩⟩
theorem TK{s bytes:Nat}{e f:SE}{z:IV}(h:(SE.cat s bytes e f).den P ν=aa z):∃es fs,e.den P ν=aa (.tree s es)/\f.den P ν=aa (.tree s fs)/\0<s/\jm s fs=ab/\(4*(es.length+fs.length)+4096)*bytes<=2 ^47/\es.length+fs.length<=2 ^40/\z=.tree s (es++fs):=by
 simp only[SE.den,as_]at h;obtain⟨a,h1,b,h2,h3⟩:=h;unfold kq at h3;split at h3
 ·split at h3
  ·rename_i hc;obtain⟨rfl,rfl,c1,c2,c3,c4⟩:=hc;cases h3;exact⟨_,_,h1,h2,c1,c2,c3,c4,rfl⟩
  ·cases h3
 ·cases h3
theorem WW{fr:Bool}{new ds:List IV}(h:p7 ab R σ new ds)(hd:∀d∈ds,aA d=ab):p7 af R σ new ds:=by
 intro j x e hx he;have hr:=hd e (asZ he);have:=h j x e hx he;unfold aA at hr;split at hr
 ·rw[cb this];exact .raw _
 ·cases hr
theorem ER(hJ:J (au P ν) R φ V.g V.l E σ){et:TypeId}{s:Nat}{base c:Cl SE}{fr raw:Bool}{es:SE}{x:IV}{fs:List IV}(ha:qx P V et s base c=aa (fr,es,raw))(hx:cI (au P ν) R φ V.l σ x c)(gF:es.den P ν=aa (.tree s fs))(bE:0<s)(bz:jm s fs=ab)
 (dV:raw=ab->(∃z,(SE.rws es).den P ν=aa z)):
 kY x=aa fs.length/\∃new,eU s fs.length σ x=aa new/\new.length=fs.length*s/\p7 fr R σ new (flat fs)/\new.all Ev.aj=ab:=by
 cases c with
 |sr j=>
  simp only[qx]at ha;split at ha
  ·rename_i s' st cut dg aF hj;split at ha
   ·rename_i hc;simp only[asN,atv]at hc;simp only[asP,ati]at ha;obtain⟨rfl,rfl,rfl⟩:=ha;obtain⟨rfl,_⟩:=hc;exact P4 hJ hj gF hx
   ·cases ha
  ·cases ha
 |nl b s'=>
  simp only[qx,asP,ati]at ha;obtain⟨rfl,rfl,rfl⟩:=ha
  have:fs=[]:=by
   simp only[SE.den,asU]at gF;split at gF<;>cases gF;rfl
  subst this;obtain⟨_,rfl⟩:=hx;refine⟨by cases b<;>rfl,[],?_,by simp,λj x d h=>by simp at h,rfl⟩;cases b<;>simp[eU]
 |w f z=>
  simp only[qx,asP,ati]at ha;obtain⟨rfl,rfl,rfl⟩:=ha;obtain⟨y,h1,h2,_⟩:=hx;have c8:z.den P ν=aa y:=h1;rw[gF]at c8;cases c8;exact Ld bE h2 bz
 |v z=>
  obtain⟨y,h1,h2,_⟩:=hx;have c8:z.den P ν=aa y:=h1;simp only[qx]at ha;split at ha
  ·simp only[asP,ati]at ha;obtain⟨rfl,rfl,rfl⟩:=ha;rw[gF]at c8;cases c8;obtain⟨a1,new,a2,a3,a4,a5⟩:=Ld bE (h2.mono hJ.Bc) bz;refine⟨a1,new,a2,a3,WW (fr:=ab) a4 λe he=>?_,a5⟩;obtain⟨q,hq⟩:=dV rfl;simp only[SE.den,gF,asU]at hq;split at hq
   ·rename_i bg;rw[as6]at bg;obtain⟨el,oJ,aoN⟩:=auX.1 he;exact as6.1 (bg el oJ) e aoN
   ·cases hq
  ·simp only[asP,ati]at ha;obtain⟨rfl,rfl,rfl⟩:=ha;rw[gF]at c8;cases c8;exact Ld bE (h2.mono hJ.Bc) bz
 |un|pt|tp|tw|sv|pr|mp|fn=>simp[qx]at ha
theorem Jn{d t k:Nat}{pv:PV SE}{g:Gm SE}(h:cA d t (IZ k g)=aa pv):pv.ok (·=k):=by
 obtain⟨q,_,rfl⟩:=Er g h;exact q.nc k
variable(hJ:J (au P ν) R φ V.g V.l E σ)(hn:ν.length=V.n)
include hJ hn
theorem WX{et:TypeId}{bytes s:Nat}{base c:Cl SE}{fr raw:Bool}{es:SE}{x0 x1:IV}(hb:cI (au P ν) R φ V.l σ x0 base)(hc:cI (au P ν) R φ V.l σ x1 c)(ha:qx P V et s base c=aa (fr,es,raw))(dV:raw=ab->(∃z,(SE.rws es).den P ν=aa z))
 (hs:(A5 bytes s base fr es V k).sat P C Q K ν):
 dh P C Q K ν E V.ln k (λv aq=>∃m n new,kY x0=aa m/\kY x1=aa n/\eU s n σ x1=aa new/\new.length=n*s/\new.all Ev.aj=ab/\(4*(m+n)+4096)*bytes<=2 ^47/\m+n<=2 ^40/\eO 0 s m n new x0 σ=aa (.val v aq)):=by
 unfold A5 at hs;split at hs
 ·rename_i b s';split at hs
  ·rename_i iO;have vg:=asV iO;subst vg;obtain⟨z,h1,h2,hv,bD,dO⟩:=qK hJ hn hs;obtain⟨e0,fs,c1,c2,c3,c4,c5,c6,rfl⟩:=TK h1
   have he0:e0=[]:=by
    simp only[SE.den,asU]at c1;split at c1<;>cases c1;rfl
   subst he0;obtain⟨a1,new,a2,a3,a4,a5⟩:=ER hJ ha hc c2 c3 c4 dV;obtain⟨_,iP⟩:=hb;have nE:(SE.tr s SE.an).den P (ν++[IV.tree s ([]++fs)])=aa (.tree s []):=by simp[SE.den,c3]
   obtain⟨pR,ff⟩:=bD.Bf (fr:=af) c3 nE;have jQ:(V.l++[LO.row s af af af (SE.tr s SE.an)])[V.l.length]?=aa (.row s af af af (SE.tr s SE.an)):=by simp
   obtain⟨x',ao,R',aL,b1,b2,b3⟩:=Jm ff (dg:=fr) (z':=.var V.n) (x:=x0) jQ nE hv ⟨s,af,af,af,_,[],jQ,nE,.inl ⟨xQ hJ (asR _),rfl,by subst iP;cases b<;>simp⟩⟩
    a3 a4 a5 (Ay c4).1 rfl (λd t pv hg=>PV.yH (bD.slot d t pv hg)) (λj o hj aW=>by
     have Ds:j<V.l.length:=by have:=dj hj;simp at this;omega
     rw[asY Ds]at hj;exact OR.yH (bD.obj j o hj))
   have sC:(V.l++[LO.row s af af af (SE.tr s SE.an)]).set V.l.length (.row s af af (fr||af) (.var V.n))=V.l++[LO.row s af af fr (.var V.n)]:=by simp
   rw[sC]at b2 b3;refine⟨x',ao,R',aL,.one (.sr V.l.length),{V with n:=V.n+1,l:=V.l++[.row s af af fr (.var V.n)]},[.tree s ([]++fs)],⟨0,fs.length,new,by subst iP;cases b<;>rfl,a1,a2,a3,a5,c5,c6,b1⟩,b2,b3,dO,rfl,h2⟩
  ·exact hs.elim
 ·rename_i j;split at hs
  ·rename_i s' st cut dg aF hj;split at hs
   ·rename_i bQ;simp only[asN,atv,atD]at bQ;obtain⟨rfl,qX⟩:=bQ;obtain⟨z,h1,h2,hv,bD,dO⟩:=qK hJ hn hs;obtain⟨e0,fs,c1,c2,c3,c4,c5,c6,rfl⟩:=TK h1;obtain⟨a1,new,a2,a3,a4,a5⟩:=ER hJ ha hc c2 c3 c4 dV
    have hm:kY x0=aa e0.length:=by
     have:=P4 hJ hj c1 hb;exact this.1
    have cN:cI (au P (ν++[.tree s (e0++fs)])) R φ V.l σ x0 (.sr j):=by
     have hbv:VR (au P ν) R φ V.l σ x0 (.one (.sr j)):=hb;exact VR.up hJ hbv (λe z h=>SE.c9 P e h)
    have ff:=bD.Wb j;have Y3:(V.l.map (LO.drop j))[j]?=aa (.row s st cut dg aF):=by simp[as4,hj,LO.drop]
    have fk:cI (au P (ν++[.tree s (e0++fs)])) R φ (V.l.map (LO.drop j)) σ x0 (.sr j):=cN.step (HG bD j) (Cl.aZ _)
    obtain⟨x',ao,R',aL,b1,b2,b3⟩:=Jm ff (dg:=fr) (z':=.var V.n) (x:=x0) Y3 (SE.c9 P aF c1) hv fk a3 a4 a5 (Ay c4).1 qX (λd t pv hg=>Jn hg) (λi o hi aW=>by
     rw[as4]at hi;obtain⟨o',_,rfl⟩:=asS.1 hi;exact o'.nc j)
    refine⟨x',ao,R',aL,.one (.sr j),((({V with n:=V.n+1}:SS).sS j).setObj j (.row s st cut (fr||dg) (.var V.n))),[.tree s (e0++fs)],⟨e0.length,fs.length,new,hm,a1,a2,a3,a5,c5,c6,b1⟩,b2,b3,dO,rfl,h2⟩
   ·exact hs.elim
  ·exact hs.elim
 ·exact hs.elim
end Go.Ev
namespace Go.Ev
variable{P:Program}{N:Nat}{σ ao:St}{R R':Rs}{φ aL:Ph}{E:Nat->Env}{ν:List IV}
variable{C:Cr}{Q:IV->Prop}{K:List (List IV->Prop)}{V:SS}{d:Nat}{o:Oper}{k:PV SE->SS->ak}{L:List (LO SE)}{Γ:Gm SE}
theorem o9{t et:TypeId}(h:elemOf P t=aa et):P.underlying t=aa (.slice et):=by
 unfold elemOf at h;split at h
 ·rename_i e he;cases h;exact he
 ·cases h
theorem Gp{e:SE}{z:IV}(h:(SE.len e).den P ν=aa z):∃s es,e.den P ν=aa (.tree s es)/\z=.int es.length:=by
 simp only[SE.den,as_]at h;obtain⟨a,h1,h2⟩:=h;unfold I9 at h2;split at h2
 ·cases h2;exact⟨_,_,h1,rfl⟩
 ·cases h2
theorem ab0{e:SE}{z:IV}(h:(SE.sx e).den P ν=aa z):∃b,e.den P ν=aa (.raw (.string b))/\z=.int b.size:=by
 simp only[SE.den,as_]at h;obtain⟨a,h1,h2⟩:=h;unfold xP at h2;split at h2
 ·cases h2;exact⟨_,h1,rfl⟩
 ·cases h2
theorem ae8{fr:Bool}{x:IV}{s:Nat}{es:List IV}{ts:Array TypeId}{el:TypeId}(hu:(ts[0]?).bind P.underlying=aa (.slice el))(h:bn fr R σ x (.tree s es)):pd P ts x σ=aa (.int es.length):=by
 generalize hz:IV.tree s es=z at h;cases h with
 |nil s' bt=>injection hz with a b;subst a b;simp[pd,hu]
 |emp s' bt=>injection hz with a b;subst a b;simp[pd,hu]
 |pure _ hf hp=>subst hz;simp[pd,hu]
 |sl id off len cap ep s' m cs ay mn aF hR aE a1 a2 bt hl hb hm bH hh=>injection hz with a b;subst a b hl;simp[pd,hu]
 |raw v=>cases hz
 |du=>cases hz
 |agg=>cases hz
 |az=>cases hz
variable(hJ:J (au P ν) R φ V.g V.l E σ)(hn:ν.length=V.n)
include hJ hn
theorem ae9{c:Call}(ho:o.op=.call c)(hc:c.callee=.builtin .len)(hs:(fT P d o V k).sat P C Q K ν):dh P C Q K ν E V.ln k (bL P E d o σ):=by
 unfold fT at hs;rw[ho]at hs;simp only[hc]at hs;have bp:=fV hJ d c.args.toList c.argTypes.toList;split at hs<;>first|(exact hs.elim)|(exact(‹axL=axL->False› rfl).elim)|skip
 all_goals first|(rename_i hb _;cases hb;done)|skip
 rename_i pv _ hh;rw[hh]at bp;obtain⟨x,hx,hr⟩:=lr bp
 have eB:∀v,pd P c.argTypes x σ=aa v->av P 0 (ax (E d)) o σ=aa (.val v σ):=by
  intro v hv;simp[av,ho,hc,dJ,hx,hv]
 split at hs
 ·rename_i hu
  have main:∀a:SE,(∀y,a.den P ν=aa y->bn ab R σ x y)->(vk (.sx a) V k).sat P C Q K ν->dh P C Q K ν E V.ln k (bL P E d o σ):=by
   intro a ha hs;obtain⟨⟨z,hz⟩,hk⟩:=hs;obtain⟨b,h1,rfl⟩:=ab0 hz;have:=cb (ha _ h1);exact .at (x:=.int b.size) hk hJ hn rfl ⟨_,hz,.raw _,rfl⟩ (eB _ (by simp[pd,hu,this]))
  split at hs
  ·rename_i z;obtain⟨y,h1,h2,_⟩:=hr;exact main z (λy' hy=>by have c8:z.den P ν=aa y:=h1;rw[hy]at c8;cases c8;exact h2.mono hJ.Bc) hs
  ·rename_i f z;obtain⟨y,h1,h2,_⟩:=hr;exact main z (λy' hy=>by have c8:z.den P ν=aa y:=h1;rw[hy]at c8;cases c8;exact h2.cL) hs
  ·exact hs.elim
 ·rename_i el hu
  have main:∀a:SE,(∀y,a.den P ν=aa y->bn ab R σ x y)->(vk (.len a) V k).sat P C Q K ν->dh P C Q K ν E V.ln k (bL P E d o σ):=by
   intro a ha hs;obtain⟨⟨z,hz⟩,hk⟩:=hs;obtain⟨s,es,h1,rfl⟩:=Gp hz;exact .at (x:=.int es.length) hk hJ hn rfl ⟨_,hz,.raw _,rfl⟩ (eB _ (ae8 hu (ha _ h1)))
  split at hs
  ·rename_i z;obtain⟨y,h1,h2,_⟩:=hr;exact main z (λy' hy=>by have c8:z.den P ν=aa y:=h1;rw[hy]at c8;cases c8;exact h2.mono hJ.Bc) hs
  ·rename_i f z;obtain⟨y,h1,h2,_⟩:=hr;exact main z (λy' hy=>by have c8:z.den P ν=aa y:=h1;rw[hy]at c8;cases c8;exact h2.cL) hs
  ·rename_i b s;obtain⟨_,h2⟩:=hr;exact .at (x:=.int 0) hs hJ hn rfl ⟨_,rfl,.raw _,rfl⟩ (eB _ (by subst h2;cases b<;>simp[pd,hu]))
  ·rename_i j;split at hs
   ·rename_i s st cut fr es hj;obtain⟨⟨z,hz⟩,hk⟩:=hs;obtain⟨s',aF,h1,rfl⟩:=Gp hz
    have iO:s'=s:=by
     obtain⟨_,gZ,g1,_⟩:=hJ.obj j _ hj;have nM:es.den P ν=aa (.tree s gZ):=g1;rw[h1]at nM;cases nM;rfl
    subst iO;obtain⟨hl,_⟩:=P4 hJ hj h1 hr;refine .at (x:=.int aF.length) hk hJ hn rfl ⟨_,hz,.raw _,rfl⟩ (eB _ ?_);obtain⟨s2,YQ,abZ,YR,z2,MJ,a1,a2,a3⟩:=hr;rw[hj]at a1;cases a1;have s5:es.den P ν=aa (.tree s' MJ):=a2;rw[h1]at s5;cases s5;rcases a3 with⟨_,b2,rfl|rfl⟩|⟨id,cs,ay,mn,cap,_,_,rfl,_⟩
    ·simp[pd,hu,b2]
    ·simp[pd,hu,b2]
    ·simp[pd,hu]
   ·exact hs.elim
  ·exact hs.elim
 ·rename_i kt0 et0 hu;split at hs<;>first|(exact hs.elim)|skip
  rename_i j;split at hs<;>first|(exact hs.elim)|skip
  rename_i kt je hj;split at hs
  ·exact hs.elim
  rename_i hk;have eo:¬gI kt=ab:=hk;obtain⟨⟨z,hz⟩,uQ⟩:=hs;obtain⟨id,mc,gZ,g1,g2,g3⟩:=hr;rw[hj]at g2;cases g2;rw[if_neg eo]at g3;have dH:=hJ.obj j _ hj;rw[gR,if_neg eo]at dH;obtain⟨bB,es,clock,ds,c1,c2,c3,c4,c5,c6⟩:=dH;rw[g1]at c2;cases c2;have kQ:je.den P ν=aa (.az ds):=c1
  have Jk:z=.int ds.length:=by
   simp only[SE.den,kQ,asU,mA,if_true,asP]at hz;exact hz.symm
  subst Jk;have hlen:es.length=ds.length:=All2.len c5;exact .at (x:=.int es.length) uQ hJ hn rfl ⟨_,hz,by rw[hlen];exact .raw _,rfl⟩ (eB _ (by subst g3;simp[pd,hu,c4]))
 ·exact hs.elim
omit hJ hn in
theorem ag5{t:TypeId}{e:SE}(h:FW P t=aa e):∃v,cy P t=aa v/\e.den P ν=aa (.raw v)/\v.cells= #[v]:=by
 unfold FW at h;split at h<;>first|(cases h;exact⟨_,‹_›,rfl,rfl⟩)|cases h
theorem ab1{c:Call}{x0 x1:IV}{t0 t1 et:TypeId}{base ca:Cl SE}(ho:o.op=.call c)(hc:c.callee=.builtin .append)(hx:c.args.toList.map (ax (E d))=[x0,x1])(TL:c.argTypes[0]?=aa t0)(TM:c.argTypes[1]?=aa t1)(het:elemOf P t0=aa et)
 (IT:VR (au P ν) R φ V.l σ x0 (.one base))(qY:VR (au P ν) R φ V.l σ x1 (.one ca))(hs:(Wm P et t1 base ca V k).sat P C Q K ν):dh P C Q K ν E V.ln k (bL P E d o σ):=by
 unfold Wm at hs;split at hs<;>first|(exact hs.elim)|skip
 rename_i qk s n yo;split at hs<;>first|(exact hs.elim)|skip
 rename_i s' z ze bytes aU wu YX ML;split at hs<;>first|(exact hs.elim)|skip
 rename_i bQ;simp only[asN]at bQ;obtain⟨⟨⟨⟨h1,h2⟩,h3⟩,h4⟩,h5⟩:=bQ;have c8:=asV h1;have zq:=asV h2;subst c8 zq;have Jh:bytes<=1000000:=by simpa using h3
 obtain⟨v,e1,e2,e3⟩:=ag5 (ν:=ν) YX;rw[wu]at e1;cases e1;obtain⟨y,hy,hk⟩:=hs;simp only[SE.den,as_]at hy;obtain⟨nv,n1,zv,n2,n3⟩:=hy;rw[e2]at n2;cases n2;obtain⟨y',y1,y2,_⟩:=qY;have MM:n.den P ν=aa y':=y1;rw[n1]at MM;cases MM
 obtain⟨q,m,rfl,m1,m2,hq,rfl⟩:∃q m,nv=.raw (.int q m)/\1<=m/\m<=1000000/\(q==IntKind.i64)=ab/\y=.tree 1 (ate m.toNat (.raw z)):=by
  unfold mA at n3;split at n3
  ·split at n3<;>cases n3
  ·rw[if_neg (λh=>absurd h.1 (by decide))]at n3;split at n3
   ·rename_i hh;cases n3;exact⟨_,_,rfl,hh.2.1,hh.2.2.1,hh.2.2.2.1,rfl⟩
   ·cases n3
  ·rw[if_neg (by decide)]at n3;cases n3
  ·cases n3
 have wo:q=.i64:=by simpa using hq
 subst wo;have qT:=cb y2;obtain⟨_,iP⟩:=IT;simp only[if_true]at iP
 have MN:gO (z.cells.toList.map .raw) (m.toNat*1)=ate m.toNat (.raw z):=by
  simp[gO,e3]
 have bz:Ev.aj (.raw z)=ab:=by simpa[e3]using h5
 have p8:(SE.var V.n).den P (ν++[.tree 1 (ate m.toNat (.raw z))])=aa (.tree 1 (ate m.toNat (.raw z))):=by simp[SE.den,<-hn]
 have bD:=hJ.up (iv:=au P (ν++[.tree 1 (ate m.toNat (.raw z))])) (λe y h=>SE.c9 P e h)
 have ff:=bD.yv (.cells (ate m.toNat (.raw z)) 0 0) (.row 1 af af af (.var V.n)) ⟨by omega,_,p8,λe he=>(by rw[at0 he];rfl),.inr ⟨σ.n,(ate m.toNat (.raw z)),0,0,by simp[bX],by simp,asR _,by simp,hJ.rJ,as6.2 λx hx=>(by rw[at0 hx];exact bz),λj x d hx hd=>by
  have iN:=at0 (asZ hx)
  have wj:d=.raw z:=by
   have hm:=asZ hd;unfold flat at hm;obtain⟨e,he,hde⟩:=auX.1 hm;rw[at0 he]at hde;simpa[cellsOf]using hde
  rw[iN,wj];exact .raw _⟩⟩
 refine⟨.sl σ.n 0 m.toNat ah 0 1,_,R,_,.one (.sr V.l.length),{V with n:=V.n+1,l:=V.l++[.row 1 af af af (.var V.n)]},[.tree 1 (ate m.toNat (.raw z))],?_,ff,
  ⟨1,af,af,af,_,_,by simp,p8,.inr ⟨σ.n,(ate m.toNat (.raw z)),0,0,ah,by simp[bX],by simp,by simp,atE _,λ_ _=>by simp,λc hc=>by cases hc⟩⟩,by simp[hn],rfl,hk⟩
 have Dl:m.toNat≠0:=by omega
 simp only[bL,av,ho,hc,dJ,hx,kW,TL,TM,o9 het,yo,aU,wu,ML,sI,qT,iP];rw[if_neg (by simp[e3]),if_pos ⟨by omega,by omega⟩];simp only[kY];rw[MN];simp only[if_true]
 rw[if_pos ⟨by simp,as6.2 λx hx=>(by rw[at0 hx];exact bz),by
    have:(4*(0+m.toNat)+4096)*bytes<=4004096*1000000:=Nat.mul_le_mul (by omega) Jh;omega,by omega⟩]
 simp only[eO,fF,eU];simp[Dl,ret]
theorem WY{c:Call}(ho:o.op=.call c)(hc:c.callee=.builtin .append)(hs:(fT P d o V k).sat P C Q K ν):dh P C Q K ν E V.ln k (bL P E d o σ):=by
 unfold fT at hs;rw[ho]at hs;simp only[hc]at hs;have bp:=fV hJ d c.args.toList c.argTypes.toList;split at hs<;>first|(exact hs.elim)|(exact(‹axh=axh->False› rfl).elim)|skip
 all_goals first|(rename_i hb _;cases hb;done)|skip
 rename_i base ca _ hh;rw[hh]at bp;obtain⟨x0,x1,hx,IT,qY⟩:=HY bp;split at hs<;>first|(exact hs.elim)|skip
 rename_i t0 t1 TL TM;split at hs<;>first|(exact hs.elim)|skip
 rotate_left
 ·rename_i et het _;exact ab1 hJ hn ho hc hx TL TM het IT qY hs
 rename_i et et1 het ab2;split at hs<;>first|(exact hs.elim)|skip
 rename_i s z bytes aU wu ML;split at hs<;>first|(exact hs.elim)|skip
 rename_i bQ
 have Y4:s≠0/\z.cells.size=s:=by
  simp only[atw,atD,not_or,awk,avz]at bQ;refine⟨λh=>?_,asV bQ.2⟩;have:=bQ.1;subst h;simp at this
 split at hs<;>first|(exact hs.elim)|skip
 rename_i fr es raw ab3
 have main:(raw=ab->∃z,(SE.rws es).den P ν=aa z)->(A5 bytes s base fr es V k).sat P C Q K ν->dh P C Q K ν E V.ln k (bL P E d o σ):=by
  intro dV hs;obtain⟨v,aq,R1,dI,pv,V1,μ,⟨m,n,new,h1,h2,h3,h4,h5,h6,h7,h8⟩,gr⟩:=WX hJ hn IT qY ab3 dV hs;refine⟨v,aq,R1,dI,pv,V1,μ,?_,gr⟩;simp only[bL,av,ho,hc,dJ,hx,kW,TL,TM,o9 het,o9 ab2,aU,wu,ML,sI,h2,h3,h1];rw[if_neg (by rintro(h|h);exact Y4.1 h;exact h Y4.2),if_pos ⟨h4,h5,h6,h7⟩,h8]
 split at hs
 ·rename_i hr;obtain⟨hz,hk⟩:=hs;exact main (λ_=>hz) hk
 ·rename_i hr;exact main (λh=>absurd h hr) hs
end Go.Ev
namespace Go.Ev
variable{P:Program}{N:Nat}{σ ao:St}{R R':Rs}{φ aL:Ph}{E:Nat->Env}{ν:List IV}
variable{C:Cr}{Q:IV->Prop}{K:List (List IV->Prop)}{V:SS}{d:Nat}{o:Oper}{k:PV SE->SS->ak}{L:List (LO SE)}{Γ:Gm SE}
theorem CG(hJ:J (au P ν) R φ V.g V.l E σ){ty:Nat->TypeId}{place:Nat->Option (Nat×Nat)}:∀{parts:List (Nat×Operand)} {cells:List IV} {cs out:List (Cl SE)},All2 (cI (au P ν) R φ V.l σ) cells cs->
 nW (λj x=>eI (bO P d V (ty j) x)) place parts cs=aa out->∃gJ,qs place cells (parts.map λ(i,x)=>(i,ax (E d) x))=aa gJ/\All2 (cI (au P ν) R φ V.l σ) gJ out/\gJ.length=cells.length/\(cells.all Ev.aj=ab->gJ.all Ev.aj=ab)
 |[],cells,cs,out,h,hp=>by
  simp only[nW,asP]at hp;subst hp;exact⟨cells,rfl,h,rfl,λh=>h⟩
 |(j,x)::ps,cells,cs,out,h,hp=>by
  simp only[nW]at hp;split at hp
  ·rename_i off sz mZ;split at hp
   ·rename_i hc;simp only[asN,atv,auw]at hc;obtain⟨⟨c1,c2⟩,c3⟩:=hc;have ik:=zE (bo hJ d (ty j) x) c1;have bz:=qy ik c1;have hl:=ik.len;have l5:=h.len;obtain⟨gJ,h1,h2,h3,h4⟩:=CG hJ (MC off h ik) hp;refine⟨gJ,?_,h2,by rw[h3,uF (by omega)],λha=>h4 (xy ha bz)⟩;simp only[atJ,qs,mZ];rw[if_pos ⟨by omega,by omega,bz⟩];exact h1
   ·cases hp
  ·cases hp
theorem CH{zero:List IV}{s:Nat}(hl:zero.length=s)(hs:0<s)(n:Nat):gO zero (n*s)=(ate n zero).flatten:=by
 unfold gO;split
 ·rename_i z;simp at hl;subst hl;rw[Nat.mul_one];induction n with
  |zero=>rfl
  |succ n ih=>simp[au0]
 ·rw[hl,Nat.mul_div_cancel _ hs]
theorem MO{zero:List IV}{zc:List (Cl SE)}(h:All2 (cI (au P ν) R φ L σ) zero zc):∀n,All2 (cI (au P ν) R φ L σ) (ate n zero).flatten (PC zc n)
 |0=>trivial
 |n+1=>by
  rw[au0,avh];exact h.app (MO h n)
theorem vW{zero:List IV}{s:Nat}(hl:zero.length=s):∀n,(ate n zero).flatten.length=n*s
 |0=>by simp
 |n+1=>by rw[au0,avh,atc,vW hl n,hl,atq];omega
theorem Y5{z:SE}(h:I3 z=ab){y:IV}(hy:z.den P ν=aa y):aA y=ab:=by
 cases z<;>simp[I3]at h<;>(simp only[SE.den,asP]at hy;subst hy;rfl)
theorem ag6{V':SS}{c:Cl SE}{t:TypeId}{fr:Bool}{z:SE}{tj:List SE}(h:J (au P ν) R φ V.g V.l E σ)(hr:rdT P V c t=aa (fr,z,V',tj)):
 ∃R',jz P ν R φ V σ R' V'/\J (au P ν) R' φ V'.g V'.l E σ/\∀x,cI (au P ν) R φ V.l σ x c->∃y,z.den P ν=aa y/\bn ab R' σ x y/\Ev.aj y=ab/\((∀e∈tj,∃q,(SE.rw e).den P ν=aa q)->bn fr R' σ x y):=by
 unfold rdT at hr;split at hr
 ·rename_i z';have V3:=EI (c:=.v z') h rfl;obtain⟨R',h1,h2,h3⟩:=V3;split at hr
  ·simp only[asP,ati]at hr;obtain⟨rfl,rfl,rfl,rfl⟩:=hr;refine⟨R',h1,h2,λx hx=>?_⟩;obtain⟨y,a1,a2,a3⟩:=h3 x hx;refine⟨y,a1,a2,a3,λdV=>?_⟩
   have hy:aA y=ab:=by
    by_cases hl:I3 z'=ab
    ·exact Y5 hl a1
    ·rw[if_neg hl]at dV;obtain⟨q,hq⟩:=dV z' (by simp);simp only[SE.den,a1,asU]at hq;split at hq
     ·assumption
     ·cases hq
   unfold aA at hy;split at hy
   ·rw[cb a2];exact .raw _
   ·cases hy
  ·simp only[asP,ati]at hr;obtain⟨rfl,rfl,rfl,rfl⟩:=hr;refine⟨R',h1,h2,λx hx=>?_⟩;obtain⟨y,a1,a2,a3⟩:=h3 x hx;exact⟨y,a1,a2,a3,λ_=>a2⟩
 ·split at hr
  ·rename_i dg z' V1 jR;simp only[asP,ati]at hr;obtain⟨rfl,rfl,rfl,rfl⟩:=hr;obtain⟨R',h1,h2,h3⟩:=EI h jR;refine⟨R',h1,h2,λx hx=>?_⟩;obtain⟨y,a1,a2,a3⟩:=h3 x hx;exact⟨y,a1,a2.cL,a3,λ_=>a2⟩
  ·cases hr
theorem TN:∀{cs:List (Cl SE)} {ts:List TypeId} {V V':SS} {R:Rs} {fr:Bool} {zs tj:List SE},J (au P ν) R φ V.g V.l E σ->KT P V cs ts=aa (fr,zs,V',tj)->
 ∃R',jz P ν R φ V σ R' V'/\J (au P ν) R' φ V'.g V'.l E σ/\zs.length=cs.length/\∀xs,All2 (cI (au P ν) R φ V.l σ) xs cs->∃ys,All2 (λ(z:SE) y=>z.den P ν=aa y) zs ys/\All2 (bn ab R' σ) xs ys/\ys.all Ev.aj=ab/\
  ((∀e∈tj,∃q,(SE.rw e).den P ν=aa q)->All2 (bn fr R' σ) xs ys)
 |[],_,V,V',R,fr,zs,tj,h,hr=>by
  simp only[KT,asP,ati]at hr;obtain⟨rfl,rfl,rfl,rfl⟩:=hr;refine⟨R,.refl h,h,rfl,λxs hx=>⟨[],trivial,?_,rfl,λ_=>?_⟩⟩<;>
  ·cases xs with
   |nil=>trivial
   |cons=>exact hx.elim
 |c::cs,[],V,V',R,fr,zs,tj,h,hr=>by simp[KT]at hr
 |c::cs,t::ts,V,V',R,fr,zs,tj,h,hr=>by
  simp only[KT]at hr;split at hr
  ·rename_i f1 z V1 r1 h1;split at hr
   ·rename_i f2 zs' V2 r2 h2;simp only[asP,ati]at hr;obtain⟨rfl,rfl,rfl,rfl⟩:=hr;obtain⟨R1,a1,a2,a3⟩:=ag6 h h1;obtain⟨R2,b1,b2,bl,b3⟩:=TN a2 h2;refine⟨R2,a1.trans b1,b2,by simp[bl],λxs hx=>?_⟩;cases xs with
    |nil=>exact hx.elim
    |cons x xs=>
     obtain⟨y,c1,c2,c3,c4⟩:=a3 x hx.1;obtain⟨ys,d1,d2,d3,d4⟩:=b3 xs (hx.2.mono λ_ _ bS=>a1.My bS);refine⟨y::ys,⟨c1,d1⟩,⟨c2.mono b1.2.2.2.grow,d2⟩,by simp[c3,d3],λdV=>⟨((c4 λe he=>dV e (by simp[he])).mono b1.2.2.2.grow).wide (λh=>by simp[h]),(d4 λe he=>dV e (by simp[he])).mono λ_ _ bS=>bS.wide (λh=>by simp[h])⟩⟩
   ·cases hr
  ·cases hr
theorem MP{f:ak}:∀{es:List SE},(Wh es f).sat P C Q K ν->(∀e∈es,∃q,(SE.rw e).den P ν=aa q)/\f.sat P C Q K ν
 |[],h=>⟨λe he=>(by cases he),h⟩
 |e::es,h=>by
  obtain⟨h1,h2⟩:=h;obtain⟨h3,h4⟩:=MP h2;exact⟨λx hx=>(by rcases aty.1 hx with rfl|hx;exact h1;exact h3 x hx),h4⟩
theorem MQ{s:Nat}:∀(n:Nat) {zs:List SE} {ys:List IV},All2 (λ(z:SE) y=>z.den P ν=aa y) zs ys->ys.length=n*s->∃es:List IV,All2 (λ(z:SE) y=>z.den P ν=aa y) (yA s n zs) es/\es.length=n/\(∀e∈es,(cellsOf e).length=s)/\flat es=ys
 |0,zs,ys,h,hl=>by
  have:ys=[]:=atr (by simpa using hl);subst this;exact⟨[],trivial,rfl,λe he=>(by cases he),rfl⟩
 |n+1,zs,ys,h,hl=>by
  rw[atq,Nat.one_mul]at hl;obtain⟨es,h1,h2,h3,h4⟩:=MQ (s:=s) n (h.drop s) (by simp;omega);refine⟨.agg (ys.take s)::es,⟨eL (h.take s),h1⟩,by simp[h2],λe he=>?_,?_⟩
  ·rcases aty.1 he with rfl|he
   ·simp[cellsOf];omega
   ·exact h3 e he
  ·show cellsOf (.agg (ys.take s))++flat es=ys;rw[h4];exact List.take_append_drop s ys
theorem MR:∀{ys:List IV},ys.all Ev.aj=ab->(∀e∈ys,(cellsOf e).length=1)/\flat ys=ys
 |[],_=>⟨λe he=>(by cases he),rfl⟩
 |y::ys,h=>by
  simp only[List.all_cons,asN]at h;obtain⟨h1,h2⟩:=MR h.2;refine⟨λe he=>?_,?_⟩
  ·rcases aty.1 he with rfl|he
   ·rw[Ax h.1];rfl
   ·exact h1 e he
  ·show cellsOf y++flat ys=y::ys;rw[h2,Ax h.1];rfl
variable(hJ:J (au P ν) R φ V.g V.l E σ)(hn:ν.length=V.n)
include hJ hn
theorem Y6{t:TypeId}{parts:Array (Nat×Operand)}(ho:o.op=.build t parts)(hs:(fT P d o V k).sat P C Q K ν):dh P C Q K ν E V.ln k (bL P E d o σ):=by
 unfold fT at hs;rw[ho]at hs;simp only at hs;split at hs
 ·rename_i fields hu;split at hs
  ·exact hs.elim
  ·rename_i hc;simp only[atw,atD,not_or,awk,avz]at hc;split at hs
   ·rename_i cs hp;cases hz:cy P t with
    |none=>rw[hz]at hc;simp at hc
    |some z=>
     obtain⟨gJ,h1,h2,_⟩:=CG (ty:=agM fields) hJ (np (P:=P) (ν:=ν) (R:=R) (φ:=φ) (L:=V.l) (σ:=σ) hz) hp;refine .here (x:=.agg gJ) (pv:=.ag cs) (aq:=σ) ?_ hJ ⟨_,rfl,h2⟩ hn rfl hs;have c8:qs (λi=>(fields[i]?).bind λf=>(aN P f.type).map λs=>(f.offset,s)) (z.cells.toList.map IV.raw) (parts.toList.map λ(i,x)=>(i,ax (E d) x))=aa gJ:=h1;simp only[bL,av,ho,hz,hu,c8,hc.1,ret,if_true]
   ·exact hs.elim
 ·rename_i len et hu;split at hs
  ·rename_i s aU;split at hs
   ·exact hs.elim
   ·rename_i hc;split at hs
    ·rename_i cs hp;cases hz:cy P t with
     |none=>rw[hz]at hc;simp at hc
     |some z=>
      obtain⟨gJ,h1,h2,_⟩:=CG (ty:=λ_=>et) hJ (np (P:=P) (ν:=ν) (R:=R) (φ:=φ) (L:=V.l) (σ:=σ) hz) hp;refine .here (x:=.agg gJ) (pv:=.ag cs) (aq:=σ) ?_ hJ ⟨_,rfl,h2⟩ hn rfl hs;have c8:qs (λi=>aa (i*s,s)) (z.cells.toList.map IV.raw) (parts.toList.map λ(i,x)=>(i,ax (E d) x))=aa gJ:=h1;simp only[bL,av,ho,hz,hu,aU,c8,ret]
    ·exact hs.elim
  ·exact hs.elim
 ·exact hs.elim
theorem Lg{t:TypeId}{len:Nat}{parts:Array (Nat×Operand)}(ho:o.op=.buildSlice t len parts)(hs:(fT P d o V k).sat P C Q K ν):dh P C Q K ν E V.ln k (bL P E d o σ):=by
 unfold fT at hs;rw[ho]at hs;simp only at hs;split at hs<;>first|(exact hs.elim)|skip
 rename_i et het;have hu:=o9 het;split at hs<;>first|(exact hs.elim)|skip
 rename_i s z aU hz;split at hs<;>first|(exact hs.elim)|skip
 rename_i hc;simp only[atw,atD,not_or,awk,avz,auw]at hc;obtain⟨⟨c1,c2⟩,c3⟩:=hc;have bE:s≠0:=by intro h;subst h;simp at c1
 have sK:z.cells.size=s:=asV c2;have ME:(z.cells.toList.map IV.raw).length=s:=by simp[sK]
 split at hs
 ·rename_i jC;have ab4:=asV jC;subst ab4;split at hs
  ·rename_i Ed;have aoO:parts.toList=[]:=by simpa using Ed
   refine .at (x:=.emp) hs hJ hn rfl ⟨by omega,rfl⟩ ?_
   have MN:gO (z.cells.toList.map IV.raw) 0=[]:=by
    have:=CH ME (by omega) 0;simpa using this
   simp only[bL,av,ho,hu,aU,hz,aoO,aun,qs,avO,MN];rw[if_neg (by rintro(h|h|h);exact bE h;exact h sK;simp at h)];simp[ret]
  ·exact hs.elim
 ·rename_i jC;have ab4:len≠0:=by intro h;subst h;simp at jC
  split at hs<;>first|(exact hs.elim)|skip
  rename_i cs hp;split at hs<;>first|(exact hs.elim)|skip
  rename_i fr zs V2 rws jR;split at hs<;>first|(exact hs.elim)|skip
  rename_i DF;obtain⟨dV,hk⟩:=MP hs;have P8:=MO (np (P:=P) (ν:=ν) (R:=R) (φ:=φ) (L:=V.l) (σ:=σ) hz) len;obtain⟨gJ,h1,h2,h3,h4⟩:=CG (ty:=λ_=>et) hJ P8 hp;obtain⟨R',cw,ff,asB,HX⟩:=TN hJ jR;obtain⟨ys,b1,b2,b3,b4⟩:=HX _ h2;have ek:gJ.length=len*s:=by rw[h3,vW ME]
  have G6:ys.length=len*s:=by rw[<-b2.len,ek]
  have wK:gJ.all Ev.aj=ab:=by
   rw[as6];intro c hc;obtain⟨i,hi⟩:=auD hc;have ai:i<ys.length:=by rw[<-b2.len];exact(asM.1 hi).1
   exact(b2.get hi (asL ai)).aj (as6.1 b3 _ (List.getElem_mem ai))
  obtain⟨es,gF,ag7,ag8,aoP⟩:∃es:List IV,(d_ (if isAgg P et=ab then yA s len zs else zs)).den P ν=aa (.agg es)/\es.length=len/\(∀e∈es,(cellsOf e).length=s)/\flat es=ys:=by
   by_cases ha:isAgg P et=ab
   ·rw[if_pos ha];obtain⟨es,e1,e2,e3,e4⟩:=MQ (s:=s) len b1 G6;exact⟨es,eL e1,e2,e3,e4⟩
   ·rw[if_neg ha]
    have dK:s=1:=by
     simp only[atD,Bool.or_eq_false_iff,not_and,avz]at DF;exact asV (DF (by simpa using ha))
    subst dK;obtain⟨e1,e2⟩:=MR b3;exact⟨ys,eL b1,by omega,e1,e2⟩
  have hcr:p7 fr R' σ gJ (flat es):=by
   rw[aoP];intro j x y hx hy;cases fr with
   |true=>exact b2.get hx hy
   |false=>exact(b4 dV).get hx hy
  have p8:(SE.tr s (d_ (if isAgg P et=ab then yA s len zs else zs))).den P ν=aa (.tree s es):=by
   simp only[SE.den,gF,asU];rw[if_pos ⟨by omega,by rw[as6];intro e he;simp[ag8 e he]⟩]
  have yl:ν.length=V2.n:=by rw[hn];exact cw.2.1.symm
  have uU:=ff.yv (.cells gJ 0 0) (.row s af af fr (.tr s (d_ (if isAgg P et then yA s len zs else zs))))
   ⟨by omega,es,p8,ag8,.inr ⟨σ.n,gJ,0,0,by simp[bX],by simp,asR _,by rw[ek,ag7];exact asR _,ff.rJ,wK,λj x y hx hy=>(hcr j x y hx hy).mono (Mu ff _)⟩⟩
  refine .at (x:=.sl σ.n 0 len (aa len) 0 s) (V1:={V2 with l:=V2.l++[.row s af af fr (.tr s (d_ (if isAgg P et then yA s len zs else zs)))]}) hk uU yl cw.2.2.1
   ⟨s,af,af,fr,_,es,by simp,p8,.inr ⟨σ.n,gJ,0,0,aa len,by simp[bX],by simp,by simp[ag7],atE _,λh=>(by cases h),λc hc=>(by cases hc;exact⟨rfl,by omega,by omega⟩)⟩⟩ ?_
  have c8:qs (λi=>aa (i*s,s)) (ate len (z.cells.toList.map IV.raw)).flatten (parts.toList.map λ(i,x)=>(i,ax (E d) x))=aa gJ:=h1;simp only[bL,av,ho,hu,aU,hz,CH ME (by omega),c8,ret];rw[if_neg (by rintro(h|h|h);exact bE h;exact h sK;omega),if_pos ⟨ek,wK⟩,if_neg ab4]
end Go.Ev
namespace Go.Ev
variable{P:Program}{N:Nat}{σ ao:St}{R R':Rs}{φ aL:Ph}{E:Nat->Env}{ν:List IV}
variable{C:Cr}{Q:IV->Prop}{K:List (List IV->Prop)}{V:SS}{d:Nat}{o:Oper}{k:PV SE->SS->ak}{L:List (LO SE)}{Γ:Gm SE}
variable(hJ:J (au P ν) R φ V.g V.l E σ)(hn:ν.length=V.n)
include hJ
theorem TO:∀{xs:List Operand} {bs:List (Nat×Nat)},PB P d V xs=aa bs->All2 (λy (p:Nat×Nat)=>∃id cs,φ p.1=aa id/\V.l[p.1]?=aa (.var cs)/\y=.ptr id 0 0 p.2) (xs.map (ax (E d))) bs
 |[],bs,h=>by
  simp only[PB,asP]at h;subst h;trivial
 |x::xs,bs,h=>by
  simp only[PB]at h;split at h
  ·rename_i j ext hx;split at h
   ·rename_i l hl;simp only[asP]at h;subst h;have hv:=bo hJ d 0 x;rw[hx]at hv;exact⟨hv,TO hl⟩
   ·cases h
  ·cases h
include hn
theorem P9{f:FuncId}{first cap:Array Operand}(ho:o.op=.makeFunc (.func f) first cap)(hs:(gn P d o V k).sat P C Q K ν):dh P C Q K ν E V.ln k (bL P E d o σ):=by
 unfold gn at hs;rw[ho]at hs;simp only at hs;split at hs
 ·rename_i hf;split at hs
  ·rename_i bs hb;refine .at (x:=.fn (.func f) [] (cap.toList.map (ax (E d)))) hs hJ hn rfl (.inr ⟨_,rfl,TO hJ hb⟩) ?_;simp only[List.isEmpty_iff]at hf;simp[bL,av,ho,ret,hf]
  ·exact hs.elim
 ·exact hs.elim
theorem S3{t:TypeId}{r:Option Operand}(ho:o.op=.makeMap t r)(hs:(gn P d o V k).sat P C Q K ν):dh P C Q K ν E V.ln k (bL P E d o σ):=by
 unfold gn at hs;rw[ho]at hs;simp only at hs;split at hs
 ·rename_i kt et hu;split at hs
  ·exact hs.elim
  rename_i eo;have eo:¬gI kt=ab:=eo;have h1:=hJ.yv (.map [] 0) (.mp kt (.tp .an)) (by rw[gR,if_neg eo];exact⟨σ.n,[],0,[],by simp[au,SE.den],by simp[bX],hJ.rJ,by simp,trivial,rfl,λi e h=>by simp at h⟩);refine .at (x:=.map σ.n) (V1:={V with l:=V.l++[.mp kt (.tp .an)]}) hs h1 hn rfl ⟨σ.n,kt,SE.tp .an,by simp[bX],by simp,(if_neg eo).symm⟩ ?_;simp[bL,av,ho,ret]
 ·exact hs.elim
end Go.Ev
namespace Go.Ev
variable{P:Program}{N:Nat}{σ ao:St}{R R':Rs}{φ aL:Ph}{E:Nat->Env}{ν:List IV}
variable{C:Cr}{Q:IV->Prop}{K:List (List IV->Prop)}{V:SS}{d:Nat}{o:Oper}{k:PV SE->SS->ak}{L:List (LO SE)}{Γ:Gm SE}
theorem yI:∀{cs:List IV} {vs:List Value},vc cs=aa vs->cs=vs.map .raw
 |[],vs,h=>by simp only[vc,asP]at h;subst h;rfl
 |c::cs,vs,h=>by
  unfold vc at h;split at h<;>first|(cases h;done)|skip
  all_goals
   obtain⟨ws,h1,rfl⟩:=asS.1 h;rw[yI h1];rfl
theorem yJ:∀vs:List Value,gy (vs.map .raw)=aa vs
 |[]=>rfl
 |v::vs=>by simp only[atJ,gy,yJ vs]
theorem ES{x:IV}{v:Value}(h:keyOf x=aa v):i_ x=aa v/\lift v=x:=by
 unfold keyOf at h;split at h<;>first|(cases h;exact⟨rfl,rfl⟩)|(cases h;done)|skip
 rename_i cs;obtain⟨vs,h1,rfl⟩:=asS.1 h;have:=yI h1;subst this;refine⟨?_,by simp[lift]⟩;simp only[i_,pN,yJ]
theorem CI{fr:Bool}{x:IV}{cs:List IV}(h:bn fr R σ x (.agg cs)):∃xs,x=.agg xs/\All2 (bn fr R σ) xs cs:=by
 cases h with
 |agg qQ _ hl hh=>exact⟨qQ,rfl,.mk hl hh⟩
 |pure _ hf hp=>
  refine⟨cs,rfl,.mk rfl λi a b h1 h2=>?_⟩;rw[h1]at h2;cases h2;cases hp with
  |agg _ hh=>exact .pure a hf (hh a (asZ h1))
theorem ET{fr:Bool}{x u:IV}{v:Value}(h:keyOf x=aa v)(hc:bn fr R σ u x):u=x:=by
 unfold keyOf at h;split at h<;>first|(exact cb hc)|(cases h;done)|skip
 rename_i cs;obtain⟨vs,h1,rfl⟩:=asS.1 h;have:=yI h1;subst this;obtain⟨xs,rfl,jf⟩:=CI hc
 congr 1
 apply List.ext_getElem?;intro i;cases hi:xs[i]? with
 |none=>
  have:(vs.map IV.raw)[i]?=ah:=by
   rw[List.getElem?_eq_none_iff]at hi⊢;rw[<-jf.len];exact hi
  rw[this]
 |some a=>
  have ai:=(asM.1 hi).1;rw[jf.len]at ai;have hb:=asL ai;have:=jf.get hi hb;rw[hb];simp only[List.getElem_map]at this⊢;rw[cb this]
theorem ab5{u v:Value}(h:keyOf (lift u)=aa v):u=v:=by
 obtain⟨h1,_⟩:=ES h;unfold lift at h1;split at h1
 ·rename_i cs;simp only[i_,pN,yJ,asP]at h1;rw[<-h1]
 ·cases h1;rfl
theorem TP{es:List (Value×IV×Nat)}{ds:List IV}{ks:List Value}(he:zx R σ es ds)(h:oH ds=aa ks):es.map (·.1)=ks:=by
 unfold zx at he;induction ds generalizing es ks with
 |nil=>
  cases es with
  |nil=>simp only[oH,asP]at h;subst h;rfl
  |cons=>exact he.elim
 |cons d ds ih=>
  cases es with
  |nil=>exact he.elim
  |cons e es=>
   obtain⟨⟨z,rfl,_⟩,h2⟩:=he;simp only[oH]at h;split at h
   ·rename_i v vs h3 h4;simp only[asP]at h;subst h;simp only[atJ,ab5 h3,ih h2 h4]
   ·cases h
theorem Jo{kd:TypeDesc}{key:Value}:∀{es:List (Value×IV×Nat)} {n:Nat} {q:Option Nat},nowAt kd key (es.map (·.1)) n=aa q->
 ∃r,atZ kd key (es.map λe=>{key:=e.1,val:=atC,born:=e.2.2}) n=aa r/\(q=ah->r=ah)/\(∀j,q=aa j->(∃v,r=aa (j,v))/\n<=j/\∃e,es[j- n]?=aa e/\avV kd key e.1=aa ab)
 |[],n,q,h=>by
  simp only[aun,nowAt,asP]at h;subst h;exact⟨ah,rfl,λ_=>rfl,λj hj=>by cases hj⟩
 |e::es,n,q,h=>by
  simp only[atJ,nowAt]at h;simp only[atJ,atZ];split at h
  ·rename_i hs;simp only[asP]at h;subst h;refine⟨aa (n,atC),by rw[hs],(λh=>by cases h),λj hj=>?_⟩;cases hj;exact⟨⟨_,rfl⟩,asR _,e,by simp,hs⟩
  ·rename_i hs;obtain⟨r,h1,h2,h3⟩:=Jo h;refine⟨r,by rw[hs];exact h1,h2,λj hj=>?_⟩;obtain⟨h4,h5,e',h6,h7⟩:=h3 j hj;refine⟨h4,by omega,e',?_,h7⟩;rw[show j- n=(j-(n+1))+1 by omega];simpa using h6
  ·cases h
theorem run_underlying{t:TypeId}{kd:TypeDesc}(h:P.underlying t=aa kd):aT P (underlying t)=aa kd:=by
 unfold underlying;rw[bx];show(aT P (.program λp=>.pure p)).bind _=_;simp only[aT,asU,h];rfl
theorem DG{kd:TypeDesc}{k:Value}:∀(es aF:List MapEntry) (n:Nat),es.map (λe=>(e.key,e.val))=aF.map (λe=>(e.key,e.val))->atZ kd k es n=atZ kd k aF n
 |[],[],_,_=>rfl
 |[],e'::aF,_,h=>by simp at h
 |e::es,[],_,h=>by simp at h
 |e::es,e'::aF,n,h=>by
  simp only[atJ,atK,ati]at h;simp only[atZ];rw[h.1.1,h.1.2,DG es aF (n+1) h.2]
theorem yK{kt:TypeId}{k:Value}:∀(es aF:List MapEntry) (n:Nat),es.map (λe=>(e.key,e.val))=aF.map (λe=>(e.key,e.val))->atM kt k es n=atM kt k aF n
 |[],[],_,_=>rfl
 |[],e'::aF,_,h=>by simp at h
 |e::es,[],_,h=>by simp at h
 |e::es,e'::aF,n,h=>by
  simp only[atJ,atK,ati]at h;simp only[atM];rw[h.1.1,h.1.2,yK es aF (n+1) h.2]
theorem WZ{b:Bool}{kt:TypeId}{k:Value}{es aF:List (Value×IV×Nat)}(h:es.map (·.1)=aF.map (·.1)):ia P b kt k es=ia P b kt k aF:=by
 have hm:(es.map λe=>({key:=e.1,val:=atC,born:=e.2.2}:MapEntry)).map (λe=>(e.key,e.val))=(aF.map λe=>({key:=e.1,val:=atC,born:=e.2.2}:MapEntry)).map (λe=>(e.key,e.val)):=by
  simp only[avw]
  have:∀l:List (Value×IV×Nat),l.map ((λe:MapEntry=>(e.key,e.val))∘λe=>({key:=e.1,val:=atC,born:=e.2.2}:MapEntry))=(l.map (·.1)).map λk=>(k,atC):=λl=>by
   rw[avw];rfl
  rw[this,this,h]
 unfold ia
 have hf:auj kt k (es.map λe=>{key:=e.1,val:=atC,born:=e.2.2})=auj kt k (aF.map λe=>{key:=e.1,val:=atC,born:=e.2.2}):=by
  unfold auj
  congr 1
  funext d;rw[DG _ _ 0 hm,yK _ _ 0 hm]
 rw[hf]
theorem wv{kt:TypeId}{ds:List IV}{x:IV}{q:Option Nat}{es:List (Value×IV×Nat)}(he:zx R σ es ds)(h:fB P kt ds x=aa q)(b:Bool):
 ∃key,keyOf x=aa key/\i_ x=aa key/\lift key=x/\ia P b kt key es=aa q/\∀j,q=aa j->∃e,es[j]?=aa e/\avq 10000 e.1 key=ab:=by
 unfold fB at h;split at h
 ·rename_i kd ks key hk ey m_;have h1:=m_;obtain⟨h2,h3⟩:=ES m_;have gF:=TP he ey;rw[<-gF]at h;obtain⟨r,g1,g2,g3⟩:=Jo h;refine⟨key,h1,h2,h3,?_,λj hj=>?_⟩
  ·have hu:P.underlying kt=aa kd/\((∃q,kd=.int q)\/kd=.string):=by
    unfold F5 at hk;split at hk
    ·rename_i q hq;cases hk;exact⟨hq,.inl ⟨_,rfl⟩⟩
    ·rename_i hq;cases hk;exact⟨hq,.inr rfl⟩
    ·cases hk
   have hck:aT P (awy b 10000 kt key)=aa ():=by
    show aT P (awy b (9999+1) kt key)=aa ();unfold awy;rw[bx,run_underlying hu.1,asU];rcases hu.2 with⟨q,rfl⟩|rfl<;>rfl
   have TQ:aT P (auj kt key (es.map λe=>{key:=e.1,val:=atC,born:=e.2.2}))=aa r:=by
    unfold auj;rw[bx,run_underlying hu.1,asU,g1];rfl
   unfold ia;rw[bx,hck,asU,TQ];cases q with
   |none=>rw[g2 rfl]
   |some j=>obtain⟨⟨v,rfl⟩,_⟩:=g3 j rfl;rfl
  ·obtain⟨_,_,e,g4,g5⟩:=g3 j hj;refine⟨e,by simpa using g4,?_⟩;unfold avV at g5;split at g5
   ·rename_i hh;split at g5
    ·rename_i hq;simp only[asP]at g5;rw[‹e.1=_›];simp[avq,hq,eq_of_beq g5]
    ·cases g5
   ·rename_i a b mP;rw[mP];simp only[asP]at g5;have hd:a.data=b.data:=eq_of_beq (show(a.data==b.data)=ab from g5);show(b.data==a.data)=ab;simp[hd]
   ·rw[‹e.1=_›];simp only[asP]at g5;simp[avq,eq_of_beq g5]
   ·cases g5
 ·rename_i ks key hk ey m_;obtain⟨h2,h3⟩:=ES m_;have gF:=TP he ey;have uQ:∀b',ia P b' kt key es=ia P b' kt key (ks.map λe=>(e,.undef,0)):=λb'=>WZ (by rw[gF];simp[Function.comp_def]);unfold I_ at h;split at h<;>first|(cases h;done)|skip
  rename_i q1 q2 Dk OP;split at h<;>first|(cases h;done)|skip
  rename_i hqq;subst hqq
  have hkb:ia P b kt key es=aa q1:=by
   rw[uQ];cases b
   ·exact OP
   ·exact Dk
  split at h
  ·cases h;exact⟨key,m_,h2,h3,hkb,λj hj=>by cases hj⟩
  ·rename_i j;split at h<;>first|(cases h;done)|skip
   rename_i e hj;split at h<;>first|(cases h;done)|skip
   rename_i Yh;cases h;refine⟨key,m_,h2,h3,hkb,λj' fZ=>?_⟩;cases fZ;rw[<-gF,as4]at hj;obtain⟨e',h5,h6⟩:=asS.1 hj;exact⟨e',h5,by rw[h6];exact Yh⟩
 ·cases h
end Go.Ev
