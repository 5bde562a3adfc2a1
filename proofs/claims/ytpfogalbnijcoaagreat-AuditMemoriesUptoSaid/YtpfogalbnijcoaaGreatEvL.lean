/- Lemmas over the model, without conditions of their own: operations on expressions (2). -/
import Derived.Test.YtpfogalbnijcoaaGreatEvK
open List renaming eq_nil_of_length_eq_zero->asF,all_append->avJ,getElem?_take->asD,all_eq_true->asl,getElem?_append_left->asd,getElem?_append_right->asz,getElem?_eq_some_iff->ar3,length_append->ass,getElem?_of_mem->atP,mem_of_getElem?->ash,mem_flatMap->aud,getElem?_map->asi,replicate->asr,eq_of_mem_replicate->atg,map_cons->asZ,replicate_succ->aug,flatten_cons->auz,mem_cons->asS,map_nil->auA,getElem?_eq_getElem->ar2,map_map->auP
open Nat renaming add_mul->asE,le_refl->ar8,zero_le->asT,mul_le_mul_right->asx,sub_zero->avu,zero_mul->au6,beq_eq->asK,eq_of_beq_eq_true->asb,ble_eq->atJ
open Option renaming bind_eq_some_iff->aso,bind_some->asa,map_eq_some_iff->ar9
open Bool renaming and_eq_true->ar4,not_eq_true'->asR,or_eq_true->asL,not_eq_true->avA,not_eq_false->auS
open Option.some renaming injEq->ar6
open Prod.mk renaming injEq->asu
open Go.Builtin renaming len->aw3,append->awx
open Go.Instr renaming findNow->atf,sameNow->avb,findAsking->as0,findKey->atx,sameBits->auJ,checkKey->avO
open Go renaming undef->asQ
open List.cons renaming injEq->as4
open Option renaming some->aa,none->ah
open Bool renaming true->ab,false->af
set_option linter.all false
namespace Go.Ev
variable{P:Program}{N:Nat}{σ ao:St}{R R':Rs}{φ aL:Ph}{E:Nat->Env}{ν:List IV}
variable{C:Cr}{Q:IV->Prop}{K:List (List IV->Prop)}{V:SS}{d:Nat}{o:Oper}{k:PV SE->SS->ak}{L:List (LO SE)}{Γ:Gm SE}
theorem J.reZ(h:J (au P ν) R φ Γ L E σ){k s:Nat}{st cut fr c7:Bool}{z z':SE}{es:List IV}(hk:L[k]?=aa (.row s st cut fr z))(hz:z.den P ν=aa (.tree s es))(pE:z'.den P ν=aa (.tree s es))(hf:fr=ab->c7=ab):
 ky (au P ν) (au P ν) R φ L σ R φ (L.set k (.row s st cut c7 z')) σ (λ_=>False)/\J (au P ν) R φ Γ (L.set k (.row s st cut c7 z')) E σ:=by
 have oL:=c_ hk;have aZ:∀j,j≠k->(L.set k (.row s st cut c7 z'))[j]?=L[j]? :=λj hj=>List.getElem?_set_ne (λhc=>hj hc.symm);have bf:(L.set k (.row s st cut c7 z'))[k]?=aa (.row s st cut c7 z'):=by simp[oL]
 have hs:ky (au P ν) (au P ν) R φ L σ R φ (L.set k (.row s st cut c7 z')) σ (λ_=>False):=by
  refine⟨λ_ _ h=>h,iH.refl h.fits,λj oa hj=>?_,λj kt eT hj=>?_,λj s1 sE r6 sF z1 hj _=>?_⟩
  ·by_cases bI:j=k
   ·subst bI;rw[hk]at hj;cases hj
   ·exact⟨⟨oa,by rw[aZ j bI];exact hj⟩,rfl⟩
  ·by_cases bI:j=k
   ·subst bI;rw[hk]at hj;cases hj
   ·exact⟨⟨eT,by rw[aZ j bI];exact hj⟩,rfl⟩
  ·by_cases bI:j=k
   ·subst bI;rw[hk]at hj;cases hj;refine⟨⟨st,c7,z',bf,λeT mh=>⟨es,pE,?_⟩⟩,rfl,λ_ oa _ A6 _ qH=>⟨oa,A6,qH,rfl,λh=>h⟩⟩;have Pn:z.den P ν=aa (.tree s eT):=mh;rw[hz]at Pn;cases Pn;rfl
   ·exact⟨⟨sE,sF,z1,by rw[aZ j bI];exact hj,λeT mh=>⟨eT,mh,rfl⟩⟩,rfl,λ_ oa _ A6 _ qH=>⟨oa,A6,qH,rfl,λh=>h⟩⟩
 refine⟨hs,{h with slot:=λd t pv hg=>(h.slot d t pv hg).step hs pv.a_,obj:=λj o hj=>?_,lt:=λj id hj=>by simpa using h.lt j id hj}⟩;by_cases bI:j=k
 ·subst bI;rw[bf]at hj;cases hj;obtain⟨bE,gS,g1,g2,g3⟩:=h.obj j _ hk;have na:z.den P ν=aa (.tree s gS):=g1;rw[hz]at na;cases na;refine⟨bE,es,pE,g2,?_⟩;rcases g3 with g3|⟨bA,cx,iC,pw,g3,g4,g5,g6,g7,g8,g9⟩
  ·exact .inl g3
  ·exact .inr ⟨bA,cx,iC,pw,g3,g4,g5,g6,g7,g8,λj x d hx hd=>(g9 j x d hx hd).wide hf⟩
 ·rw[aZ j bI]at hj;exact(h.obj j o hj).step hs rfl (λ_ _=>⟨rfl,rfl⟩) o.a_
theorem Tk{σ:St}(hw:σ.t.WF)(id:Nat)(a b:Ob):(σ.put id a).put id b=σ.put id b:=by
 unfold St.put
 congr 1
 refine T.WF.ext ((hw.set _ _).set _ _) (hw.set _ _) λi=>?_;simp only[T.fW];split<;>rfl
theorem yx{s len n:Nat}{new cH:List IV}{x:IV}(h:eL s len σ x=aa cH)(hl:cH.length=len*s):fk s len n new x σ=ret (.sl σ.n 0 (len+n) ah 0 s) (σ.add (.cells (cH++new) 0 0)):=by
 simp[fk,h,hl]
theorem IW(h:J (au P ν) R φ Γ L E σ){k s:Nat}{st cut fr c7:Bool}{z z':SE}{es fs new:List IV}{x:IV}(hk:L[k]?=aa (.row s st cut fr z))(hz:z.den P ν=aa (.tree s es))(pE:z'.den P ν=aa (.tree s (es++fs)))
 (hx:cD (au P ν) R φ L σ x (.sr k))(Ib:new.length=fs.length*s)(DP:pG c7 R σ new (flat fs))(hnc:new.all Ev.aj=ab)(yy:∀e∈fs,(cellsOf e).length=s)(qz:(st&&cut)=af)
 (LM:∀d t pv,cy d t Γ=aa pv->pv.ok (·=k))(hL:∀j o,L[j]?=aa o->j≠k->o.ok (·=k)):
 ∃x' ao R' aL,eD 0 s es.length fs.length new x σ=aa (.val x' ao)/\J (au P ν) R' aL Γ (L.set k (.row s st cut (c7||fr) z')) E ao/\cD (au P ν) R' aL (L.set k (.row s st cut (c7||fr) z')) ao x' (.sr k):=by
 obtain⟨bE,gS,g1,g2,g3⟩:=h.obj k _ hk;have na:z.den P ν=aa (.tree s gS):=g1;rw[hz]at na;cases na;have oL:=c_ hk;have bf:(L.set k (.row s st cut (c7||fr) z'))[k]?=aa (.row s st cut (c7||fr) z'):=by simp[oL]
 have agi:∀e∈es++fs,(cellsOf e).length=s:=λe he=>(List.mem_append.1 he).elim (g2 e) (yy e);have iu:=hx;obtain⟨s2,X8,abd,X9,z2,L4,a1,a2,a3⟩:=hx;rw[hk]at a1;cases a1;have sH:z.den P ν=aa (.tree s L4):=a2;rw[hz]at sH;cases sH;by_cases kJ:fs.length=0
 ·have anP:fs=[]:=asF kJ;subst anP;rw[List.append_nil]at pE;obtain⟨hs,hJ⟩:=h.reZ (c7:=c7||fr) hk hz pE (λh=>by simp[h]);refine⟨x,σ,R,φ,?_,hJ,iu.step hs (Cl.a_ _)⟩;rcases a3 with⟨_,_,rfl|rfl⟩|⟨id,cs,ay,mn,cap,_,_,rfl,_⟩<;>simp[eD,ret]
 have fresh:∀cH:List IV,cH.length=es.length*s->(∀(j:Nat) x d,cH[j]?=aa x->(flat es)[j]?=aa d->bn fr R σ x d)->cH.all Ev.aj=ab->
  ∃R' aL,J (au P ν) R' aL Γ (L.set k (.row s st cut (c7||fr) z')) E (σ.add (.cells (cH++new) 0 0))/\cD (au P ν) R' aL (L.set k (.row s st cut (c7||fr) z')) (σ.add (.cells (cH++new) 0 0)) (.sl σ.n 0 (es.length+fs.length) ah 0 s) (.sr k):=by
  intro cH L5 ho2 ho3
  let R':Rs:=λi=>if i=σ.n then(if st then aa ((es++fs).length*s)else ah)else R i
  have hlen:(cH++new).length=(es++fs).length*s:=by simp[L5,Ib,asE]
  obtain⟨hs,hJ⟩:=h.afV (R':=R') (bad:=(·=k)) (jY:=.row s st cut (c7||fr) z') (eK:=.cells (cH++new) 0 0) hk (λj hj=>by simp[R',hj])
   (λm cs ay mn hm ho=>by
    injection ho with L5 ho2 ho3
    subst L5;simp only[R',if_true]at hm;split at hm
    ·cases hm;rw[hlen];exact ar8 _
    ·cases hm)
   ⟨_,_,_,_,_,rfl⟩ rfl LM hL
   (λhs=>⟨bE,es++fs,pE,agi,.inr ⟨σ.n,cH++new,0,0,by simp[bV],by simp,ar8 _,by rw[hlen];exact ar8 _,by simp[R'],by rw[avJ,ho3,hnc];rfl,λj x d hx hd=>by
    rw[Cj]at hd;have hc:=Wj ho2 (by rw[L5,nD g2]) DP j x d hx hd;rw[Bool.or_comm]at hc;exact hc.mono hs.grow⟩⟩)
  refine⟨R',bV φ k σ.n,hJ,s,st,cut,c7||fr,z',es++fs,bf,pE,.inr ⟨σ.n,cH++new,0,0,ah,by simp[bV],by simp,by simp,asT _,λ_ _=>hlen.symm,λc hc=>by cases hc⟩⟩
 rcases a3 with⟨b1,b2,b3⟩|⟨id,cs,ay,mn,cap,b1,b2,rfl,b4,b5,b6⟩
 ·have he0:es=[]:=asF b2;subst he0;obtain⟨R',aL,hJ,hV⟩:=fresh [] (by simp) (λj x d h=>by simp at h) rfl;refine⟨_,_,R',aL,?_,hJ,hV⟩;rcases b3 with rfl|rfl
  ·simp only[eD];rw[if_pos ⟨trivial,trivial⟩,if_neg kJ,yx (cH:=[]) (by simp[eL]) (by simp)];rfl
  ·simp only[eD];rw[if_neg kJ,yx (cH:=[]) (by simp[eL]) (by simp)];rfl
 ·rcases g3 with⟨g3,_⟩|⟨bA,cx,iC,pw,g3,g4,g5,g6,g7,g8,g9⟩
  ·rw[b1]at g3;cases g3
  rw[b1]at g3;cases g3;rw[b2]at g4;cases g4
  have hold:eL s es.length σ (.sl id (0*s) (es.length- 0) cap ay s)=aa (cs.take (es.length*s)):=by
   simp only[eL];rw[if_pos ⟨trivial,by simp⟩,b2];simp only;rw[if_pos ⟨g5,ar8 _,by omega⟩];simp
  have NL:(cs.take (es.length*s)).length=es.length*s:=by simp;omega
  have ajR:∀(j:Nat) x d,(cs.take (es.length*s))[j]?=aa x->(flat es)[j]?=aa d->bn fr R σ x d:=λj x d hx hd=>by
   rw[asD]at hx;split at hx
   ·exact g9 j x d hx hd
   ·cases hx
  have acX:(cs.take (es.length*s)).all Ev.aj=ab:=by
   rw[asl]at g8⊢;exactλc hc=>g8 c (List.mem_of_mem_take hc)
  have Ky:∀(ob:List IV) (tF Dd:Nat),(R id=ah\/(Dd=mn/\ay<=tF))->Dd<=tF->(∀j,j<es.length*s->ob[j]?=cs[j]?)->(∀j,j<new.length->ob[es.length*s+j]?=new[j]?)->(es++fs).length*s<=ob.length->ob.all Ev.aj=ab->
   ∀Pw,(Pw=ah->cut=af->(es++fs).length*s=ob.length)->(∀c,Pw=aa c->Dd=tF/\c*s<=ob.length/\(es++fs).length<=c)->
   ∃R',J (au P ν) R' φ Γ (L.set k (.row s st cut (c7||fr) z')) E (σ.put id (.cells ob tF Dd))/\cD (au P ν) R' φ (L.set k (.row s st cut (c7||fr) z')) (σ.put id (.cells ob tF Dd)) (.sl id 0 (es.length+fs.length) Pw tF s) (.sr k):=by
   intro ob tF Dd hRm S2 agj anQ agk anR Pw ajS Wk
   let R':Rs:=λi=>if i=id then(if st then aa ((es++fs).length*s)else ah)else R i
   have BO:R id=if st then aa (es.length*s)else ah:=g7
   obtain⟨hs,hJ⟩:=h.tv (R':=R') (bad:=(·=k)) (jY:=.row s st cut (c7||fr) z') (eK:=.cells ob tF Dd) b1 hk (λj hj=>by simp[R',hj])
    (λm hm=>by
     rw[BO]at hm;split at hm
     ·rename_i ct;cases hm;exact⟨(es++fs).length*s,by simp[R',ct],asx s (by simp)⟩
     ·cases hm)
    (λm oa BP A6 hm aE=>by
     rw[b2]at aE;cases aE;rcases hRm with hRm|⟨rfl,hle⟩
     ·rw[hRm]at hm;cases hm
     ·rw[BO]at hm;split at hm
      ·cases hm;exact⟨ob,tF,rfl,hle,agj⟩
      ·cases hm)
    (λm oa BP A6 hm ho=>by
     injection ho with L5 _ _
     subst L5;simp only[R',if_true]at hm;split at hm
     ·cases hm;exact agk
     ·cases hm)
    (λcs h=>by cases h) (λkt es h=>by cases h) (λ_ _ _ _ _ _=>rfl) LM hL
    (λhs=>⟨bE,es++fs,pE,agi,.inr ⟨id,ob,tF,Dd,b1,by rw[St.cV,if_pos rfl],S2,agk,by simp[R'],anR,λj x d hx hd=>by
     rw[Cj]at hd;have vX:=nD g2;by_cases hj:j<es.length*s
     ·rw[asd (by omega)]at hd;rw[agj j hj]at hx;exact((g9 j x d hx hd).wide (λh=>by simp[h])).mono hs.grow
     ·rw[asz (by omega),vX]at hd
      have zg:j- es.length*s<new.length:=by
       have:=(ar3.1 hd).1;rw[nD yy]at this;omega
      rw[show j=es.length*s+(j- es.length*s) by omega,anQ _ zg]at hx;exact((DP _ x d hx hd).wide (λh=>by simp[h])).mono hs.grow⟩⟩)
   exact⟨R',hJ,s,st,cut,c7||fr,z',es++fs,bf,pE,.inr ⟨id,ob,tF,Dd,Pw,b1,by rw[St.cV,if_pos rfl],by simp,asT _,ajS,λc hc=>⟨(Wk c hc).1,by simpa using(Wk c hc).2.1,by simpa using(Wk c hc).2.2⟩⟩⟩
  have Wl:(es++fs).length*s=es.length*s+fs.length*s:=by simp[asE]
  cases cap with
  |some c=>
   obtain⟨e1,e2,e3⟩:=b6 c rfl;by_cases sZ:es.length+fs.length<=c
   ·have arR:es.length*s+fs.length*s<=cs.length:=by
     have:(es.length+fs.length)*s<=c*s:=asx s sZ;rw[asE]at this;omega
    obtain⟨R',hJ,hV⟩:=Ky (dw cs (es.length*s) new) ay ay (.inr ⟨e1.symm,ar8 _⟩) (ar8 _)
     (λj hj=>by rw[mO (α:=IV) (by omega),if_neg (by omega)])
     (λj hj=>by rw[mO (α:=IV) (by omega),if_pos (by omega)];congr 1;omega)
     (by rw[tW (by omega)];omega) (xj g8 hnc) (aa c) (λh=>by cases h) (λc' xQ=>by cases xQ;exact⟨rfl,by rw[tW (by omega)];omega,by simpa using sZ⟩)
    refine⟨_,_,R',φ,?_,hJ,hV⟩;simp only[eD];rw[if_neg (by simp),if_neg kJ];simp only[b2,avu,au6,Nat.zero_add];rw[if_pos sZ,if_pos ⟨asT _,trivial,by rw[asE];omega⟩];rfl
   ·obtain⟨R',aL,hJ,hV⟩:=fresh _ NL ajR acX;refine⟨_,_,R',aL,?_,hJ,hV⟩;simp only[eD];rw[if_neg (by simp),if_neg kJ];simp only[avu];rw[if_neg sZ,yx (by simpa using hold) NL];rfl
  |none=>
   by_cases Px:es.length*s=cs.length
   ·obtain⟨R',hJ,hV⟩:=Ky (cs++new) (ay+1) mn (.inr ⟨rfl,by omega⟩) (by omega)
     (λj hj=>by rw[asd (by omega)])
     (λj hj=>by rw[asz (by omega)];congr 1;omega)
     (by rw[Wl,ass];omega) (by rw[avJ,g8,hnc];rfl) ah (λ_ _=>by rw[Wl,ass];omega) (λc h=>by cases h)
    refine⟨_,_,R',φ,?_,hJ,hV⟩;simp only[eD];rw[if_neg (by simp),if_neg kJ];simp only[b2,avu,au6];rw[if_pos ⟨asT _,trivial,trivial,Px⟩];rfl
   ·have Py:cut=ab:=by
     cases hc:cut with
     |true=>rfl
     |false=>exact absurd (b5 rfl hc) Px
    have ct:st=af:=by rw[Py]at qz;simpa using qz
    obtain⟨R',hJ,hV⟩:=Ky (cs.take (es.length*s)++new) (ay+1+1) (ay+1) (.inl (by rw[g7,ct];rfl)) (by omega)
     (λj hj=>by rw[asd (by omega),asD,if_pos hj])
     (λj hj=>by rw[asz (by omega),NL];congr 1;omega)
     (by rw[Wl,ass,NL];omega) (by rw[avJ,acX,hnc];rfl) ah (λ_ h=>by rw[Py]at h;cases h) (λc h=>by cases h)
    refine⟨.sl id 0 (es.length+fs.length) ah (ay+1+1) s,(σ.put id (.cells (cs.take (es.length*s)) (ay+1) (ay+1))).put id (.cells (cs.take (es.length*s)++new) (ay+1+1) (ay+1)),R',φ,?_,?_,?_⟩
    ·simp only[eD];rw[if_neg (by simp),if_neg kJ];simp only[b2,avu,au6];rw[if_neg (λhc=>Px hc.2.2.2),if_pos ⟨asT _,trivial,trivial,g6⟩];rfl
    ·rw[Tk h.wf];exact hJ
    ·rw[Tk h.wf];exact hV
end Go.Ev
namespace Go.Ev
variable{P:Program}{N:Nat}{σ ao:St}{R R':Rs}{φ aL:Ph}{E:Nat->Env}{ν:List IV}
variable{C:Cr}{Q:IV->Prop}{K:List (List IV->Prop)}{V:SS}{d:Nat}{o:Oper}{k:PV SE->SS->ak}{L:List (LO SE)}{Γ:Gm SE}
theorem fL(h:J (au P ν) R φ V.g V.l E σ)(d:Nat):∀(ops:List Operand) (ts:List TypeId),All2 (VR (au P ν) R φ V.l σ) (ops.map (ax (E d))) (ib P d V ops ts)
 |[],_=>trivial
 |x::xs,t::ts=>⟨bo h d t x,fL h d xs ts⟩
 |x::xs,[]=>⟨bo h d 0 x,fL h d xs []⟩
theorem kQ{α β:Type}{r:α->β->Prop}{as:List α}{b:β}(h:All2 r as [b]):∃a,as=[a]/\r a b:=by
 cases as with
 |nil=>exact h.elim
 |cons a as=>
  cases as with
  |nil=>exact⟨a,rfl,h.1⟩
  |cons a' as=>exact h.2.elim
theorem Hw{α β:Type}{r:α->β->Prop}{as:List α}{b c:β}(h:All2 r as [b,c]):∃a a',as=[a,a']/\r a b/\r a' c:=by
 cases as with
 |nil=>exact h.elim
 |cons a as=>
  obtain⟨a',rfl,h'⟩:=kQ h.2;exact⟨a,a',rfl,h.1,h'⟩
theorem Cl.yz{x:IV}{c:Cl SE}(h:cD (au P ν) R φ L σ x c):c.ok (·=L.length):=by
 cases c with
 |sr k=>obtain⟨_,_,_,_,_,_,h1,_⟩:=h;exactλhc=>by have:=c_ h1;omega
 |sv k lo=>obtain⟨_,_,_,_,_,_,_,_,h1,_⟩:=h;exactλhc=>by have:=c_ h1;omega
 |pr k i off ext=>obtain⟨_,_,_,_,_,_,_,_,_,_,_,_,h1,_⟩:=h;exactλhc=>by have:=c_ h1;omega
 |_=>trivial
theorem Ck{xs:List IV}{cs:List (Cl SE)}(h:All2 (cD (au P ν) R φ L σ) xs cs):∀c∈cs,c.ok (·=L.length):=by
 intro c hc;obtain⟨i,hi⟩:=atP hc;obtain⟨a,_,ha⟩:=h.Ak hi;exact Cl.yz ha
theorem PV.yz{x:IV}{pv:PV SE}(h:VR (au P ν) R φ L σ x pv):pv.ok (·=L.length):=by
 cases pv with
 |one c=>exact Cl.yz (c:=c) h
 |ag cs=>obtain⟨xs,_,h2⟩:=h;exact Ck h2
 |tu vs=>
  obtain⟨xs,_,h2⟩:=h;intro p hp c hc;obtain⟨i,hi⟩:=atP hp;obtain⟨a,_,ha⟩:=h2.Ak hi;unfold tq at ha;split at ha
  ·obtain⟨ys,_,h3⟩:=ha;exact Ck h3 c hc
  ·obtain⟨c',h3,h4⟩:=ha;rw[h3]at hc;simp at hc;subst hc;exact Cl.yz h4
theorem OR.yz{j:Nat}{ob:LO SE}(h:OR (au P ν) R φ L σ j ob):ob.ok (·=L.length):=by
 cases ob with
 |var cs=>obtain⟨_,_,_,_,_,h4⟩:=h;exact Ck h4
 |_=>trivial
theorem xD(h:J (au P ν) R φ Γ L E σ){j:Nat}(hj:L.length<=j):φ j=ah:=by
 cases hf:φ j with
 |none=>rfl
 |some id=>have:=(h.lt _ _ hf).1;omega
theorem J.A9(h:J (au P ν) R φ Γ L E σ){s:Nat}{fr:Bool}{z:SE}(hs:0<s)(hz:z.den P ν=aa (.tree s [])):ky (au P ν) (au P ν) R φ L σ R φ (L++[.row s af af fr z]) σ (λ_=>False)/\J (au P ν) R φ Γ (L++[.row s af af fr z]) E σ:=by
 have hL:∀j o,L[j]?=aa o->(L++[.row s af af fr z])[j]?=aa o:=λj o hj=>by rw[asd (c_ hj)];exact hj
 have hc:ky (au P ν) (au P ν) R φ L σ R φ (L++[.row s af af fr z]) σ (λ_=>False):=
  .mk' (λ_ _ h=>h) (iH.refl h.fits) (λj cs hj=>⟨⟨cs,hL j _ hj⟩,rfl⟩) (λj kt es hj=>⟨⟨es,hL j _ hj⟩,rfl⟩) (λj s st cut fr z hj _=>⟨⟨st,hL j _ hj⟩,rfl,λ_ _=>rfl⟩)
 refine⟨hc,{h with slot:=λd t pv hg=>(h.slot d t pv hg).step hc pv.a_,obj:=λj o hj=>?_,lt:=λj id hj=>by have:=h.lt j id hj;simp;omega}⟩;by_cases vP:j<L.length
 ·rw[asd vP]at hj;exact(h.obj j o hj).step hc rfl (λ_ _=>⟨rfl,rfl⟩) o.a_
 ·have:j=L.length:=by have:=c_ hj;simp at this;omega
  subst this;simp at hj;subst hj;exact⟨hs,[],hz,λe he=>(by cases he),.inl ⟨xD h (ar8 _),rfl⟩⟩
theorem Tl{s bytes:Nat}{e f:SE}{z:IV}(h:(SE.cat s bytes e f).den P ν=aa z):∃es fs,e.den P ν=aa (.tree s es)/\f.den P ν=aa (.tree s fs)/\0<s/\i_ s fs=ab/\(4*(es.length+fs.length)+4096)*bytes<=2 ^47/\es.length+fs.length<=2 ^40/\z=.tree s (es++fs):=by
 simp only[SE.den,aso]at h;obtain⟨a,h1,b,h2,h3⟩:=h;unfold j2 at h3;split at h3
 ·split at h3
  ·rename_i hc;obtain⟨rfl,rfl,c1,c2,c3,c4⟩:=hc;cases h3;exact⟨_,_,h1,h2,c1,c2,c3,c4,rfl⟩
  ·cases h3
 ·cases h3
theorem Wm{fr:Bool}{new ds:List IV}(h:pG ab R σ new ds)(hd:∀d∈ds,aA d=ab):pG af R σ new ds:=by
 intro j x e hx he;have hr:=hd e (ash he);have:=h j x e hx he;unfold aA at hr;split at hr
 ·rw[bZ this];exact .raw _
 ·cases hr
theorem Em(hJ:J (au P ν) R φ V.g V.l E σ){et:TypeId}{s:Nat}{base c:Cl SE}{fr raw:Bool}{es:SE}{x:IV}{fs:List IV}(ha:p8 P V et s base c=aa (fr,es,raw))(hx:cD (au P ν) R φ V.l σ x c)(gx:es.den P ν=aa (.tree s fs))(bE:0<s)(bp:i_ s fs=ab)
 (dO:raw=ab->(∃z,(SE.rws es).den P ν=aa z)):
 kG x=aa fs.length/\∃new,eL s fs.length σ x=aa new/\new.length=fs.length*s/\pG fr R σ new (flat fs)/\new.all Ev.aj=ab:=by
 cases c with
 |sr j=>
  simp only[p8]at ha;split at ha
  ·rename_i s' st cut c7 aF hj;split at ha
   ·rename_i hc;simp only[ar4,asK]at hc;simp only[ar6,asu]at ha;obtain⟨rfl,rfl,rfl⟩:=ha;obtain⟨rfl,_⟩:=hc;exact Pv hJ hj gx hx
   ·cases ha
  ·cases ha
 |nl b s'=>
  simp only[p8,ar6,asu]at ha;obtain⟨rfl,rfl,rfl⟩:=ha
  have:fs=[]:=by
   simp only[SE.den,asa]at gx;split at gx<;>cases gx;rfl
  subst this;obtain⟨_,rfl⟩:=hx;refine⟨by cases b<;>rfl,[],?_,by simp,λj x d h=>by simp at h,rfl⟩;cases b<;>simp[eL]
 |w f z=>
  simp only[p8,ar6,asu]at ha;obtain⟨rfl,rfl,rfl⟩:=ha;obtain⟨y,h1,h2,_⟩:=hx;have cZ:z.den P ν=aa y:=h1;rw[gx]at cZ;cases cZ;exact Kw bE h2 bp
 |v z=>
  obtain⟨y,h1,h2,_⟩:=hx;have cZ:z.den P ν=aa y:=h1;simp only[p8]at ha;split at ha
  ·simp only[ar6,asu]at ha;obtain⟨rfl,rfl,rfl⟩:=ha;rw[gx]at cZ;cases cZ;obtain⟨a1,new,a2,a3,a4,a5⟩:=Kw bE (h2.mono hJ.A7) bp;refine⟨a1,new,a2,a3,Wm (fr:=ab) a4 λe he=>?_,a5⟩;obtain⟨q,hq⟩:=dO rfl;simp only[SE.den,gx,asa]at hq;split at hq
   ·rename_i bz;rw[asl]at bz;obtain⟨el,oc,anS⟩:=aud.1 he;exact asl.1 (bz el oc) e anS
   ·cases hq
  ·simp only[ar6,asu]at ha;obtain⟨rfl,rfl,rfl⟩:=ha;rw[gx]at cZ;cases cZ;exact Kw bE (h2.mono hJ.A7) bp
 |un|pt|tp|tw|sv|pr|mp|fn=>simp[p8]at ha
theorem IX{d t k:Nat}{pv:PV SE}{g:Gm SE}(h:cy d t (Iv k g)=aa pv):pv.ok (·=k):=by
 obtain⟨q,_,rfl⟩:=D5 g h;exact q.mH k
variable(hJ:J (au P ν) R φ V.g V.l E σ)(hn:ν.length=V.n)
include hJ hn
theorem Wn{et:TypeId}{bytes s:Nat}{base c:Cl SE}{fr raw:Bool}{es:SE}{x0 x1:IV}(hb:cD (au P ν) R φ V.l σ x0 base)(hc:cD (au P ν) R φ V.l σ x1 c)(ha:p8 P V et s base c=aa (fr,es,raw))(dO:raw=ab->(∃z,(SE.rws es).den P ν=aa z))
 (hs:(AV bytes s base fr es V k).sat P C Q K ν):
 c8 P C Q K ν E V.ln k (λv aq=>∃m n new,kG x0=aa m/\kG x1=aa n/\eL s n σ x1=aa new/\new.length=n*s/\new.all Ev.aj=ab/\(4*(m+n)+4096)*bytes<=2 ^47/\m+n<=2 ^40/\eD 0 s m n new x0 σ=aa (.val v aq)):=by
 unfold AV at hs;split at hs
 ·rename_i b s';split at hs
  ·rename_i ir;have uP:=asb ir;subst uP;obtain⟨z,h1,h2,hv,bD,dJ⟩:=qi hJ hn hs;obtain⟨e0,fs,c1,c2,c3,c4,c5,c6,rfl⟩:=Tl h1
   have he0:e0=[]:=by
    simp only[SE.den,asa]at c1;split at c1<;>cases c1;rfl
   subst he0;obtain⟨a1,new,a2,a3,a4,a5⟩:=Em hJ ha hc c2 c3 c4 dO;obtain⟨_,iu⟩:=hb;have mV:(SE.tr s SE.an).den P (ν++[IV.tree s ([]++fs)])=aa (.tree s []):=by simp[SE.den,c3]
   obtain⟨pj,eU⟩:=bD.A9 (fr:=af) c3 mV;have jB:(V.l++[LO.row s af af af (SE.tr s SE.an)])[V.l.length]?=aa (.row s af af af (SE.tr s SE.an)):=by simp
   obtain⟨x',ao,R',aL,b1,b2,b3⟩:=IW eU (c7:=fr) (z':=.var V.n) (x:=x0) jB mV hv ⟨s,af,af,af,_,[],jB,mV,.inl ⟨xD hJ (ar8 _),rfl,by subst iu;cases b<;>simp⟩⟩
    a3 a4 a5 (As c4).1 rfl (λd t pv hg=>PV.yz (bD.slot d t pv hg)) (λj o hj aZ=>by
     have vP:j<V.l.length:=by have:=c_ hj;simp at this;omega
     rw[asd vP]at hj;exact OR.yz (bD.obj j o hj))
   have r7:(V.l++[LO.row s af af af (SE.tr s SE.an)]).set V.l.length (.row s af af (fr||af) (.var V.n))=V.l++[LO.row s af af fr (.var V.n)]:=by simp
   rw[r7]at b2 b3;refine⟨x',ao,R',aL,.one (.sr V.l.length),{V with n:=V.n+1,l:=V.l++[.row s af af fr (.var V.n)]},[.tree s ([]++fs)],⟨0,fs.length,new,by subst iu;cases b<;>rfl,a1,a2,a3,a5,c5,c6,b1⟩,b2,b3,dJ,rfl,h2⟩
  ·exact hs.elim
 ·rename_i j;split at hs
  ·rename_i s' st cut c7 aF hj;split at hs
   ·rename_i bP;simp only[ar4,asK,asR]at bP;obtain⟨rfl,qz⟩:=bP;obtain⟨z,h1,h2,hv,bD,dJ⟩:=qi hJ hn hs;obtain⟨e0,fs,c1,c2,c3,c4,c5,c6,rfl⟩:=Tl h1;obtain⟨a1,new,a2,a3,a4,a5⟩:=Em hJ ha hc c2 c3 c4 dO
    have hm:kG x0=aa e0.length:=by
     have:=Pv hJ hj c1 hb;exact this.1
    have cI:cD (au P (ν++[.tree s (e0++fs)])) R φ V.l σ x0 (.sr j):=by
     have hbv:VR (au P ν) R φ V.l σ x0 (.one (.sr j)):=hb;exact VR.up hJ hbv (λe z h=>SE.cU P e h)
    have eU:=bD.VE j;have Yj:(V.l.map (LO.drop j))[j]?=aa (.row s st cut c7 aF):=by simp[asi,hj,LO.drop]
    have fg:cD (au P (ν++[.tree s (e0++fs)])) R φ (V.l.map (LO.drop j)) σ x0 (.sr j):=cI.step (Hg bD j) (Cl.a_ _)
    obtain⟨x',ao,R',aL,b1,b2,b3⟩:=IW eU (c7:=fr) (z':=.var V.n) (x:=x0) Yj (SE.cU P aF c1) hv fg a3 a4 a5 (As c4).1 qz (λd t pv hg=>IX hg) (λi o hi aZ=>by
     rw[asi]at hi;obtain⟨o',_,rfl⟩:=ar9.1 hi;exact o'.mH j)
    refine⟨x',ao,R',aL,.one (.sr j),((({V with n:=V.n+1}:SS).sA j).setObj j (.row s st cut (fr||c7) (.var V.n))),[.tree s (e0++fs)],⟨e0.length,fs.length,new,hm,a1,a2,a3,a5,c5,c6,b1⟩,b2,b3,dJ,rfl,h2⟩
   ·exact hs.elim
  ·exact hs.elim
 ·exact hs.elim
end Go.Ev
namespace Go.Ev
variable{P:Program}{N:Nat}{σ ao:St}{R R':Rs}{φ aL:Ph}{E:Nat->Env}{ν:List IV}
variable{C:Cr}{Q:IV->Prop}{K:List (List IV->Prop)}{V:SS}{d:Nat}{o:Oper}{k:PV SE->SS->ak}{L:List (LO SE)}{Γ:Gm SE}
theorem oz{t et:TypeId}(h:elemOf P t=aa et):P.underlying t=aa (.slice et):=by
 unfold elemOf at h;split at h
 ·rename_i e he;cases h;exact he
 ·cases h
theorem FX{e:SE}{z:IV}(h:(SE.len e).den P ν=aa z):∃s es,e.den P ν=aa (.tree s es)/\z=.int es.length:=by
 simp only[SE.den,aso]at h;obtain⟨a,h1,h2⟩:=h;unfold IF at h2;split at h2
 ·cases h2;exact⟨_,_,h1,rfl⟩
 ·cases h2
theorem abe{e:SE}{z:IV}(h:(SE.rW e).den P ν=aa z):∃b,e.den P ν=aa (.raw (.string b))/\z=.int b.size:=by
 simp only[SE.den,aso]at h;obtain⟨a,h1,h2⟩:=h;unfold xC at h2;split at h2
 ·cases h2;exact⟨_,h1,rfl⟩
 ·cases h2
theorem aep{fr:Bool}{x:IV}{s:Nat}{es:List IV}{ts:Array TypeId}{el:TypeId}(hu:(ts[0]?).bind P.underlying=aa (.slice el))(h:bn fr R σ x (.tree s es)):oC P ts x σ=aa (.int es.length):=by
 generalize hz:IV.tree s es=z at h;cases h with
 |nil s' bt=>injection hz with a b;subst a b;simp[oC,hu]
 |emp s' bt=>injection hz with a b;subst a b;simp[oC,hu]
 |pure _ hf hp=>subst hz;simp[oC,hu]
 |sl id off len cap ep s' m cs ay mn aF hR aE a1 a2 bt hl hb hm bH hh=>injection hz with a b;subst a b hl;simp[oC,hu]
 |raw v=>cases hz
 |di=>cases hz
 |agg=>cases hz
 |az=>cases hz
variable(hJ:J (au P ν) R φ V.g V.l E σ)(hn:ν.length=V.n)
include hJ hn
theorem aeq{c:Call}(ho:o.op=.call c)(hc:c.callee=.builtin .len)(hs:(fI P d o V k).sat P C Q K ν):c8 P C Q K ν E V.ln k (bK P E d o σ):=by
 unfold fI at hs;rw[ho]at hs;simp only[hc]at hs;have br:=fL hJ d c.args.toList c.argTypes.toList;split at hs<;>first|(exact hs.elim)|(exact(‹aw3=aw3->False› rfl).elim)|skip
 all_goals first|(rename_i hb _;cases hb;done)|skip
 rename_i pv _ hh;rw[hh]at br;obtain⟨x,hx,hr⟩:=kQ br
 have eh:∀v,oC P c.argTypes x σ=aa v->av P 0 (ax (E d)) o σ=aa (.val v σ):=by
  intro v hv;simp[av,ho,hc,dB,hx,hv]
 split at hs
 ·rename_i hu
  have main:∀a:SE,(∀y,a.den P ν=aa y->bn ab R σ x y)->(vk (.rW a) V k).sat P C Q K ν->c8 P C Q K ν E V.ln k (bK P E d o σ):=by
   intro a ha hs;obtain⟨⟨z,hz⟩,hk⟩:=hs;obtain⟨b,h1,rfl⟩:=abe hz;have:=bZ (ha _ h1);exact .at (x:=.int b.size) hk hJ hn rfl ⟨_,hz,.raw _,rfl⟩ (eh _ (by simp[oC,hu,this]))
  split at hs
  ·rename_i z;obtain⟨y,h1,h2,_⟩:=hr;exact main z (λy' hy=>by have cZ:z.den P ν=aa y:=h1;rw[hy]at cZ;cases cZ;exact h2.mono hJ.A7) hs
  ·rename_i f z;obtain⟨y,h1,h2,_⟩:=hr;exact main z (λy' hy=>by have cZ:z.den P ν=aa y:=h1;rw[hy]at cZ;cases cZ;exact h2.cH) hs
  ·exact hs.elim
 ·rename_i el hu
  have main:∀a:SE,(∀y,a.den P ν=aa y->bn ab R σ x y)->(vk (.len a) V k).sat P C Q K ν->c8 P C Q K ν E V.ln k (bK P E d o σ):=by
   intro a ha hs;obtain⟨⟨z,hz⟩,hk⟩:=hs;obtain⟨s,es,h1,rfl⟩:=FX hz;exact .at (x:=.int es.length) hk hJ hn rfl ⟨_,hz,.raw _,rfl⟩ (eh _ (aep hu (ha _ h1)))
  split at hs
  ·rename_i z;obtain⟨y,h1,h2,_⟩:=hr;exact main z (λy' hy=>by have cZ:z.den P ν=aa y:=h1;rw[hy]at cZ;cases cZ;exact h2.mono hJ.A7) hs
  ·rename_i f z;obtain⟨y,h1,h2,_⟩:=hr;exact main z (λy' hy=>by have cZ:z.den P ν=aa y:=h1;rw[hy]at cZ;cases cZ;exact h2.cH) hs
  ·rename_i b s;obtain⟨_,h2⟩:=hr;exact .at (x:=.int 0) hs hJ hn rfl ⟨_,rfl,.raw _,rfl⟩ (eh _ (by subst h2;cases b<;>simp[oC,hu]))
  ·rename_i j;split at hs
   ·rename_i s st cut fr es hj;obtain⟨⟨z,hz⟩,hk⟩:=hs;obtain⟨s',aF,h1,rfl⟩:=FX hz
    have ir:s'=s:=by
     obtain⟨_,gS,g1,_⟩:=hJ.obj j _ hj;have na:es.den P ν=aa (.tree s gS):=g1;rw[h1]at na;cases na;rfl
    subst ir;obtain⟨hl,_⟩:=Pv hJ hj h1 hr;refine .at (x:=.int aF.length) hk hJ hn rfl ⟨_,hz,.raw _,rfl⟩ (eh _ ?_);obtain⟨s2,X8,abd,X9,z2,L4,a1,a2,a3⟩:=hr;rw[hj]at a1;cases a1;have sH:es.den P ν=aa (.tree s' L4):=a2;rw[h1]at sH;cases sH;rcases a3 with⟨_,b2,rfl|rfl⟩|⟨id,cs,ay,mn,cap,_,_,rfl,_⟩
    ·simp[oC,hu,b2]
    ·simp[oC,hu,b2]
    ·simp[oC,hu]
   ·exact hs.elim
  ·exact hs.elim
 ·rename_i kt0 et0 hu;split at hs<;>first|(exact hs.elim)|skip
  rename_i j;split at hs<;>first|(exact hs.elim)|skip
  rename_i kt iQ hj;split at hs
  ·exact hs.elim
  rename_i hk;have dW:¬gB kt=ab:=hk;obtain⟨⟨z,hz⟩,uo⟩:=hs;obtain⟨id,lL,gS,g1,g2,g3⟩:=hr;rw[hj]at g2;cases g2;rw[if_neg dW]at g3;have dz:=hJ.obj j _ hj;rw[gL,if_neg dW]at dz;obtain⟨bA,es,clock,ds,c1,c2,c3,c4,c5,c6⟩:=dz;rw[g1]at c2;cases c2;have kz:iQ.den P ν=aa (.az ds):=c1
  have IT:z=.int ds.length:=by
   simp only[SE.den,kz,asa,lX,if_true,ar6]at hz;exact hz.symm
  subst IT;have hlen:es.length=ds.length:=All2.len c5;exact .at (x:=.int es.length) uo hJ hn rfl ⟨_,hz,by rw[hlen];exact .raw _,rfl⟩ (eh _ (by subst g3;simp[oC,hu,c4]))
 ·exact hs.elim
omit hJ hn in
theorem agl{t:TypeId}{e:SE}(h:Fy P t=aa e):∃v,cw P t=aa v/\e.den P ν=aa (.raw v)/\v.cells= #[v]:=by
 unfold Fy at h;split at h<;>first|(cases h;exact⟨_,‹_›,rfl,rfl⟩)|cases h
theorem abf{c:Call}{x0 x1:IV}{t0 t1 et:TypeId}{base ca:Cl SE}(ho:o.op=.call c)(hc:c.callee=.builtin .append)(hx:c.args.toList.map (ax (E d))=[x0,x1])(Tn:c.argTypes[0]?=aa t0)(To:c.argTypes[1]?=aa t1)(het:elemOf P t0=aa et)
 (Ip:VR (au P ν) R φ V.l σ x0 (.one base))(qA:VR (au P ν) R φ V.l σ x1 (.one ca))(hs:(VP P et t1 base ca V k).sat P C Q K ν):c8 P C Q K ν E V.ln k (bK P E d o σ):=by
 unfold VP at hs;split at hs<;>first|(exact hs.elim)|skip
 rename_i qk s n x_;split at hs<;>first|(exact hs.elim)|skip
 rename_i s' z ze bytes aT vW Yd L6;split at hs<;>first|(exact hs.elim)|skip
 rename_i bP;simp only[ar4]at bP;obtain⟨⟨⟨⟨h1,h2⟩,h3⟩,h4⟩,h5⟩:=bP;have cZ:=asb h1;have zk:=asb h2;subst cZ zk;have IP:bytes<=1000000:=by simpa using h3
 obtain⟨v,e1,e2,e3⟩:=agl (ν:=ν) Yd;rw[vW]at e1;cases e1;obtain⟨y,hy,hk⟩:=hs;simp only[SE.den,aso]at hy;obtain⟨nv,n1,zv,n2,n3⟩:=hy;rw[e2]at n2;cases n2;obtain⟨y',y1,y2,_⟩:=qA;have L7:n.den P ν=aa y':=y1;rw[n1]at L7;cases L7
 obtain⟨q,m,rfl,m1,m2,hq,rfl⟩:∃q m,nv=.raw (.int q m)/\1<=m/\m<=1000000/\(q==IntKind.i64)=ab/\y=.tree 1 (asr m.toNat (.raw z)):=by
  unfold lX at n3;split at n3
  ·split at n3<;>cases n3
  ·rw[if_neg (λh=>absurd h.1 (by decide))]at n3;split at n3
   ·rename_i hh;cases n3;exact⟨_,_,rfl,hh.2.1,hh.2.2.1,hh.2.2.2.1,rfl⟩
   ·cases n3
  ·rw[if_neg (by decide)]at n3;cases n3
  ·cases n3
 have vS:q=.i64:=by simpa using hq
 subst vS;have qv:=bZ y2;obtain⟨_,iu⟩:=Ip;simp only[if_true]at iu
 have L8:gI (z.cells.toList.map .raw) (m.toNat*1)=asr m.toNat (.raw z):=by
  simp[gI,e3]
 have bp:Ev.aj (.raw z)=ab:=by simpa[e3]using h5
 have pH:(SE.var V.n).den P (ν++[.tree 1 (asr m.toNat (.raw z))])=aa (.tree 1 (asr m.toNat (.raw z))):=by simp[SE.den,<-hn]
 have bD:=hJ.up (ia:=au P (ν++[.tree 1 (asr m.toNat (.raw z))])) (λe y h=>SE.cU P e h)
 have eU:=bD.yf (.cells (asr m.toNat (.raw z)) 0 0) (.row 1 af af af (.var V.n)) ⟨by omega,_,pH,λe he=>(by rw[atg he];rfl),.inr ⟨σ.n,(asr m.toNat (.raw z)),0,0,by simp[bV],by simp,ar8 _,by simp,hJ.q6,asl.2 λx hx=>(by rw[atg hx];exact bp),λj x d hx hd=>by
  have il:=atg (ash hx)
  have vO:d=.raw z:=by
   have hm:=ash hd;unfold flat at hm;obtain⟨e,he,hde⟩:=aud.1 hm;rw[atg he]at hde;simpa[cellsOf]using hde
  rw[il,vO];exact .raw _⟩⟩
 refine⟨.sl σ.n 0 m.toNat ah 0 1,_,R,_,.one (.sr V.l.length),{V with n:=V.n+1,l:=V.l++[.row 1 af af af (.var V.n)]},[.tree 1 (asr m.toNat (.raw z))],?_,eU,
  ⟨1,af,af,af,_,_,by simp,pH,.inr ⟨σ.n,(asr m.toNat (.raw z)),0,0,ah,by simp[bV],by simp,by simp,asT _,λ_ _=>by simp,λc hc=>by cases hc⟩⟩,by simp[hn],rfl,hk⟩
 have C1:m.toNat≠0:=by omega
 simp only[bK,av,ho,hc,dB,hx,kE,Tn,To,oz het,x_,aT,vW,L6,sg,qv,iu];rw[if_neg (by simp[e3]),if_pos ⟨by omega,by omega⟩];simp only[kG];rw[L8];simp only[if_true]
 rw[if_pos ⟨by simp,asl.2 λx hx=>(by rw[atg hx];exact bp),by
    have:(4*(0+m.toNat)+4096)*bytes<=4004096*1000000:=Nat.mul_le_mul (by omega) IP;omega,by omega⟩]
 simp only[eD,fk,eL];simp[C1,ret]
theorem Wo{c:Call}(ho:o.op=.call c)(hc:c.callee=.builtin .append)(hs:(fI P d o V k).sat P C Q K ν):c8 P C Q K ν E V.ln k (bK P E d o σ):=by
 unfold fI at hs;rw[ho]at hs;simp only[hc]at hs;have br:=fL hJ d c.args.toList c.argTypes.toList;split at hs<;>first|(exact hs.elim)|(exact(‹awx=awx->False› rfl).elim)|skip
 all_goals first|(rename_i hb _;cases hb;done)|skip
 rename_i base ca _ hh;rw[hh]at br;obtain⟨x0,x1,hx,Ip,qA⟩:=Hw br;split at hs<;>first|(exact hs.elim)|skip
 rename_i t0 t1 Tn To;split at hs<;>first|(exact hs.elim)|skip
 rotate_left
 ·rename_i et het _;exact abf hJ hn ho hc hx Tn To het Ip qA hs
 rename_i et et1 het abg;split at hs<;>first|(exact hs.elim)|skip
 rename_i s z bytes aT vW L6;split at hs<;>first|(exact hs.elim)|skip
 rename_i bP
 have Yk:s≠0/\z.cells.size=s:=by
  simp only[asL,asR,not_or,avA,auS]at bP;refine⟨λh=>?_,asb bP.2⟩;have:=bP.1;subst h;simp at this
 split at hs<;>first|(exact hs.elim)|skip
 rename_i fr es raw abh
 have main:(raw=ab->∃z,(SE.rws es).den P ν=aa z)->(AV bytes s base fr es V k).sat P C Q K ν->c8 P C Q K ν E V.ln k (bK P E d o σ):=by
  intro dO hs;obtain⟨v,aq,R1,dA,pv,V1,μ,⟨m,n,new,h1,h2,h3,h4,h5,h6,h7,h8⟩,gg⟩:=Wn hJ hn Ip qA abh dO hs;refine⟨v,aq,R1,dA,pv,V1,μ,?_,gg⟩;simp only[bK,av,ho,hc,dB,hx,kE,Tn,To,oz het,oz abg,aT,vW,L6,sg,h2,h3,h1];rw[if_neg (by rintro(h|h);exact Yk.1 h;exact h Yk.2),if_pos ⟨h4,h5,h6,h7⟩,h8]
 split at hs
 ·rename_i hr;obtain⟨hz,hk⟩:=hs;exact main (λ_=>hz) hk
 ·rename_i hr;exact main (λh=>absurd h hr) hs
end Go.Ev
namespace Go.Ev
variable{P:Program}{N:Nat}{σ ao:St}{R R':Rs}{φ aL:Ph}{E:Nat->Env}{ν:List IV}
variable{C:Cr}{Q:IV->Prop}{K:List (List IV->Prop)}{V:SS}{d:Nat}{o:Oper}{k:PV SE->SS->ak}{L:List (LO SE)}{Γ:Gm SE}
theorem Cm(hJ:J (au P ν) R φ V.g V.l E σ){ty:Nat->TypeId}{place:Nat->Option (Nat×Nat)}:∀{parts:List (Nat×Operand)} {cells:List IV} {cs out:List (Cl SE)},All2 (cD (au P ν) R φ V.l σ) cells cs->
 nA (λj x=>ey (bN P d V (ty j) x)) place parts cs=aa out->∃gD,pZ place cells (parts.map λ(i,x)=>(i,ax (E d) x))=aa gD/\All2 (cD (au P ν) R φ V.l σ) gD out/\gD.length=cells.length/\(cells.all Ev.aj=ab->gD.all Ev.aj=ab)
 |[],cells,cs,out,h,hp=>by
  simp only[nA,ar6]at hp;subst hp;exact⟨cells,rfl,h,rfl,λh=>h⟩
 |(j,x)::ps,cells,cs,out,h,hp=>by
  simp only[nA]at hp;split at hp
  ·rename_i off sz nW;split at hp
   ·rename_i hc;simp only[ar4,asK,atJ]at hc;obtain⟨⟨c1,c2⟩,c3⟩:=hc;have gZ:=zy (bo hJ d (ty j) x) c1;have bp:=p_ gZ c1;have hl:=gZ.len;have lD:=h.len;obtain⟨gD,h1,h2,h3,h4⟩:=Cm hJ (LV off h gZ) hp;refine⟨gD,?_,h2,by rw[h3,tW (by omega)],λha=>h4 (xj ha bp)⟩;simp only[asZ,pZ,nW];rw[if_pos ⟨by omega,by omega,bp⟩];exact h1
   ·cases hp
  ·cases hp
theorem Cn{zero:List IV}{s:Nat}(hl:zero.length=s)(hs:0<s)(n:Nat):gI zero (n*s)=(asr n zero).flatten:=by
 unfold gI;split
 ·rename_i z;simp at hl;subst hl;rw[Nat.mul_one];induction n with
  |zero=>rfl
  |succ n ih=>simp[aug]
 ·rw[hl,Nat.mul_div_cancel _ hs]
theorem L9{zero:List IV}{zc:List (Cl SE)}(h:All2 (cD (au P ν) R φ L σ) zero zc):∀n,All2 (cD (au P ν) R φ L σ) (asr n zero).flatten (OZ zc n)
 |0=>trivial
 |n+1=>by
  rw[aug,auz];exact h.app (L9 h n)
theorem vy{zero:List IV}{s:Nat}(hl:zero.length=s):∀n,(asr n zero).flatten.length=n*s
 |0=>by simp
 |n+1=>by rw[aug,auz,ass,vy hl n,hl,asE];omega
theorem Yl{z:SE}(h:Iz z=ab){y:IV}(hy:z.den P ν=aa y):aA y=ab:=by
 cases z<;>simp[Iz]at h<;>(simp only[SE.den,ar6]at hy;subst hy;rfl)
theorem agm{V':SS}{c:Cl SE}{t:TypeId}{fr:Bool}{z:SE}{sU:List SE}(h:J (au P ν) R φ V.g V.l E σ)(hr:rdT P V c t=aa (fr,z,V',sU)):
 ∃R',ji P ν R φ V σ R' V'/\J (au P ν) R' φ V'.g V'.l E σ/\∀x,cD (au P ν) R φ V.l σ x c->∃y,z.den P ν=aa y/\bn ab R' σ x y/\Ev.aj y=ab/\((∀e∈sU,∃q,(SE.rw e).den P ν=aa q)->bn fr R' σ x y):=by
 unfold rdT at hr;split at hr
 ·rename_i z';have Vv:=Ei (c:=.v z') h rfl;obtain⟨R',h1,h2,h3⟩:=Vv;split at hr
  ·simp only[ar6,asu]at hr;obtain⟨rfl,rfl,rfl,rfl⟩:=hr;refine⟨R',h1,h2,λx hx=>?_⟩;obtain⟨y,a1,a2,a3⟩:=h3 x hx;refine⟨y,a1,a2,a3,λdO=>?_⟩
   have hy:aA y=ab:=by
    by_cases hl:Iz z'=ab
    ·exact Yl hl a1
    ·rw[if_neg hl]at dO;obtain⟨q,hq⟩:=dO z' (by simp);simp only[SE.den,a1,asa]at hq;split at hq
     ·assumption
     ·cases hq
   unfold aA at hy;split at hy
   ·rw[bZ a2];exact .raw _
   ·cases hy
  ·simp only[ar6,asu]at hr;obtain⟨rfl,rfl,rfl,rfl⟩:=hr;refine⟨R',h1,h2,λx hx=>?_⟩;obtain⟨y,a1,a2,a3⟩:=h3 x hx;exact⟨y,a1,a2,a3,λ_=>a2⟩
 ·split at hr
  ·rename_i c7 z' V1 jC;simp only[ar6,asu]at hr;obtain⟨rfl,rfl,rfl,rfl⟩:=hr;obtain⟨R',h1,h2,h3⟩:=Ei h jC;refine⟨R',h1,h2,λx hx=>?_⟩;obtain⟨y,a1,a2,a3⟩:=h3 x hx;exact⟨y,a1,a2.cH,a3,λ_=>a2⟩
  ·cases hr
theorem Tp:∀{cs:List (Cl SE)} {ts:List TypeId} {V V':SS} {R:Rs} {fr:Bool} {zs sU:List SE},J (au P ν) R φ V.g V.l E σ->Kj P V cs ts=aa (fr,zs,V',sU)->
 ∃R',ji P ν R φ V σ R' V'/\J (au P ν) R' φ V'.g V'.l E σ/\zs.length=cs.length/\∀xs,All2 (cD (au P ν) R φ V.l σ) xs cs->∃ys,All2 (λ(z:SE) y=>z.den P ν=aa y) zs ys/\All2 (bn ab R' σ) xs ys/\ys.all Ev.aj=ab/\
  ((∀e∈sU,∃q,(SE.rw e).den P ν=aa q)->All2 (bn fr R' σ) xs ys)
 |[],_,V,V',R,fr,zs,sU,h,hr=>by
  simp only[Kj,ar6,asu]at hr;obtain⟨rfl,rfl,rfl,rfl⟩:=hr;refine⟨R,.refl h,h,rfl,λxs hx=>⟨[],trivial,?_,rfl,λ_=>?_⟩⟩<;>
  ·cases xs with
   |nil=>trivial
   |cons=>exact hx.elim
 |c::cs,[],V,V',R,fr,zs,sU,h,hr=>by simp[Kj]at hr
 |c::cs,t::ts,V,V',R,fr,zs,sU,h,hr=>by
  simp only[Kj]at hr;split at hr
  ·rename_i f1 z V1 r1 h1;split at hr
   ·rename_i f2 zs' V2 r2 h2;simp only[ar6,asu]at hr;obtain⟨rfl,rfl,rfl,rfl⟩:=hr;obtain⟨R1,a1,a2,a3⟩:=agm h h1;obtain⟨R2,b1,b2,bl,b3⟩:=Tp a2 h2;refine⟨R2,a1.trans b1,b2,by simp[bl],λxs hx=>?_⟩;cases xs with
    |nil=>exact hx.elim
    |cons x xs=>
     obtain⟨y,c1,c2,c3,c4⟩:=a3 x hx.1;obtain⟨ys,d1,d2,d3,d4⟩:=b3 xs (hx.2.mono λ_ _ bR=>a1.LQ bR);refine⟨y::ys,⟨c1,d1⟩,⟨c2.mono b1.2.2.2.grow,d2⟩,by simp[c3,d3],λdO=>⟨((c4 λe he=>dO e (by simp[he])).mono b1.2.2.2.grow).wide (λh=>by simp[h]),(d4 λe he=>dO e (by simp[he])).mono λ_ _ bR=>bR.wide (λh=>by simp[h])⟩⟩
   ·cases hr
  ·cases hr
theorem L_{f:ak}:∀{es:List SE},(VK es f).sat P C Q K ν->(∀e∈es,∃q,(SE.rw e).den P ν=aa q)/\f.sat P C Q K ν
 |[],h=>⟨λe he=>(by cases he),h⟩
 |e::es,h=>by
  obtain⟨h1,h2⟩:=h;obtain⟨h3,h4⟩:=L_ h2;exact⟨λx hx=>(by rcases asS.1 hx with rfl|hx;exact h1;exact h3 x hx),h4⟩
theorem Ma{s:Nat}:∀(n:Nat) {zs:List SE} {ys:List IV},All2 (λ(z:SE) y=>z.den P ν=aa y) zs ys->ys.length=n*s->∃es:List IV,All2 (λ(z:SE) y=>z.den P ν=aa y) (yl s n zs) es/\es.length=n/\(∀e∈es,(cellsOf e).length=s)/\flat es=ys
 |0,zs,ys,h,hl=>by
  have:ys=[]:=asF (by simpa using hl);subst this;exact⟨[],trivial,rfl,λe he=>(by cases he),rfl⟩
 |n+1,zs,ys,h,hl=>by
  rw[asE,Nat.one_mul]at hl;obtain⟨es,h1,h2,h3,h4⟩:=Ma (s:=s) n (h.drop s) (by simp;omega);refine⟨.agg (ys.take s)::es,⟨eB (h.take s),h1⟩,by simp[h2],λe he=>?_,?_⟩
  ·rcases asS.1 he with rfl|he
   ·simp[cellsOf];omega
   ·exact h3 e he
  ·show cellsOf (.agg (ys.take s))++flat es=ys;rw[h4];exact List.take_append_drop s ys
theorem Mb:∀{ys:List IV},ys.all Ev.aj=ab->(∀e∈ys,(cellsOf e).length=1)/\flat ys=ys
 |[],_=>⟨λe he=>(by cases he),rfl⟩
 |y::ys,h=>by
  simp only[List.all_cons,ar4]at h;obtain⟨h1,h2⟩:=Mb h.2;refine⟨λe he=>?_,?_⟩
  ·rcases asS.1 he with rfl|he
   ·rw[Ar h.1];rfl
   ·exact h1 e he
  ·show cellsOf y++flat ys=y::ys;rw[h2,Ar h.1];rfl
variable(hJ:J (au P ν) R φ V.g V.l E σ)(hn:ν.length=V.n)
include hJ hn
theorem Ym{t:TypeId}{parts:Array (Nat×Operand)}(ho:o.op=.build t parts)(hs:(fI P d o V k).sat P C Q K ν):c8 P C Q K ν E V.ln k (bK P E d o σ):=by
 unfold fI at hs;rw[ho]at hs;simp only at hs;split at hs
 ·rename_i fields hu;split at hs
  ·exact hs.elim
  ·rename_i hc;simp only[asL,asR,not_or,avA,auS]at hc;split at hs
   ·rename_i cs hp;cases hz:cw P t with
    |none=>rw[hz]at hc;simp at hc
    |some z=>
     obtain⟨gD,h1,h2,_⟩:=Cm (ty:=af4 fields) hJ (mL (P:=P) (ν:=ν) (R:=R) (φ:=φ) (L:=V.l) (σ:=σ) hz) hp;refine .here (x:=.agg gD) (pv:=.ag cs) (aq:=σ) ?_ hJ ⟨_,rfl,h2⟩ hn rfl hs;have cZ:pZ (λi=>(fields[i]?).bind λf=>(aN P f.type).map λs=>(f.offset,s)) (z.cells.toList.map IV.raw) (parts.toList.map λ(i,x)=>(i,ax (E d) x))=aa gD:=h1;simp only[bK,av,ho,hz,hu,cZ,hc.1,ret,if_true]
   ·exact hs.elim
 ·rename_i len et hu;split at hs
  ·rename_i s aT;split at hs
   ·exact hs.elim
   ·rename_i hc;split at hs
    ·rename_i cs hp;cases hz:cw P t with
     |none=>rw[hz]at hc;simp at hc
     |some z=>
      obtain⟨gD,h1,h2,_⟩:=Cm (ty:=λ_=>et) hJ (mL (P:=P) (ν:=ν) (R:=R) (φ:=φ) (L:=V.l) (σ:=σ) hz) hp;refine .here (x:=.agg gD) (pv:=.ag cs) (aq:=σ) ?_ hJ ⟨_,rfl,h2⟩ hn rfl hs;have cZ:pZ (λi=>aa (i*s,s)) (z.cells.toList.map IV.raw) (parts.toList.map λ(i,x)=>(i,ax (E d) x))=aa gD:=h1;simp only[bK,av,ho,hz,hu,aT,cZ,ret]
    ·exact hs.elim
  ·exact hs.elim
 ·exact hs.elim
theorem KA{t:TypeId}{len:Nat}{parts:Array (Nat×Operand)}(ho:o.op=.buildSlice t len parts)(hs:(fI P d o V k).sat P C Q K ν):c8 P C Q K ν E V.ln k (bK P E d o σ):=by
 unfold fI at hs;rw[ho]at hs;simp only at hs;split at hs<;>first|(exact hs.elim)|skip
 rename_i et het;have hu:=oz het;split at hs<;>first|(exact hs.elim)|skip
 rename_i s z aT hz;split at hs<;>first|(exact hs.elim)|skip
 rename_i hc;simp only[asL,asR,not_or,avA,auS,atJ]at hc;obtain⟨⟨c1,c2⟩,c3⟩:=hc;have bE:s≠0:=by intro h;subst h;simp at c1
 have sj:z.cells.size=s:=asb c2;have Tj:(z.cells.toList.map IV.raw).length=s:=by simp[sj]
 split at hs
 ·rename_i jn;have abi:=asb jn;subst abi;split at hs
  ·rename_i DT;have anT:parts.toList=[]:=by simpa using DT
   refine .at (x:=.emp) hs hJ hn rfl ⟨by omega,rfl⟩ ?_
   have L8:gI (z.cells.toList.map IV.raw) 0=[]:=by
    have:=Cn Tj (by omega) 0;simpa using this
   simp only[bK,av,ho,hu,aT,hz,anT,auA,pZ,au6,L8];rw[if_neg (by rintro(h|h|h);exact bE h;exact h sj;simp at h)];simp[ret]
  ·exact hs.elim
 ·rename_i jn;have abi:len≠0:=by intro h;subst h;simp at jn
  split at hs<;>first|(exact hs.elim)|skip
  rename_i cs hp;split at hs<;>first|(exact hs.elim)|skip
  rename_i fr zs V2 rws jC;split at hs<;>first|(exact hs.elim)|skip
  rename_i Dg;obtain⟨dO,hk⟩:=L_ hs;have Pz:=L9 (mL (P:=P) (ν:=ν) (R:=R) (φ:=φ) (L:=V.l) (σ:=σ) hz) len;obtain⟨gD,h1,h2,h3,h4⟩:=Cm (ty:=λ_=>et) hJ Pz hp;obtain⟨R',ct,eU,arS,Hv⟩:=Tp hJ jC;obtain⟨ys,b1,b2,b3,b4⟩:=Hv _ h2;have dV:gD.length=len*s:=by rw[h3,vy Tj]
  have GJ:ys.length=len*s:=by rw[<-b2.len,dV]
  have wo:gD.all Ev.aj=ab:=by
   rw[asl];intro c hc;obtain⟨i,hi⟩:=atP hc;have ai:i<ys.length:=by rw[<-b2.len];exact(ar3.1 hi).1
   exact(b2.get hi (ar2 ai)).aj (asl.1 b3 _ (List.getElem_mem ai))
  obtain⟨es,gx,ago,agp,anU⟩:∃es:List IV,(dT (if isAgg P et=ab then yl s len zs else zs)).den P ν=aa (.agg es)/\es.length=len/\(∀e∈es,(cellsOf e).length=s)/\flat es=ys:=by
   by_cases ha:isAgg P et=ab
   ·rw[if_pos ha];obtain⟨es,e1,e2,e3,e4⟩:=Ma (s:=s) len b1 GJ;exact⟨es,eB e1,e2,e3,e4⟩
   ·rw[if_neg ha]
    have dC:s=1:=by
     simp only[asR,Bool.or_eq_false_iff,not_and,auS]at Dg;exact asb (Dg (by simpa using ha))
    subst dC;obtain⟨e1,e2⟩:=Mb b3;exact⟨ys,eB b1,by omega,e1,e2⟩
  have hcr:pG fr R' σ gD (flat es):=by
   rw[anU];intro j x y hx hy;cases fr with
   |true=>exact b2.get hx hy
   |false=>exact(b4 dO).get hx hy
  have pH:(SE.tr s (dT (if isAgg P et=ab then yl s len zs else zs))).den P ν=aa (.tree s es):=by
   simp only[SE.den,gx,asa];rw[if_pos ⟨by omega,by rw[asl];intro e he;simp[agp e he]⟩]
  have xX:ν.length=V2.n:=by rw[hn];exact ct.2.1.symm
  have ux:=eU.yf (.cells gD 0 0) (.row s af af fr (.tr s (dT (if isAgg P et then yl s len zs else zs))))
   ⟨by omega,es,pH,agp,.inr ⟨σ.n,gD,0,0,by simp[bV],by simp,ar8 _,by rw[dV,ago];exact ar8 _,eU.q6,wo,λj x y hx hy=>(hcr j x y hx hy).mono (LL eU _)⟩⟩
  refine .at (x:=.sl σ.n 0 len (aa len) 0 s) (V1:={V2 with l:=V2.l++[.row s af af fr (.tr s (dT (if isAgg P et then yl s len zs else zs)))]}) hk ux xX ct.2.2.1
   ⟨s,af,af,fr,_,es,by simp,pH,.inr ⟨σ.n,gD,0,0,aa len,by simp[bV],by simp,by simp[ago],asT _,λh=>(by cases h),λc hc=>(by cases hc;exact⟨rfl,by omega,by omega⟩)⟩⟩ ?_
  have cZ:pZ (λi=>aa (i*s,s)) (asr len (z.cells.toList.map IV.raw)).flatten (parts.toList.map λ(i,x)=>(i,ax (E d) x))=aa gD:=h1;simp only[bK,av,ho,hu,aT,hz,Cn Tj (by omega),cZ,ret];rw[if_neg (by rintro(h|h|h);exact bE h;exact h sj;omega),if_pos ⟨dV,wo⟩,if_neg abi]
end Go.Ev
namespace Go.Ev
variable{P:Program}{N:Nat}{σ ao:St}{R R':Rs}{φ aL:Ph}{E:Nat->Env}{ν:List IV}
variable{C:Cr}{Q:IV->Prop}{K:List (List IV->Prop)}{V:SS}{d:Nat}{o:Oper}{k:PV SE->SS->ak}{L:List (LO SE)}{Γ:Gm SE}
variable(hJ:J (au P ν) R φ V.g V.l E σ)(hn:ν.length=V.n)
include hJ
theorem Tq:∀{xs:List Operand} {bs:List (Nat×Nat)},OY P d V xs=aa bs->All2 (λy (p:Nat×Nat)=>∃id cs,φ p.1=aa id/\V.l[p.1]?=aa (.var cs)/\y=.ptr id 0 0 p.2) (xs.map (ax (E d))) bs
 |[],bs,h=>by
  simp only[OY,ar6]at h;subst h;trivial
 |x::xs,bs,h=>by
  simp only[OY]at h;split at h
  ·rename_i j ext hx;split at h
   ·rename_i l hl;simp only[ar6]at h;subst h;have hv:=bo hJ d 0 x;rw[hx]at hv;exact⟨hv,Tq hl⟩
   ·cases h
  ·cases h
include hn
theorem PA{f:FuncId}{first cap:Array Operand}(ho:o.op=.makeFunc (.func f) first cap)(hs:(f_ P d o V k).sat P C Q K ν):c8 P C Q K ν E V.ln k (bK P E d o σ):=by
 unfold f_ at hs;rw[ho]at hs;simp only at hs;split at hs
 ·rename_i hf;split at hs
  ·rename_i bs hb;refine .at (x:=.fn (.func f) [] (cap.toList.map (ax (E d)))) hs hJ hn rfl (.inr ⟨_,rfl,Tq hJ hb⟩) ?_;simp only[List.isEmpty_iff]at hf;simp[bK,av,ho,ret,hf]
  ·exact hs.elim
 ·exact hs.elim
theorem SB{t:TypeId}{r:Option Operand}(ho:o.op=.makeMap t r)(hs:(f_ P d o V k).sat P C Q K ν):c8 P C Q K ν E V.ln k (bK P E d o σ):=by
 unfold f_ at hs;rw[ho]at hs;simp only at hs;split at hs
 ·rename_i kt et hu;split at hs
  ·exact hs.elim
  rename_i dW;have dW:¬gB kt=ab:=dW;have h1:=hJ.yf (.map [] 0) (.mp kt (.tp .an)) (by rw[gL,if_neg dW];exact⟨σ.n,[],0,[],by simp[au,SE.den],by simp[bV],hJ.q6,by simp,trivial,rfl,λi e h=>by simp at h⟩);refine .at (x:=.map σ.n) (V1:={V with l:=V.l++[.mp kt (.tp .an)]}) hs h1 hn rfl ⟨σ.n,kt,SE.tp .an,by simp[bV],by simp,(if_neg dW).symm⟩ ?_;simp[bK,av,ho,ret]
 ·exact hs.elim
end Go.Ev
namespace Go.Ev
variable{P:Program}{N:Nat}{σ ao:St}{R R':Rs}{φ aL:Ph}{E:Nat->Env}{ν:List IV}
variable{C:Cr}{Q:IV->Prop}{K:List (List IV->Prop)}{V:SS}{d:Nat}{o:Oper}{k:PV SE->SS->ak}{L:List (LO SE)}{Γ:Gm SE}
theorem yA:∀{cs:List IV} {vs:List Value},uK cs=aa vs->cs=vs.map .raw
 |[],vs,h=>by simp only[uK,ar6]at h;subst h;rfl
 |c::cs,vs,h=>by
  unfold uK at h;split at h<;>first|(cases h;done)|skip
  all_goals
   obtain⟨ws,h1,rfl⟩:=ar9.1 h;rw[yA h1];rfl
theorem yB:∀vs:List Value,gl (vs.map .raw)=aa vs
 |[]=>rfl
 |v::vs=>by simp only[asZ,gl,yB vs]
theorem En{x:IV}{v:Value}(h:keyOf x=aa v):iG x=aa v/\lift v=x:=by
 unfold keyOf at h;split at h<;>first|(cases h;exact⟨rfl,rfl⟩)|(cases h;done)|skip
 rename_i cs;obtain⟨vs,h1,rfl⟩:=ar9.1 h;have:=yA h1;subst this;refine⟨?_,by simp[lift]⟩;simp only[iG,pd,yB]
theorem Co{fr:Bool}{x:IV}{cs:List IV}(h:bn fr R σ x (.agg cs)):∃xs,x=.agg xs/\All2 (bn fr R σ) xs cs:=by
 cases h with
 |agg qt _ hl hh=>exact⟨qt,rfl,.mk hl hh⟩
 |pure _ hf hp=>
  refine⟨cs,rfl,.mk rfl λi a b h1 h2=>?_⟩;rw[h1]at h2;cases h2;cases hp with
  |agg _ hh=>exact .pure a hf (hh a (ash h1))
theorem Eo{fr:Bool}{x u:IV}{v:Value}(h:keyOf x=aa v)(hc:bn fr R σ u x):u=x:=by
 unfold keyOf at h;split at h<;>first|(exact bZ hc)|(cases h;done)|skip
 rename_i cs;obtain⟨vs,h1,rfl⟩:=ar9.1 h;have:=yA h1;subst this;obtain⟨xs,rfl,iR⟩:=Co hc
 congr 1
 apply List.ext_getElem?;intro i;cases hi:xs[i]? with
 |none=>
  have:(vs.map IV.raw)[i]?=ah:=by
   rw[List.getElem?_eq_none_iff]at hi⊢;rw[<-iR.len];exact hi
  rw[this]
 |some a=>
  have ai:=(ar3.1 hi).1;rw[iR.len]at ai;have hb:=ar2 ai;have:=iR.get hi hb;rw[hb];simp only[List.getElem_map]at this⊢;rw[bZ this]
theorem abj{u v:Value}(h:keyOf (lift u)=aa v):u=v:=by
 obtain⟨h1,_⟩:=En h;unfold lift at h1;split at h1
 ·rename_i cs;simp only[iG,pd,yB,ar6]at h1;rw[<-h1]
 ·cases h1;rfl
theorem Ts{es:List (Value×IV×Nat)}{ds:List IV}{ks:List Value}(he:zo R σ es ds)(h:n_ ds=aa ks):es.map (·.1)=ks:=by
 unfold zo at he;induction ds generalizing es ks with
 |nil=>
  cases es with
  |nil=>simp only[n_,ar6]at h;subst h;rfl
  |cons=>exact he.elim
 |cons d ds ih=>
  cases es with
  |nil=>exact he.elim
  |cons e es=>
   obtain⟨⟨z,rfl,_⟩,h2⟩:=he;simp only[n_]at h;split at h
   ·rename_i v vs h3 h4;simp only[ar6]at h;subst h;simp only[asZ,abj h3,ih h2 h4]
   ·cases h
theorem IY{kd:TypeDesc}{key:Value}:∀{es:List (Value×IV×Nat)} {n:Nat} {q:Option Nat},nowAt kd key (es.map (·.1)) n=aa q->
 ∃r,atf kd key (es.map λe=>{key:=e.1,val:=asQ,born:=e.2.2}) n=aa r/\(q=ah->r=ah)/\(∀j,q=aa j->(∃v,r=aa (j,v))/\n<=j/\∃e,es[j- n]?=aa e/\avb kd key e.1=aa ab)
 |[],n,q,h=>by
  simp only[auA,nowAt,ar6]at h;subst h;exact⟨ah,rfl,λ_=>rfl,λj hj=>by cases hj⟩
 |e::es,n,q,h=>by
  simp only[asZ,nowAt]at h;simp only[asZ,atf];split at h
  ·rename_i hs;simp only[ar6]at h;subst h;refine⟨aa (n,asQ),by rw[hs],(λh=>by cases h),λj hj=>?_⟩;cases hj;exact⟨⟨_,rfl⟩,ar8 _,e,by simp,hs⟩
  ·rename_i hs;obtain⟨r,h1,h2,h3⟩:=IY h;refine⟨r,by rw[hs];exact h1,h2,λj hj=>?_⟩;obtain⟨h4,h5,e',h6,h7⟩:=h3 j hj;refine⟨h4,by omega,e',?_,h7⟩;rw[show j- n=(j-(n+1))+1 by omega];simpa using h6
  ·cases h
theorem run_underlying{t:TypeId}{kd:TypeDesc}(h:P.underlying t=aa kd):aS P (underlying t)=aa kd:=by
 unfold underlying;rw[bx];show(aS P (.program λp=>.pure p)).bind _=_;simp only[aS,asa,h];rfl
theorem Dh{kd:TypeDesc}{k:Value}:∀(es aF:List MapEntry) (n:Nat),es.map (λe=>(e.key,e.val))=aF.map (λe=>(e.key,e.val))->atf kd k es n=atf kd k aF n
 |[],[],_,_=>rfl
 |[],e'::aF,_,h=>by simp at h
 |e::es,[],_,h=>by simp at h
 |e::es,e'::aF,n,h=>by
  simp only[asZ,as4,asu]at h;simp only[atf];rw[h.1.1,h.1.2,Dh es aF (n+1) h.2]
theorem yC{kt:TypeId}{k:Value}:∀(es aF:List MapEntry) (n:Nat),es.map (λe=>(e.key,e.val))=aF.map (λe=>(e.key,e.val))->as0 kt k es n=as0 kt k aF n
 |[],[],_,_=>rfl
 |[],e'::aF,_,h=>by simp at h
 |e::es,[],_,h=>by simp at h
 |e::es,e'::aF,n,h=>by
  simp only[asZ,as4,asu]at h;simp only[as0];rw[h.1.1,h.1.2,yC es aF (n+1) h.2]
theorem Wp{b:Bool}{kt:TypeId}{k:Value}{es aF:List (Value×IV×Nat)}(h:es.map (·.1)=aF.map (·.1)):gT P b kt k es=gT P b kt k aF:=by
 have hm:(es.map λe=>({key:=e.1,val:=asQ,born:=e.2.2}:MapEntry)).map (λe=>(e.key,e.val))=(aF.map λe=>({key:=e.1,val:=asQ,born:=e.2.2}:MapEntry)).map (λe=>(e.key,e.val)):=by
  simp only[auP]
  have:∀l:List (Value×IV×Nat),l.map ((λe:MapEntry=>(e.key,e.val))∘λe=>({key:=e.1,val:=asQ,born:=e.2.2}:MapEntry))=(l.map (·.1)).map λk=>(k,asQ):=λl=>by
   rw[auP];rfl
  rw[this,this,h]
 unfold gT
 have hf:atx kt k (es.map λe=>{key:=e.1,val:=asQ,born:=e.2.2})=atx kt k (aF.map λe=>{key:=e.1,val:=asQ,born:=e.2.2}):=by
  unfold atx
  congr 1
  funext d;rw[Dh _ _ 0 hm,yC _ _ 0 hm]
 rw[hf]
theorem vY{kt:TypeId}{ds:List IV}{x:IV}{q:Option Nat}{es:List (Value×IV×Nat)}(he:zo R σ es ds)(h:fi P kt ds x=aa q)(b:Bool):
 ∃key,keyOf x=aa key/\iG x=aa key/\lift key=x/\gT P b kt key es=aa q/\∀j,q=aa j->∃e,es[j]?=aa e/\auJ 10000 e.1 key=ab:=by
 unfold fi at h;split at h
 ·rename_i kd ks key hk eb mE;have h1:=mE;obtain⟨h2,h3⟩:=En mE;have gx:=Ts he eb;rw[<-gx]at h;obtain⟨r,g1,g2,g3⟩:=IY h;refine⟨key,h1,h2,h3,?_,λj hj=>?_⟩
  ·have hu:P.underlying kt=aa kd/\((∃q,kd=.int q)\/kd=.string):=by
    unfold FG at hk;split at hk
    ·rename_i q hq;cases hk;exact⟨hq,.inl ⟨_,rfl⟩⟩
    ·rename_i hq;cases hk;exact⟨hq,.inr rfl⟩
    ·cases hk
   have hck:aS P (avO b 10000 kt key)=aa ():=by
    show aS P (avO b (9999+1) kt key)=aa ();unfold avO;rw[bx,run_underlying hu.1,asa];rcases hu.2 with⟨q,rfl⟩|rfl<;>rfl
   have Tt:aS P (atx kt key (es.map λe=>{key:=e.1,val:=asQ,born:=e.2.2}))=aa r:=by
    unfold atx;rw[bx,run_underlying hu.1,asa,g1];rfl
   unfold gT;rw[bx,hck,asa,Tt];cases q with
   |none=>rw[g2 rfl]
   |some j=>obtain⟨⟨v,rfl⟩,_⟩:=g3 j rfl;rfl
  ·obtain⟨_,_,e,g4,g5⟩:=g3 j hj;refine⟨e,by simpa using g4,?_⟩;unfold avb at g5;split at g5
   ·rename_i hh;split at g5
    ·rename_i hq;simp only[ar6]at g5;rw[‹e.1=_›];simp[auJ,hq,eq_of_beq g5]
    ·cases g5
   ·rename_i a b mh;rw[mh];simp only[ar6]at g5;have hd:a.data=b.data:=eq_of_beq (show(a.data==b.data)=ab from g5);show(b.data==a.data)=ab;simp[hd]
   ·rw[‹e.1=_›];simp only[ar6]at g5;simp[auJ,eq_of_beq g5]
   ·cases g5
 ·rename_i ks key hk eb mE;obtain⟨h2,h3⟩:=En mE;have gx:=Ts he eb;have uo:∀b',gT P b' kt key es=gT P b' kt key (ks.map λe=>(e,.undef,0)):=λb'=>Wp (by rw[gx];simp[Function.comp_def]);unfold IG at h;split at h<;>first|(cases h;done)|skip
  rename_i q1 q2 CZ N_;split at h<;>first|(cases h;done)|skip
  rename_i hqq;subst hqq
  have hkb:gT P b kt key es=aa q1:=by
   rw[uo];cases b
   ·exact N_
   ·exact CZ
  split at h
  ·cases h;exact⟨key,mE,h2,h3,hkb,λj hj=>by cases hj⟩
  ·rename_i j;split at h<;>first|(cases h;done)|skip
   rename_i e hj;split at h<;>first|(cases h;done)|skip
   rename_i Xz;cases h;refine⟨key,mE,h2,h3,hkb,λj' fO=>?_⟩;cases fO;rw[<-gx,asi]at hj;obtain⟨e',h5,h6⟩:=ar9.1 hj;exact⟨e',h5,by rw[h6];exact Xz⟩
 ·cases h
end Go.Ev
