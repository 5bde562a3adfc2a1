/- Lemmas over the model, without conditions of their own: operations on expressions (2). -/
import Derived.Test.YtggffkaadeagbaaGreatEvK
open List renaming eq_nil_of_length_eq_zero->asH,all_append->avK,getElem?_take->asF,all_eq_true->asl,getElem?_append_left->asf,getElem?_append_right->asw,getElem?_eq_some_iff->ar5,length_append->asu,getElem?_of_mem->atT,mem_of_getElem?->ash,mem_flatMap->aug,getElem?_map->asi,replicate->asn,eq_of_mem_replicate->ati,map_cons->asY,replicate_succ->auk,flatten_cons->auD,mem_cons->asZ,map_nil->atW,getElem?_eq_getElem->ar4,map_map->avL
open Nat renaming add_mul->asG,le_refl->ar9,zero_le->asT,mul_le_mul_right->asB,sub_zero->avx,zero_mul->au9,beq_eq->asL,eq_of_beq_eq_true->asd,ble_eq->atN
open Option renaming bind_eq_some_iff->ass,bind_some->asc,map_eq_some_iff->ar_
open Bool renaming and_eq_true->ar6,not_eq_true'->asN,or_eq_true->asP,not_eq_true->avB,not_eq_false->auS
open Option.some renaming injEq->ar7
open Prod.mk renaming injEq->asx
open Go.Builtin renaming len->aw1,append->awx
open Go.Instr renaming findNow->ath,sameNow->avd,findAsking->as0,findKey->atB,sameBits->auL,checkKey->avS
open Go renaming undef->asQ
open List.cons renaming injEq->as5
set_option linter.all false
namespace Go.Ev
variable{P:Program}{N:Nat}{σ ah:St}{R R':Rs}{φ aH:Ph}{E:Nat→Env}{ν:List IV}
variable{C:Cr}{Q:IV→Prop}{K:List (List IV→Prop)}{V:SS}{d:Nat}{o:Oper}{k:PV SE→SS→af}{L:List (LO SE)}{Γ:Gm SE}
theorem J.reZ(h:J (aj P ν) R φ Γ L E σ){k s:Nat}{st cut fr cL:Bool}{z z':SE}{es:List IV}(hk:L[k]?=some (.row s st cut fr z))(hz:z.den P ν=some (.tree s es))(pf:z'.den P ν=some (.tree s es))(hf:fr=true→cL=true):
 jU (aj P ν) (aj P ν) R φ L σ R φ (L.set k (.row s st cut cL z')) σ (fun _=>False)∧J (aj P ν) R φ Γ (L.set k (.row s st cut cL z')) E σ:=by
 have qc:=cO hk;have bc:∀j,j≠k→(L.set k (.row s st cut cL z'))[j]?=L[j]? :=fun j hj=>List.getElem?_set_ne (fun hc=>hj hc.symm);have bn:(L.set k (.row s st cut cL z'))[k]?=some (.row s st cut cL z'):=by simp[qc]
 have hs:jU (aj P ν) (aj P ν) R φ L σ R φ (L.set k (.row s st cut cL z')) σ (fun _=>False):=by
  refine⟨fun _ _ h=>h,ic.refl h.fits,fun j nN hj=>?_,fun j kt eP hj=>?_,fun j s1 rX rG rY z1 hj _=>?_⟩
  ·by_cases bB:j=k
   ·subst bB;rw[hk]at hj;cases hj
   ·exact⟨⟨nN,by rw[bc j bB];exact hj⟩,rfl⟩
  ·by_cases bB:j=k
   ·subst bB;rw[hk]at hj;cases hj
   ·exact⟨⟨eP,by rw[bc j bB];exact hj⟩,rfl⟩
  ·by_cases bB:j=k
   ·subst bB;rw[hk]at hj;cases hj;refine⟨⟨st,cL,z',bn,fun eP l5=>⟨es,pf,?_⟩⟩,rfl,fun _ nN _ AD _ qp=>⟨nN,AD,qp,rfl,fun h=>h⟩⟩;have N_:z.den P ν=some (.tree s eP):=l5;rw[hz]at N_;cases N_;rfl
   ·exact⟨⟨rX,rY,z1,by rw[bc j bB];exact hj,fun eP l5=>⟨eP,l5,rfl⟩⟩,rfl,fun _ nN _ AD _ qp=>⟨nN,AD,qp,rfl,fun h=>h⟩⟩
 refine⟨hs,{h with slot:=fun d t pv hg=>(h.slot d t pv hg).step hs pv.aS,obj:=fun j o hj=>?_,lt:=fun j id hj=>by simpa using h.lt j id hj}⟩;by_cases bB:j=k
 ·subst bB;rw[bn]at hj;cases hj;obtain⟨bu,gF,g1,g2,g3⟩:=h.obj j _ hk;have mQ:z.den P ν=some (.tree s gF):=g1;rw[hz]at mQ;cases mQ;refine⟨bu,es,pf,g2,?_⟩;rcases g3 with g3|⟨bp,cm,g_,o7,g3,g4,g5,g6,g7,g8,g9⟩
  ·exact .inl g3
  ·exact .inr ⟨bp,cm,g_,o7,g3,g4,g5,g6,g7,g8,fun j x d hx hd=>(g9 j x d hx hd).wide hf⟩
 ·rw[bc j bB]at hj;exact(h.obj j o hj).step hs rfl (fun _ _=>⟨rfl,rfl⟩) o.aS
theorem RY{σ:St}(hw:σ.t.WF)(id:Nat)(a b:Ob):(σ.put id a).put id b=σ.put id b:=by
 unfold St.put
 congr 1
 refine T.WF.ext ((hw.set _ _).set _ _) (hw.set _ _) fun i=>?_;simp only[T.fQ];split<;>rfl
theorem x_{s len n:Nat}{new cu:List IV}{x:IV}(h:eG s len σ x=some cu)(hl:cu.length=len*s):ff s len n new x σ=ret (.sl σ.n 0 (len+n) none 0 s) (σ.add (.cells (cu++new) 0 0)):=by
 simp[ff,h,hl]
theorem Ib(h:J (aj P ν) R φ Γ L E σ){k s:Nat}{st cut fr cL:Bool}{z z':SE}{es fs new:List IV}{x:IV}(hk:L[k]?=some (.row s st cut fr z))(hz:z.den P ν=some (.tree s es))(pf:z'.den P ν=some (.tree s (es++fs)))
 (hx:cw (aj P ν) R φ L σ x (.sr k))(Hu:new.length=fs.length*s)(Di:pj cL R σ new (flat fs))(hnc:new.all Ev.ab=true)(tB:∀e∈fs,(cellsOf e).length=s)(qf:(st&&cut)=false)
 (KL:∀d t pv,cn d t Γ=some pv→pv.ok (·=k))(hL:∀j o,L[j]?=some o→j≠k→o.ok (·=k)):
 ∃x' ah R' aH,eA 0 s es.length fs.length new x σ=some (.val x' ah)∧J (aj P ν) R' aH Γ (L.set k (.row s st cut (cL||fr) z')) E ah∧cw (aj P ν) R' aH (L.set k (.row s st cut (cL||fr) z')) ah x' (.sr k):=by
 obtain⟨bu,gF,g1,g2,g3⟩:=h.obj k _ hk;have mQ:z.den P ν=some (.tree s gF):=g1;rw[hz]at mQ;cases mQ;have qc:=cO hk;have bn:(L.set k (.row s st cut (cL||fr) z'))[k]?=some (.row s st cut (cL||fr) z'):=by simp[qc]
 have afv:∀e∈es++fs,(cellsOf e).length=s:=fun e he=>(List.mem_append.1 he).elim (g2 e) (tB e);have gm:=hx;obtain⟨s2,Xb,aaq,Xc,z2,K5,a1,a2,a3⟩:=hx;rw[hk]at a1;cases a1;have r6:z.den P ν=some (.tree s K5):=a2;rw[hz]at r6;cases r6;by_cases kf:fs.length=0
 ·have anS:fs=[]:=asH kf;subst anS;rw[List.append_nil]at pf;obtain⟨hs,hJ⟩:=h.reZ (cL:=cL||fr) hk hz pf (fun h=>by simp[h]);refine⟨x,σ,R,φ,?_,hJ,gm.step hs (Cl.aS _)⟩;rcases a3 with⟨_,_,rfl|rfl⟩|⟨id,cs,ar,mn,cap,_,_,rfl,_⟩<;>simp[eA,ret]
 have fresh:∀cu:List IV,cu.length=es.length*s→(∀(j:Nat) x d,cu[j]?=some x→(flat es)[j]?=some d→aV fr R σ x d)→cu.all Ev.ab=true→
  ∃R' aH,J (aj P ν) R' aH Γ (L.set k (.row s st cut (cL||fr) z')) E (σ.add (.cells (cu++new) 0 0))∧cw (aj P ν) R' aH (L.set k (.row s st cut (cL||fr) z')) (σ.add (.cells (cu++new) 0 0)) (.sl σ.n 0 (es.length+fs.length) none 0 s) (.sr k):=by
  intro cu K6 ho2 ho3
  let R':Rs:=fun i=>if i=σ.n then(if st then some ((es++fs).length*s)else none)else R i
  have hlen:(cu++new).length=(es++fs).length*s:=by simp[K6,Hu,asG]
  obtain⟨hs,hJ⟩:=h.ae_ (R':=R') (bad:=(·=k)) (jD:=.row s st cut (cL||fr) z') (eF:=.cells (cu++new) 0 0) hk (fun j hj=>by simp[R',hj])
   (fun m cs ar mn hm ho=>by
    injection ho with K6 ho2 ho3
    subst K6;simp only[R',if_true]at hm;split at hm
    ·cases hm;rw[hlen];exact ar9 _
    ·cases hm)
   ⟨_,_,_,_,_,rfl⟩ rfl KL hL
   (fun hs=>⟨bu,es++fs,pf,afv,.inr ⟨σ.n,cu++new,0,0,by simp[bP],by simp,ar9 _,by rw[hlen];exact ar9 _,by simp[R'],by rw[avK,ho3,hnc];rfl,fun j x d hx hd=>by
    rw[BQ]at hd;have hc:=U1 ho2 (by rw[K6,na g2]) Di j x d hx hd;rw[Bool.or_comm]at hc;exact hc.mono hs.grow⟩⟩)
  refine⟨R',bP φ k σ.n,hJ,s,st,cut,cL||fr,z',es++fs,bn,pf,.inr ⟨σ.n,cu++new,0,0,none,by simp[bP],by simp,by simp,asT _,fun _ _=>hlen.symm,fun c hc=>by cases hc⟩⟩
 rcases a3 with⟨b1,b2,b3⟩|⟨id,cs,ar,mn,cap,b1,b2,rfl,b4,b5,b6⟩
 ·have he0:es=[]:=asH b2;subst he0;obtain⟨R',aH,hJ,hV⟩:=fresh [] (by simp) (fun j x d h=>by simp at h) rfl;refine⟨_,_,R',aH,?_,hJ,hV⟩;rcases b3 with rfl|rfl
  ·simp only[eA];rw[if_pos ⟨trivial,trivial⟩,if_neg kf,x_ (cu:=[]) (by simp[eG]) (by simp)];rfl
  ·simp only[eA];rw[if_neg kf,x_ (cu:=[]) (by simp[eG]) (by simp)];rfl
 ·rcases g3 with⟨g3,_⟩|⟨bp,cm,g_,o7,g3,g4,g5,g6,g7,g8,g9⟩
  ·rw[b1]at g3;cases g3
  rw[b1]at g3;cases g3;rw[b2]at g4;cases g4
  have hold:eG s es.length σ (.sl id (0*s) (es.length- 0) cap ar s)=some (cs.take (es.length*s)):=by
   simp only[eG];rw[if_pos ⟨trivial,by simp⟩,b2];simp only;rw[if_pos ⟨g5,ar9 _,by omega⟩];simp
  have ME:(cs.take (es.length*s)).length=es.length*s:=by simp;omega
  have ajB:∀(j:Nat) x d,(cs.take (es.length*s))[j]?=some x→(flat es)[j]?=some d→aV fr R σ x d:=fun j x d hx hd=>by
   rw[asF]at hx;split at hx
   ·exact g9 j x d hx hd
   ·cases hx
  have ab4:(cs.take (es.length*s)).all Ev.ab=true:=by
   rw[asl]at g8⊢;exact fun c hc=>g8 c (List.mem_of_mem_take hc)
  have JJ:∀(ob:List IV) (sU CM:Nat),(R id=none∨(CM=mn∧ar≤sU))→CM≤sU→(∀j,j<es.length*s→ob[j]?=cs[j]?)→(∀j,j<new.length→ob[es.length*s+j]?=new[j]?)→(es++fs).length*s≤ob.length→ob.all Ev.ab=true→
   ∀Oj,(Oj=none→cut=false→(es++fs).length*s=ob.length)→(∀c,Oj=some c→CM=sU∧c*s≤ob.length∧(es++fs).length≤c)→
   ∃R',J (aj P ν) R' φ Γ (L.set k (.row s st cut (cL||fr) z')) E (σ.put id (.cells ob sU CM))∧cw (aj P ν) R' φ (L.set k (.row s st cut (cL||fr) z')) (σ.put id (.cells ob sU CM)) (.sl id 0 (es.length+fs.length) Oj sU s) (.sr k):=by
   intro ob sU CM hRm Rw afw anT afx anU Oj ajC U2
   let R':Rs:=fun i=>if i=id then(if st then some ((es++fs).length*s)else none)else R i
   have Br:R id=if st then some (es.length*s)else none:=g7
   obtain⟨hs,hJ⟩:=h.sL (R':=R') (bad:=(·=k)) (jD:=.row s st cut (cL||fr) z') (eF:=.cells ob sU CM) b1 hk (fun j hj=>by simp[R',hj])
    (fun m hm=>by
     rw[Br]at hm;split at hm
     ·rename_i dK;cases hm;exact⟨(es++fs).length*s,by simp[R',dK],asB s (by simp)⟩
     ·cases hm)
    (fun m nN Bs AD hm az=>by
     rw[b2]at az;cases az;rcases hRm with hRm|⟨rfl,hle⟩
     ·rw[hRm]at hm;cases hm
     ·rw[Br]at hm;split at hm
      ·cases hm;exact⟨ob,sU,rfl,hle,afw⟩
      ·cases hm)
    (fun m nN Bs AD hm ho=>by
     injection ho with K6 _ _
     subst K6;simp only[R',if_true]at hm;split at hm
     ·cases hm;exact afx
     ·cases hm)
    (fun cs h=>by cases h) (fun kt es h=>by cases h) (fun _ _ _ _ _ _=>rfl) KL hL
    (fun hs=>⟨bu,es++fs,pf,afv,.inr ⟨id,ob,sU,CM,b1,by rw[St.cJ,if_pos rfl],Rw,afx,by simp[R'],anU,fun j x d hx hd=>by
     rw[BQ]at hd;have tW:=na g2;by_cases hj:j<es.length*s
     ·rw[asf (by omega)]at hd;rw[afw j hj]at hx;exact((g9 j x d hx hd).wide (fun h=>by simp[h])).mono hs.grow
     ·rw[asw (by omega),tW]at hd
      have yJ:j- es.length*s<new.length:=by
       have:=(ar5.1 hd).1;rw[na tB]at this;omega
      rw[show j=es.length*s+(j- es.length*s) by omega,anT _ yJ]at hx;exact((Di _ x d hx hd).wide (fun h=>by simp[h])).mono hs.grow⟩⟩)
   exact⟨R',hJ,s,st,cut,cL||fr,z',es++fs,bn,pf,.inr ⟨id,ob,sU,CM,Oj,b1,by rw[St.cJ,if_pos rfl],by simp,asT _,ajC,fun c hc=>⟨(U2 c hc).1,by simpa using(U2 c hc).2.1,by simpa using(U2 c hc).2.2⟩⟩⟩
  have U3:(es++fs).length*s=es.length*s+fs.length*s:=by simp[asG]
  cases cap with
  |some c=>
   obtain⟨e1,e2,e3⟩:=b6 c rfl;by_cases su:es.length+fs.length≤c
   ·have arV:es.length*s+fs.length*s≤cs.length:=by
     have:(es.length+fs.length)*s≤c*s:=asB s su;rw[asG]at this;omega
    obtain⟨R',hJ,hV⟩:=JJ (dm cs (es.length*s) new) ar ar (.inr ⟨e1.symm,ar9 _⟩) (ar9 _)
     (fun j hj=>by rw[mF (α:=IV) (by omega),if_neg (by omega)])
     (fun j hj=>by rw[mF (α:=IV) (by omega),if_pos (by omega)];congr 1;omega)
     (by rw[tA (by omega)];omega) (wT g8 hnc) (some c) (fun h=>by cases h) (fun c' xA=>by cases xA;exact⟨rfl,by rw[tA (by omega)];omega,by simpa using su⟩)
    refine⟨_,_,R',φ,?_,hJ,hV⟩;simp only[eA];rw[if_neg (by simp),if_neg kf];simp only[b2,avx,au9,Nat.zero_add];rw[if_pos su,if_pos ⟨asT _,trivial,by rw[asG];omega⟩];rfl
   ·obtain⟨R',aH,hJ,hV⟩:=fresh _ ME ajB ab4;refine⟨_,_,R',aH,?_,hJ,hV⟩;simp only[eA];rw[if_neg (by simp),if_neg kf];simp only[avx];rw[if_neg su,x_ (by simpa using hold) ME];rfl
  |none=>
   by_cases Ol:es.length*s=cs.length
   ·obtain⟨R',hJ,hV⟩:=JJ (cs++new) (ar+1) mn (.inr ⟨rfl,by omega⟩) (by omega)
     (fun j hj=>by rw[asf (by omega)])
     (fun j hj=>by rw[asw (by omega)];congr 1;omega)
     (by rw[U3,asu];omega) (by rw[avK,g8,hnc];rfl) none (fun _ _=>by rw[U3,asu];omega) (fun c h=>by cases h)
    refine⟨_,_,R',φ,?_,hJ,hV⟩;simp only[eA];rw[if_neg (by simp),if_neg kf];simp only[b2,avx,au9];rw[if_pos ⟨asT _,trivial,trivial,Ol⟩];rfl
   ·have Om:cut=true:=by
     cases hc:cut with
     |true=>rfl
     |false=>exact absurd (b5 rfl hc) Ol
    have dK:st=false:=by rw[Om]at qf;simpa using qf
    obtain⟨R',hJ,hV⟩:=JJ (cs.take (es.length*s)++new) (ar+1+1) (ar+1) (.inl (by rw[g7,dK];rfl)) (by omega)
     (fun j hj=>by rw[asf (by omega),asF,if_pos hj])
     (fun j hj=>by rw[asw (by omega),ME];congr 1;omega)
     (by rw[U3,asu,ME];omega) (by rw[avK,ab4,hnc];rfl) none (fun _ h=>by rw[Om]at h;cases h) (fun c h=>by cases h)
    refine⟨.sl id 0 (es.length+fs.length) none (ar+1+1) s,(σ.put id (.cells (cs.take (es.length*s)) (ar+1) (ar+1))).put id (.cells (cs.take (es.length*s)++new) (ar+1+1) (ar+1)),R',φ,?_,?_,?_⟩
    ·simp only[eA];rw[if_neg (by simp),if_neg kf];simp only[b2,avx,au9];rw[if_neg (fun hc=>Ol hc.2.2.2),if_pos ⟨asT _,trivial,trivial,g6⟩];rfl
    ·rw[RY h.wf];exact hJ
    ·rw[RY h.wf];exact hV
end Go.Ev
namespace Go.Ev
variable{P:Program}{N:Nat}{σ ah:St}{R R':Rs}{φ aH:Ph}{E:Nat→Env}{ν:List IV}
variable{C:Cr}{Q:IV→Prop}{K:List (List IV→Prop)}{V:SS}{d:Nat}{o:Oper}{k:PV SE→SS→af}{L:List (LO SE)}{Γ:Gm SE}
theorem fI(h:J (aj P ν) R φ V.g V.l E σ)(d:Nat):∀(ops:List Operand) (ts:List TypeId),All2 (VR (aj P ν) R φ V.l σ) (ops.map (aq (E d))) (gO P d V ops ts)
 |[],_=>trivial
 |x::xs,t::ts=>⟨aW h d t x,fI h d xs ts⟩
 |x::xs,[]=>⟨aW h d 0 x,fI h d xs []⟩
theorem kq{α β:Type}{r:α→β→Prop}{as:List α}{b:β}(h:All2 r as [b]):∃a,as=[a]∧r a b:=by
 cases as with
 |nil=>exact h.elim
 |cons a as=>
  cases as with
  |nil=>exact⟨a,rfl,h.1⟩
  |cons a' as=>exact h.2.elim
theorem GJ{α β:Type}{r:α→β→Prop}{as:List α}{b c:β}(h:All2 r as [b,c]):∃a a',as=[a,a']∧r a b∧r a' c:=by
 cases as with
 |nil=>exact h.elim
 |cons a as=>
  obtain⟨a',rfl,h'⟩:=kq h.2;exact⟨a,a',rfl,h.1,h'⟩
theorem Cl.ya{x:IV}{c:Cl SE}(h:cw (aj P ν) R φ L σ x c):c.ok (·=L.length):=by
 cases c with
 |sr k=>obtain⟨_,_,_,_,_,_,h1,_⟩:=h;exact fun hc=>by have:=cO h1;omega
 |sv k lo=>obtain⟨_,_,_,_,_,_,_,_,h1,_⟩:=h;exact fun hc=>by have:=cO h1;omega
 |pr k i off ext=>obtain⟨_,_,_,_,_,_,_,_,_,_,_,_,h1,_⟩:=h;exact fun hc=>by have:=cO h1;omega
 |_=>trivial
theorem BR{xs:List IV}{cs:List (Cl SE)}(h:All2 (cw (aj P ν) R φ L σ) xs cs):∀c∈cs,c.ok (·=L.length):=by
 intro c hc;obtain⟨i,hi⟩:=atT hc;obtain⟨a,_,ha⟩:=h.zO hi;exact Cl.ya ha
theorem PV.ya{x:IV}{pv:PV SE}(h:VR (aj P ν) R φ L σ x pv):pv.ok (·=L.length):=by
 cases pv with
 |one c=>exact Cl.ya (c:=c) h
 |ag cs=>obtain⟨xs,_,h2⟩:=h;exact BR h2
 |tu vs=>
  obtain⟨xs,_,h2⟩:=h;intro p hp c hc;obtain⟨i,hi⟩:=atT hp;obtain⟨a,_,ha⟩:=h2.zO hi;unfold sK at ha;split at ha
  ·obtain⟨ys,_,h3⟩:=ha;exact BR h3 c hc
  ·obtain⟨c',h3,h4⟩:=ha;rw[h3]at hc;simp at hc;subst hc;exact Cl.ya h4
theorem OR.ya{j:Nat}{ob:LO SE}(h:OR (aj P ν) R φ L σ j ob):ob.ok (·=L.length):=by
 cases ob with
 |var cs=>obtain⟨_,_,_,_,_,h4⟩:=h;exact BR h4
 |_=>trivial
theorem xk(h:J (aj P ν) R φ Γ L E σ){j:Nat}(hj:L.length≤j):φ j=none:=by
 cases hf:φ j with
 |none=>rfl
 |some id=>have:=(h.lt _ _ hf).1;omega
theorem J.AG(h:J (aj P ν) R φ Γ L E σ){s:Nat}{fr:Bool}{z:SE}(hs:0<s)(hz:z.den P ν=some (.tree s [])):jU (aj P ν) (aj P ν) R φ L σ R φ (L++[.row s false false fr z]) σ (fun _=>False)∧J (aj P ν) R φ Γ (L++[.row s false false fr z]) E σ:=by
 have hL:∀j o,L[j]?=some o→(L++[.row s false false fr z])[j]?=some o:=fun j o hj=>by rw[asf (cO hj)];exact hj
 have hc:jU (aj P ν) (aj P ν) R φ L σ R φ (L++[.row s false false fr z]) σ (fun _=>False):=
  .mk' (fun _ _ h=>h) (ic.refl h.fits) (fun j cs hj=>⟨⟨cs,hL j _ hj⟩,rfl⟩) (fun j kt es hj=>⟨⟨es,hL j _ hj⟩,rfl⟩) (fun j s st cut fr z hj _=>⟨⟨st,hL j _ hj⟩,rfl,fun _ _=>rfl⟩)
 refine⟨hc,{h with slot:=fun d t pv hg=>(h.slot d t pv hg).step hc pv.aS,obj:=fun j o hj=>?_,lt:=fun j id hj=>by have:=h.lt j id hj;simp;omega}⟩;by_cases qa:j<L.length
 ·rw[asf qa]at hj;exact(h.obj j o hj).step hc rfl (fun _ _=>⟨rfl,rfl⟩) o.aS
 ·have:j=L.length:=by have:=cO hj;simp at this;omega
  subst this;simp at hj;subst hj;exact⟨hs,[],hz,fun e he=>(by cases he),.inl ⟨xk h (ar9 _),rfl⟩⟩
theorem RZ{s bytes:Nat}{e f:SE}{z:IV}(h:(SE.cat s bytes e f).den P ν=some z):∃es fs,e.den P ν=some (.tree s es)∧f.den P ν=some (.tree s fs)∧0<s∧iz s fs=true∧(4*(es.length+fs.length)+4096)*bytes≤2 ^47∧es.length+fs.length≤2 ^40∧z=.tree s (es++fs):=by
 simp only[SE.den,ass]at h;obtain⟨a,h1,b,h2,h3⟩:=h;unfold gl at h3;split at h3
 ·split at h3
  ·rename_i hc;obtain⟨rfl,rfl,c1,c2,c3,c4⟩:=hc;cases h3;exact⟨_,_,h1,h2,c1,c2,c3,c4,rfl⟩
  ·cases h3
 ·cases h3
theorem U4{fr:Bool}{new ds:List IV}(h:pj true R σ new ds)(hd:∀d∈ds,au d=true):pj false R σ new ds:=by
 intro j x e hx he;have hr:=hd e (ash he);have:=h j x e hx he;unfold au at hr;split at hr
 ·rw[bS this];exact .raw _
 ·cases hr
theorem DP(hJ:J (aj P ν) R φ V.g V.l E σ){et:TypeId}{s:Nat}{base c:Cl SE}{fr raw:Bool}{es:SE}{x:IV}{fs:List IV}(ha:pN P V et s base c=some (fr,es,raw))(hx:cw (aj P ν) R φ V.l σ x c)(gh:es.den P ν=some (.tree s fs))(bu:0<s)(bf:iz s fs=true)
 (dI:raw=true→(∃z,(SE.rws es).den P ν=some z)):
 j8 x=some fs.length∧∃new,eG s fs.length σ x=some new∧new.length=fs.length*s∧pj fr R σ new (flat fs)∧new.all Ev.ab=true:=by
 cases c with
 |sr j=>
  simp only[pN]at ha;split at ha
  ·rename_i s' st cut cL aB hj;split at ha
   ·rename_i hc;simp only[ar6,asL]at hc;simp only[ar7,asx]at ha;obtain⟨rfl,rfl,rfl⟩:=ha;obtain⟨rfl,_⟩:=hc;exact Oi hJ hj gh hx
   ·cases ha
  ·cases ha
 |nl b s'=>
  simp only[pN,ar7,asx]at ha;obtain⟨rfl,rfl,rfl⟩:=ha
  have:fs=[]:=by
   simp only[SE.den,asc]at gh;split at gh<;>cases gh;rfl
  subst this;obtain⟨_,rfl⟩:=hx;refine⟨by cases b<;>rfl,[],?_,by simp,fun j x d h=>by simp at h,rfl⟩;cases b<;>simp[eG]
 |w f z=>
  simp only[pN,ar7,asx]at ha;obtain⟨rfl,rfl,rfl⟩:=ha;obtain⟨y,h1,h2,_⟩:=hx;have cH:z.den P ν=some y:=h1;rw[gh]at cH;cases cH;exact JI bu h2 bf
 |v z=>
  obtain⟨y,h1,h2,_⟩:=hx;have cH:z.den P ν=some y:=h1;simp only[pN]at ha;split at ha
  ·simp only[ar7,asx]at ha;obtain⟨rfl,rfl,rfl⟩:=ha;rw[gh]at cH;cases cH;obtain⟨a1,new,a2,a3,a4,a5⟩:=JI bu (h2.mono hJ.AE) bf;refine⟨a1,new,a2,a3,U4 (fr:=true) a4 fun e he=>?_,a5⟩;obtain⟨q,hq⟩:=dI rfl;simp only[SE.den,gh,asc]at hq;split at hq
   ·rename_i aT;rw[asl]at aT;obtain⟨el,tz,anV⟩:=aug.1 he;exact asl.1 (aT el tz) e anV
   ·cases hq
  ·simp only[ar7,asx]at ha;obtain⟨rfl,rfl,rfl⟩:=ha;rw[gh]at cH;cases cH;exact JI bu (h2.mono hJ.AE) bf
 |un|pt|tp|tw|sv|pr|mp|fn=>simp[pN]at ha
theorem Ic{d t k:Nat}{pv:PV SE}{g:Gm SE}(h:cn d t (HJ k g)=some pv):pv.ok (·=k):=by
 obtain⟨q,_,rfl⟩:=Dy g h;exact q.mz k
variable(hJ:J (aj P ν) R φ V.g V.l E σ)(hn:ν.length=V.n)
include hJ hn
theorem U5{et:TypeId}{bytes s:Nat}{base c:Cl SE}{fr raw:Bool}{es:SE}{x0 x1:IV}(hb:cw (aj P ν) R φ V.l σ x0 base)(hc:cw (aj P ν) R φ V.l σ x1 c)(ha:pN P V et s base c=some (fr,es,raw))(dI:raw=true→(∃z,(SE.rws es).den P ν=some z))
 (hs:(Av bytes s base fr es V k).sat P C Q K ν):
 cN P C Q K ν E V.ln k (fun v ai=>∃m n new,j8 x0=some m∧j8 x1=some n∧eG s n σ x1=some new∧new.length=n*s∧new.all Ev.ab=true∧(4*(m+n)+4096)*bytes≤2 ^47∧m+n≤2 ^40∧eA 0 s m n new x0 σ=some (.val v ai)):=by
 unfold Av at hs;split at hs
 ·rename_i b s';split at hs
  ·rename_i gW;have uD:=asd gW;subst uD;obtain⟨z,h1,h2,hv,bk,cX⟩:=pY hJ hn hs;obtain⟨e0,fs,c1,c2,c3,c4,c5,c6,rfl⟩:=RZ h1
   have he0:e0=[]:=by
    simp only[SE.den,asc]at c1;split at c1<;>cases c1;rfl
   subst he0;obtain⟨a1,new,a2,a3,a4,a5⟩:=DP hJ ha hc c2 c3 c4 dI;obtain⟨_,gm⟩:=hb;have lZ:(SE.tr s SE.an).den P (ν++[IV.tree s ([]++fs)])=some (.tree s []):=by simp[SE.den,c3]
   obtain⟨tN,dP⟩:=bk.AG (fr:=false) c3 lZ;have jj:(V.l++[LO.row s false false false (SE.tr s SE.an)])[V.l.length]?=some (.row s false false false (SE.tr s SE.an)):=by simp
   obtain⟨x',ah,R',aH,b1,b2,b3⟩:=Ib dP (cL:=fr) (z':=.var V.n) (x:=x0) jj lZ hv ⟨s,false,false,false,_,[],jj,lZ,.inl ⟨xk hJ (ar9 _),rfl,by subst gm;cases b<;>simp⟩⟩
    a3 a4 a5 (zW c4).1 rfl (fun d t pv hg=>PV.ya (bk.slot d t pv hg)) (fun j o hj bc=>by
     have qa:j<V.l.length:=by have:=cO hj;simp at this;omega
     rw[asf qa]at hj;exact OR.ya (bk.obj j o hj))
   have uC:(V.l++[LO.row s false false false (SE.tr s SE.an)]).set V.l.length (.row s false false (fr||false) (.var V.n))=V.l++[LO.row s false false fr (.var V.n)]:=by simp
   rw[uC]at b2 b3;refine⟨x',ah,R',aH,.one (.sr V.l.length),{V with n:=V.n+1,l:=V.l++[.row s false false fr (.var V.n)]},[.tree s ([]++fs)],⟨0,fs.length,new,by subst gm;cases b<;>rfl,a1,a2,a3,a5,c5,c6,b1⟩,b2,b3,cX,rfl,h2⟩
  ·exact hs.elim
 ·rename_i j;split at hs
  ·rename_i s' st cut cL aB hj;split at hs
   ·rename_i bJ;simp only[ar6,asL,asN]at bJ;obtain⟨rfl,qf⟩:=bJ;obtain⟨z,h1,h2,hv,bk,cX⟩:=pY hJ hn hs;obtain⟨e0,fs,c1,c2,c3,c4,c5,c6,rfl⟩:=RZ h1;obtain⟨a1,new,a2,a3,a4,a5⟩:=DP hJ ha hc c2 c3 c4 dI
    have hm:j8 x0=some e0.length:=by
     have:=Oi hJ hj c1 hb;exact this.1
    have cK:cw (aj P (ν++[.tree s (e0++fs)])) R φ V.l σ x0 (.sr j):=by
     have hbv:VR (aj P ν) R φ V.l σ x0 (.one (.sr j)):=hb;exact VR.up hJ hbv (fun e z h=>SE.cI P e h)
    have dP:=bk.Uo j;have Xn:(V.l.map (LO.drop j))[j]?=some (.row s st cut cL aB):=by simp[asi,hj,LO.drop]
    have fB:cw (aj P (ν++[.tree s (e0++fs)])) R φ (V.l.map (LO.drop j)) σ x0 (.sr j):=cK.step (Gu bk j) (Cl.aS _)
    obtain⟨x',ah,R',aH,b1,b2,b3⟩:=Ib dP (cL:=fr) (z':=.var V.n) (x:=x0) Xn (SE.cI P aB c1) hv fB a3 a4 a5 (zW c4).1 qf (fun d t pv hg=>Ic hg) (fun i o hi bc=>by
     rw[asi]at hi;obtain⟨o',_,rfl⟩:=ar_.1 hi;exact o'.mz j)
    refine⟨x',ah,R',aH,.one (.sr j),((({V with n:=V.n+1}:SS).rU j).setObj j (.row s st cut (fr||cL) (.var V.n))),[.tree s (e0++fs)],⟨e0.length,fs.length,new,hm,a1,a2,a3,a5,c5,c6,b1⟩,b2,b3,cX,rfl,h2⟩
   ·exact hs.elim
  ·exact hs.elim
 ·exact hs.elim
end Go.Ev
namespace Go.Ev
variable{P:Program}{N:Nat}{σ ah:St}{R R':Rs}{φ aH:Ph}{E:Nat→Env}{ν:List IV}
variable{C:Cr}{Q:IV→Prop}{K:List (List IV→Prop)}{V:SS}{d:Nat}{o:Oper}{k:PV SE→SS→af}{L:List (LO SE)}{Γ:Gm SE}
theorem og{t et:TypeId}(h:elemOf P t=some et):P.underlying t=some (.slice et):=by
 unfold elemOf at h;split at h
 ·rename_i e he;cases h;exact he
 ·cases h
theorem Fe{e:SE}{z:IV}(h:(SE.len e).den P ν=some z):∃s es,e.den P ν=some (.tree s es)∧z=.int es.length:=by
 simp only[SE.den,ass]at h;obtain⟨a,h1,h2⟩:=h;unfold HV at h2;split at h2
 ·cases h2;exact⟨_,_,h1,rfl⟩
 ·cases h2
theorem aar{e:SE}{z:IV}(h:(SE.rB e).den P ν=some z):∃b,e.den P ν=some (.raw (.string b))∧z=.int b.size:=by
 simp only[SE.den,ass]at h;obtain⟨a,h1,h2⟩:=h;unfold xj at h2;split at h2
 ·cases h2;exact⟨_,h1,rfl⟩
 ·cases h2
theorem adF{fr:Bool}{x:IV}{s:Nat}{es:List IV}{ts:Array TypeId}{el:TypeId}(hu:(ts[0]?).bind P.underlying=some (.slice el))(h:aV fr R σ x (.tree s es)):oj P ts x σ=some (.int es.length):=by
 generalize hz:IV.tree s es=z at h;cases h with
 |nil s' aZ=>injection hz with a b;subst a b;simp[oj,hu]
 |emp s' aZ=>injection hz with a b;subst a b;simp[oj,hu]
 |pure _ hf hp=>subst hz;simp[oj,hu]
 |sl id off len cap ep s' m cs ar mn aB hR az a1 a2 aZ hl hb hm bD hh=>injection hz with a b;subst a b hl;simp[oj,hu]
 |raw v=>cases hz
 |cY=>cases hz
 |agg=>cases hz
 |av=>cases hz
variable(hJ:J (aj P ν) R φ V.g V.l E σ)(hn:ν.length=V.n)
include hJ hn
theorem adG{c:Call}(ho:o.op=.call c)(hc:c.callee=.builtin .len)(hs:(fE P d o V k).sat P C Q K ν):cN P C Q K ν E V.ln k (bE P E d o σ):=by
 unfold fE at hs;rw[ho]at hs;simp only[hc]at hs;have bg:=fI hJ d c.args.toList c.argTypes.toList;split at hs<;>first|(exact hs.elim)|(exact(‹aw1=aw1→False› rfl).elim)|skip
 all_goals first|(rename_i hb _;cases hb;done)|skip
 rename_i pv _ hh;rw[hh]at bg;obtain⟨x,hx,hr⟩:=kq bg
 have dZ:∀v,oj P c.argTypes x σ=some v→ak P 0 (aq (E d)) o σ=some (.val v σ):=by
  intro v hv;simp[ak,ho,hc,du,hx,hv]
 split at hs
 ·rename_i hu
  have main:∀a:SE,(∀y,a.den P ν=some y→aV true R σ x y)→(vk (.rB a) V k).sat P C Q K ν→cN P C Q K ν E V.ln k (bE P E d o σ):=by
   intro a ha hs;obtain⟨⟨z,hz⟩,hk⟩:=hs;obtain⟨b,h1,rfl⟩:=aar hz;have:=bS (ha _ h1);exact .at (x:=.int b.size) hk hJ hn rfl ⟨_,hz,.raw _,rfl⟩ (dZ _ (by simp[oj,hu,this]))
  split at hs
  ·rename_i z;obtain⟨y,h1,h2,_⟩:=hr;exact main z (fun y' hy=>by have cH:z.den P ν=some y:=h1;rw[hy]at cH;cases cH;exact h2.mono hJ.AE) hs
  ·rename_i f z;obtain⟨y,h1,h2,_⟩:=hr;exact main z (fun y' hy=>by have cH:z.den P ν=some y:=h1;rw[hy]at cH;cases cH;exact h2.cu) hs
  ·exact hs.elim
 ·rename_i el hu
  have main:∀a:SE,(∀y,a.den P ν=some y→aV true R σ x y)→(vk (.len a) V k).sat P C Q K ν→cN P C Q K ν E V.ln k (bE P E d o σ):=by
   intro a ha hs;obtain⟨⟨z,hz⟩,hk⟩:=hs;obtain⟨s,es,h1,rfl⟩:=Fe hz;exact .at (x:=.int es.length) hk hJ hn rfl ⟨_,hz,.raw _,rfl⟩ (dZ _ (adF hu (ha _ h1)))
  split at hs
  ·rename_i z;obtain⟨y,h1,h2,_⟩:=hr;exact main z (fun y' hy=>by have cH:z.den P ν=some y:=h1;rw[hy]at cH;cases cH;exact h2.mono hJ.AE) hs
  ·rename_i f z;obtain⟨y,h1,h2,_⟩:=hr;exact main z (fun y' hy=>by have cH:z.den P ν=some y:=h1;rw[hy]at cH;cases cH;exact h2.cu) hs
  ·rename_i b s;obtain⟨_,h2⟩:=hr;exact .at (x:=.int 0) hs hJ hn rfl ⟨_,rfl,.raw _,rfl⟩ (dZ _ (by subst h2;cases b<;>simp[oj,hu]))
  ·rename_i j;split at hs
   ·rename_i s st cut fr es hj;obtain⟨⟨z,hz⟩,hk⟩:=hs;obtain⟨s',aB,h1,rfl⟩:=Fe hz
    have gW:s'=s:=by
     obtain⟨_,gF,g1,_⟩:=hJ.obj j _ hj;have mQ:es.den P ν=some (.tree s gF):=g1;rw[h1]at mQ;cases mQ;rfl
    subst gW;obtain⟨hl,_⟩:=Oi hJ hj h1 hr;refine .at (x:=.int aB.length) hk hJ hn rfl ⟨_,hz,.raw _,rfl⟩ (dZ _ ?_);obtain⟨s2,Xb,aaq,Xc,z2,K5,a1,a2,a3⟩:=hr;rw[hj]at a1;cases a1;have r6:es.den P ν=some (.tree s' K5):=a2;rw[h1]at r6;cases r6;rcases a3 with⟨_,b2,rfl|rfl⟩|⟨id,cs,ar,mn,cap,_,_,rfl,_⟩
    ·simp[oj,hu,b2]
    ·simp[oj,hu,b2]
    ·simp[oj,hu]
   ·exact hs.elim
  ·exact hs.elim
 ·rename_i kt0 et0 hu;split at hs<;>first|(exact hs.elim)|skip
  rename_i j;split at hs<;>first|(exact hs.elim)|skip
  rename_i kt ik hj;split at hs
  ·exact hs.elim
  rename_i hk;have d_:¬gk kt=true:=hk;obtain⟨⟨z,hz⟩,wb⟩:=hs;obtain⟨id,lB,gF,g1,g2,g3⟩:=hr;rw[hj]at g2;cases g2;rw[if_neg d_]at g3;have dr:=hJ.obj j _ hj;rw[gw,if_neg d_]at dr;obtain⟨bp,es,clock,ds,c1,c2,c3,c4,c5,c6⟩:=dr;rw[g1]at c2;cases c2;have jV:ik.den P ν=some (.av ds):=c1
  have H_:z=.int ds.length:=by
   simp only[SE.den,jV,asc,lO,if_true,ar7]at hz;exact hz.symm
  subst H_;have hlen:es.length=ds.length:=All2.len c5;exact .at (x:=.int es.length) wb hJ hn rfl ⟨_,hz,by rw[hlen];exact .raw _,rfl⟩ (dZ _ (by subst g3;simp[oj,hu,c4]))
 ·exact hs.elim
omit hJ hn in
theorem afy{t:TypeId}{e:SE}(h:EJ P t=some e):∃v,cj P t=some v∧e.den P ν=some (.raw v)∧v.cells= #[v]:=by
 unfold EJ at h;split at h<;>first|(cases h;exact⟨_,‹_›,rfl,rfl⟩)|cases h
theorem aas{c:Call}{x0 x1:IV}{t0 t1 et:TypeId}{base ca:Cl SE}(ho:o.op=.call c)(hc:c.callee=.builtin .append)(hx:c.args.toList.map (aq (E d))=[x0,x1])(R0:c.argTypes[0]?=some t0)(R4:c.argTypes[1]?=some t1)(het:elemOf P t0=some et)
 (HE:VR (aj P ν) R φ V.l σ x0 (.one base))(kN:VR (aj P ν) R φ V.l σ x1 (.one ca))(hs:(UA P et t1 base ca V k).sat P C Q K ν):cN P C Q K ν E V.ln k (bE P E d o σ):=by
 unfold UA at hs;split at hs<;>first|(exact hs.elim)|skip
 rename_i qk s n Cy;split at hs<;>first|(exact hs.elim)|skip
 rename_i s' z ze bytes aK vy Xh K7;split at hs<;>first|(exact hs.elim)|skip
 rename_i bJ;simp only[ar6]at bJ;obtain⟨⟨⟨⟨h1,h2⟩,h3⟩,h4⟩,h5⟩:=bJ;have cH:=asd h1;have CA:=asd h2;subst cH CA;have N9:bytes≤1000000:=by simpa using h3
 obtain⟨v,e1,e2,e3⟩:=afy (ν:=ν) Xh;rw[vy]at e1;cases e1;obtain⟨y,hy,hk⟩:=hs;simp only[SE.den,ass]at hy;obtain⟨nv,n1,zv,n2,n3⟩:=hy;rw[e2]at n2;cases n2;obtain⟨y',y1,y2,_⟩:=kN;have K8:n.den P ν=some y':=y1;rw[n1]at K8;cases K8
 obtain⟨q,m,rfl,m1,m2,hq,rfl⟩:∃q m,nv=.raw (.int q m)∧1≤m∧m≤1000000∧(q==IntKind.i64)=true∧y=.tree 1 (asn m.toNat (.raw z)):=by
  unfold lO at n3;split at n3
  ·split at n3<;>cases n3
  ·rw[if_neg (fun h=>absurd h.1 (by decide))]at n3;split at n3
   ·rename_i hh;cases n3;exact⟨_,_,rfl,hh.2.1,hh.2.2.1,hh.2.2.2.1,rfl⟩
   ·cases n3
  ·rw[if_neg (by decide)]at n3;cases n3
  ·cases n3
 have DB:q=.i64:=by simpa using hq
 subst DB;have p_:=bS y2;obtain⟨_,gm⟩:=HE;simp only[if_true]at gm
 have K9:gr (z.cells.toList.map .raw) (m.toNat*1)=asn m.toNat (.raw z):=by
  simp[gr,e3]
 have bf:Ev.ab (.raw z)=true:=by simpa[e3]using h5
 have pk:(SE.var V.n).den P (ν++[.tree 1 (asn m.toNat (.raw z))])=some (.tree 1 (asn m.toNat (.raw z))):=by simp[SE.den,←hn]
 have bk:=hJ.up (gN:=aj P (ν++[.tree 1 (asn m.toNat (.raw z))])) (fun e y h=>SE.cI P e h)
 have dP:=bk.xM (.cells (asn m.toNat (.raw z)) 0 0) (.row 1 false false false (.var V.n)) ⟨by omega,_,pk,fun e he=>(by rw[ati he];rfl),.inr ⟨σ.n,(asn m.toNat (.raw z)),0,0,by simp[bP],by simp,ar9 _,by simp,hJ.qJ,asl.2 fun x hx=>(by rw[ati hx];exact bf),fun j x d hx hd=>by
  have iJ:=ati (ash hx)
  have vp:d=.raw z:=by
   have hm:=ash hd;unfold flat at hm;obtain⟨e,he,hde⟩:=aug.1 hm;rw[ati he]at hde;simpa[cellsOf]using hde
  rw[iJ,vp];exact .raw _⟩⟩
 refine⟨.sl σ.n 0 m.toNat none 0 1,_,R,_,.one (.sr V.l.length),{V with n:=V.n+1,l:=V.l++[.row 1 false false false (.var V.n)]},[.tree 1 (asn m.toNat (.raw z))],?_,dP,
  ⟨1,false,false,false,_,_,by simp,pk,.inr ⟨σ.n,(asn m.toNat (.raw z)),0,0,none,by simp[bP],by simp,by simp,asT _,fun _ _=>by simp,fun c hc=>by cases hc⟩⟩,by simp[hn],rfl,hk⟩
 have Ct:m.toNat≠0:=by omega
 simp only[bE,ak,ho,hc,du,hx,jZ,R0,R4,og het,Cy,aK,vy,K7,rO,p_,gm];rw[if_neg (by simp[e3]),if_pos ⟨by omega,by omega⟩];simp only[j8];rw[K9];simp only[if_true]
 rw[if_pos ⟨by simp,asl.2 fun x hx=>(by rw[ati hx];exact bf),by
    have:(4*(0+m.toNat)+4096)*bytes≤4004096*1000000:=Nat.mul_le_mul (by omega) N9;omega,by omega⟩]
 simp only[eA,ff,eG];simp[Ct,ret]
theorem U6{c:Call}(ho:o.op=.call c)(hc:c.callee=.builtin .append)(hs:(fE P d o V k).sat P C Q K ν):cN P C Q K ν E V.ln k (bE P E d o σ):=by
 unfold fE at hs;rw[ho]at hs;simp only[hc]at hs;have bg:=fI hJ d c.args.toList c.argTypes.toList;split at hs<;>first|(exact hs.elim)|(exact(‹awx=awx→False› rfl).elim)|skip
 all_goals first|(rename_i hb _;cases hb;done)|skip
 rename_i base ca _ hh;rw[hh]at bg;obtain⟨x0,x1,hx,HE,kN⟩:=GJ bg;split at hs<;>first|(exact hs.elim)|skip
 rename_i t0 t1 R0 R4;split at hs<;>first|(exact hs.elim)|skip
 rotate_left
 ·rename_i et het _;exact aas hJ hn ho hc hx R0 R4 het HE kN hs
 rename_i et et1 het aat;split at hs<;>first|(exact hs.elim)|skip
 rename_i s z bytes aK vy K7;split at hs<;>first|(exact hs.elim)|skip
 rename_i bJ
 have Xo:s≠0∧z.cells.size=s:=by
  simp only[asP,asN,not_or,avB,auS]at bJ;refine⟨fun h=>?_,asd bJ.2⟩;have:=bJ.1;subst h;simp at this
 split at hs<;>first|(exact hs.elim)|skip
 rename_i fr es raw aau
 have main:(raw=true→∃z,(SE.rws es).den P ν=some z)→(Av bytes s base fr es V k).sat P C Q K ν→cN P C Q K ν E V.ln k (bE P E d o σ):=by
  intro dI hs;obtain⟨v,ai,R1,dt,pv,V1,μ,⟨m,n,new,h1,h2,h3,h4,h5,h6,h7,h8⟩,fw⟩:=U5 hJ hn HE kN aau dI hs;refine⟨v,ai,R1,dt,pv,V1,μ,?_,fw⟩;simp only[bE,ak,ho,hc,du,hx,jZ,R0,R4,og het,og aat,aK,vy,K7,rO,h2,h3,h1];rw[if_neg (by rintro(h|h);exact Xo.1 h;exact h Xo.2),if_pos ⟨h4,h5,h6,h7⟩,h8]
 split at hs
 ·rename_i hr;obtain⟨hz,hk⟩:=hs;exact main (fun _=>hz) hk
 ·rename_i hr;exact main (fun h=>absurd h hr) hs
end Go.Ev
namespace Go.Ev
variable{P:Program}{N:Nat}{σ ah:St}{R R':Rs}{φ aH:Ph}{E:Nat→Env}{ν:List IV}
variable{C:Cr}{Q:IV→Prop}{K:List (List IV→Prop)}{V:SS}{d:Nat}{o:Oper}{k:PV SE→SS→af}{L:List (LO SE)}{Γ:Gm SE}
theorem BS(hJ:J (aj P ν) R φ V.g V.l E σ){ty:Nat→TypeId}{place:Nat→Option (Nat×Nat)}:∀{parts:List (Nat×Operand)} {cells:List IV} {cs out:List (Cl SE)},All2 (cw (aj P ν) R φ V.l σ) cells cs→
 mY (fun j x=>ew (bG P d V (ty j) x)) place parts cs=some out→∃gn,pH place cells (parts.map fun(i,x)=>(i,aq (E d) x))=some gn∧All2 (cw (aj P ν) R φ V.l σ) gn out∧gn.length=cells.length∧(cells.all Ev.ab=true→gn.all Ev.ab=true)
 |[],cells,cs,out,h,hp=>by
  simp only[mY,ar7]at hp;subst hp;exact⟨cells,rfl,h,rfl,fun h=>h⟩
 |(j,x)::ps,cells,cs,out,h,hp=>by
  simp only[mY]at hp;split at hp
  ·rename_i off sz iW;split at hp
   ·rename_i hc;simp only[ar6,asL,atN]at hc;obtain⟨⟨c1,c2⟩,c3⟩:=hc;have ji:=yX (aW hJ d (ty j) x) c1;have bf:=pO ji c1;have hl:=ji.len;have mv:=h.len;obtain⟨gn,h1,h2,h3,h4⟩:=BS hJ (KV off h ji) hp;refine⟨gn,?_,h2,by rw[h3,tA (by omega)],fun ha=>h4 (wT ha bf)⟩;simp only[asY,pH,iW];rw[if_pos ⟨by omega,by omega,bf⟩];exact h1
   ·cases hp
  ·cases hp
theorem BU{zero:List IV}{s:Nat}(hl:zero.length=s)(hs:0<s)(n:Nat):gr zero (n*s)=(asn n zero).flatten:=by
 unfold gr;split
 ·rename_i z;simp at hl;subst hl;rw[Nat.mul_one];induction n with
  |zero=>rfl
  |succ n ih=>simp[auk]
 ·rw[hl,Nat.mul_div_cancel _ hs]
theorem K_{zero:List IV}{zc:List (Cl SE)}(h:All2 (cw (aj P ν) R φ L σ) zero zc):∀n,All2 (cw (aj P ν) R φ L σ) (asn n zero).flatten (NT zc n)
 |0=>trivial
 |n+1=>by
  rw[auk,auD];exact h.app (K_ h n)
theorem vg{zero:List IV}{s:Nat}(hl:zero.length=s):∀n,(asn n zero).flatten.length=n*s
 |0=>by simp
 |n+1=>by rw[auk,auD,asu,vg hl n,hl,asG];omega
theorem Xp{z:SE}(h:HP z=true){y:IV}(hy:z.den P ν=some y):au y=true:=by
 cases z<;>simp[HP]at h<;>(simp only[SE.den,ar7]at hy;subst hy;rfl)
theorem afz{V':SS}{c:Cl SE}{t:TypeId}{fr:Bool}{z:SE}{sn:List SE}(h:J (aj P ν) R φ V.g V.l E σ)(hr:rdT P V c t=some (fr,z,V',sn)):
 ∃R',iQ P ν R φ V σ R' V'∧J (aj P ν) R' φ V'.g V'.l E σ∧∀x,cw (aj P ν) R φ V.l σ x c→∃y,z.den P ν=some y∧aV true R' σ x y∧Ev.ab y=true∧((∀e∈sn,∃q,(SE.rw e).den P ν=some q)→aV fr R' σ x y):=by
 unfold rdT at hr;split at hr
 ·rename_i z';have Uf:=DM (c:=.v z') h rfl;obtain⟨R',h1,h2,h3⟩:=Uf;split at hr
  ·simp only[ar7,asx]at hr;obtain⟨rfl,rfl,rfl,rfl⟩:=hr;refine⟨R',h1,h2,fun x hx=>?_⟩;obtain⟨y,a1,a2,a3⟩:=h3 x hx;refine⟨y,a1,a2,a3,fun dI=>?_⟩
   have hy:au y=true:=by
    by_cases hl:HP z'=true
    ·exact Xp hl a1
    ·rw[if_neg hl]at dI;obtain⟨q,hq⟩:=dI z' (by simp);simp only[SE.den,a1,asc]at hq;split at hq
     ·assumption
     ·cases hq
   unfold au at hy;split at hy
   ·rw[bS a2];exact .raw _
   ·cases hy
  ·simp only[ar7,asx]at hr;obtain⟨rfl,rfl,rfl,rfl⟩:=hr;refine⟨R',h1,h2,fun x hx=>?_⟩;obtain⟨y,a1,a2,a3⟩:=h3 x hx;exact⟨y,a1,a2,a3,fun _=>a2⟩
 ·split at hr
  ·rename_i cL z' V1 jk;simp only[ar7,asx]at hr;obtain⟨rfl,rfl,rfl,rfl⟩:=hr;obtain⟨R',h1,h2,h3⟩:=DM h jk;refine⟨R',h1,h2,fun x hx=>?_⟩;obtain⟨y,a1,a2,a3⟩:=h3 x hx;exact⟨y,a1,a2.cu,a3,fun _=>a2⟩
  ·cases hr
theorem R5:∀{cs:List (Cl SE)} {ts:List TypeId} {V V':SS} {R:Rs} {fr:Bool} {zs sn:List SE},J (aj P ν) R φ V.g V.l E σ→Ju P V cs ts=some (fr,zs,V',sn)→
 ∃R',iQ P ν R φ V σ R' V'∧J (aj P ν) R' φ V'.g V'.l E σ∧zs.length=cs.length∧∀xs,All2 (cw (aj P ν) R φ V.l σ) xs cs→∃ys,All2 (fun(z:SE) y=>z.den P ν=some y) zs ys∧All2 (aV true R' σ) xs ys∧ys.all Ev.ab=true∧
  ((∀e∈sn,∃q,(SE.rw e).den P ν=some q)→All2 (aV fr R' σ) xs ys)
 |[],_,V,V',R,fr,zs,sn,h,hr=>by
  simp only[Ju,ar7,asx]at hr;obtain⟨rfl,rfl,rfl,rfl⟩:=hr;refine⟨R,.refl h,h,rfl,fun xs hx=>⟨[],trivial,?_,rfl,fun _=>?_⟩⟩<;>
  ·cases xs with
   |nil=>trivial
   |cons=>exact hx.elim
 |c::cs,[],V,V',R,fr,zs,sn,h,hr=>by simp[Ju]at hr
 |c::cs,t::ts,V,V',R,fr,zs,sn,h,hr=>by
  simp only[Ju]at hr;split at hr
  ·rename_i f1 z V1 r1 h1;split at hr
   ·rename_i f2 zs' V2 r2 h2;simp only[ar7,asx]at hr;obtain⟨rfl,rfl,rfl,rfl⟩:=hr;obtain⟨R1,a1,a2,a3⟩:=afz h h1;obtain⟨R2,b1,b2,bl,b3⟩:=R5 a2 h2;refine⟨R2,a1.trans b1,b2,by simp[bl],fun xs hx=>?_⟩;cases xs with
    |nil=>exact hx.elim
    |cons x xs=>
     obtain⟨y,c1,c2,c3,c4⟩:=a3 x hx.1;obtain⟨ys,d1,d2,d3,d4⟩:=b3 xs (hx.2.mono fun _ _ bR=>a1.KO bR);refine⟨y::ys,⟨c1,d1⟩,⟨c2.mono b1.2.2.2.grow,d2⟩,by simp[c3,d3],fun dI=>⟨((c4 fun e he=>dI e (by simp[he])).mono b1.2.2.2.grow).wide (fun h=>by simp[h]),(d4 fun e he=>dI e (by simp[he])).mono fun _ _ bR=>bR.wide (fun h=>by simp[h])⟩⟩
   ·cases hr
  ·cases hr
theorem La{f:af}:∀{es:List SE},(Uv es f).sat P C Q K ν→(∀e∈es,∃q,(SE.rw e).den P ν=some q)∧f.sat P C Q K ν
 |[],h=>⟨fun e he=>(by cases he),h⟩
 |e::es,h=>by
  obtain⟨h1,h2⟩:=h;obtain⟨h3,h4⟩:=La h2;exact⟨fun x hx=>(by rcases asZ.1 hx with rfl|hx;exact h1;exact h3 x hx),h4⟩
theorem Lb{s:Nat}:∀(n:Nat) {zs:List SE} {ys:List IV},All2 (fun(z:SE) y=>z.den P ν=some y) zs ys→ys.length=n*s→∃es:List IV,All2 (fun(z:SE) y=>z.den P ν=some y) (xQ s n zs) es∧es.length=n∧(∀e∈es,(cellsOf e).length=s)∧flat es=ys
 |0,zs,ys,h,hl=>by
  have:ys=[]:=asH (by simpa using hl);subst this;exact⟨[],trivial,rfl,fun e he=>(by cases he),rfl⟩
 |n+1,zs,ys,h,hl=>by
  rw[asG,Nat.one_mul]at hl;obtain⟨es,h1,h2,h3,h4⟩:=Lb (s:=s) n (h.drop s) (by simp;omega);refine⟨.agg (ys.take s)::es,⟨ey (h.take s),h1⟩,by simp[h2],fun e he=>?_,?_⟩
  ·rcases asZ.1 he with rfl|he
   ·simp[cellsOf];omega
   ·exact h3 e he
  ·show cellsOf (.agg (ys.take s))++flat es=ys;rw[h4];exact List.take_append_drop s ys
theorem Lc:∀{ys:List IV},ys.all Ev.ab=true→(∀e∈ys,(cellsOf e).length=1)∧flat ys=ys
 |[],_=>⟨fun e he=>(by cases he),rfl⟩
 |y::ys,h=>by
  simp only[List.all_cons,ar6]at h;obtain⟨h1,h2⟩:=Lc h.2;refine⟨fun e he=>?_,?_⟩
  ·rcases asZ.1 he with rfl|he
   ·rw[zV h.1];rfl
   ·exact h1 e he
  ·show cellsOf y++flat ys=y::ys;rw[h2,zV h.1];rfl
variable(hJ:J (aj P ν) R φ V.g V.l E σ)(hn:ν.length=V.n)
include hJ hn
theorem Xq{t:TypeId}{parts:Array (Nat×Operand)}(ho:o.op=.build t parts)(hs:(fE P d o V k).sat P C Q K ν):cN P C Q K ν E V.ln k (bE P E d o σ):=by
 unfold fE at hs;rw[ho]at hs;simp only at hs;split at hs
 ·rename_i fields hu;split at hs
  ·exact hs.elim
  ·rename_i hc;simp only[asP,asN,not_or,avB,auS]at hc;split at hs
   ·rename_i cs hp;cases hz:cj P t with
    |none=>rw[hz]at hc;simp at hc
    |some z=>
     obtain⟨gn,h1,h2,_⟩:=BS (ty:=afi fields) hJ (mD (P:=P) (ν:=ν) (R:=R) (φ:=φ) (L:=V.l) (σ:=σ) hz) hp;refine .here (x:=.agg gn) (pv:=.ag cs) (ai:=σ) ?_ hJ ⟨_,rfl,h2⟩ hn rfl hs;have cH:pH (fun i=>(fields[i]?).bind fun f=>(aI P f.type).map fun s=>(f.offset,s)) (z.cells.toList.map IV.raw) (parts.toList.map fun(i,x)=>(i,aq (E d) x))=some gn:=h1;simp only[bE,ak,ho,hz,hu,cH,hc.1,ret,if_true]
   ·exact hs.elim
 ·rename_i len et hu;split at hs
  ·rename_i s aK;split at hs
   ·exact hs.elim
   ·rename_i hc;split at hs
    ·rename_i cs hp;cases hz:cj P t with
     |none=>rw[hz]at hc;simp at hc
     |some z=>
      obtain⟨gn,h1,h2,_⟩:=BS (ty:=fun _=>et) hJ (mD (P:=P) (ν:=ν) (R:=R) (φ:=φ) (L:=V.l) (σ:=σ) hz) hp;refine .here (x:=.agg gn) (pv:=.ag cs) (ai:=σ) ?_ hJ ⟨_,rfl,h2⟩ hn rfl hs;have cH:pH (fun i=>some (i*s,s)) (z.cells.toList.map IV.raw) (parts.toList.map fun(i,x)=>(i,aq (E d) x))=some gn:=h1;simp only[bE,ak,ho,hz,hu,aK,cH,ret]
    ·exact hs.elim
  ·exact hs.elim
 ·exact hs.elim
theorem JK{t:TypeId}{len:Nat}{parts:Array (Nat×Operand)}(ho:o.op=.buildSlice t len parts)(hs:(fE P d o V k).sat P C Q K ν):cN P C Q K ν E V.ln k (bE P E d o σ):=by
 unfold fE at hs;rw[ho]at hs;simp only at hs;split at hs<;>first|(exact hs.elim)|skip
 rename_i et het;have hu:=og het;split at hs<;>first|(exact hs.elim)|skip
 rename_i s z aK hz;split at hs<;>first|(exact hs.elim)|skip
 rename_i hc;simp only[asP,asN,not_or,avB,auS,atN]at hc;obtain⟨⟨c1,c2⟩,c3⟩:=hc;have bu:s≠0:=by intro h;subst h;simp at c1
 have rP:z.cells.size=s:=asd c2;have RX:(z.cells.toList.map IV.raw).length=s:=by simp[rP]
 split at hs
 ·rename_i jB;have aav:=asd jB;subst aav;split at hs
  ·rename_i Dk;have anW:parts.toList=[]:=by simpa using Dk
   refine .at (x:=.emp) hs hJ hn rfl ⟨by omega,rfl⟩ ?_
   have K9:gr (z.cells.toList.map IV.raw) 0=[]:=by
    have:=BU RX (by omega) 0;simpa using this
   simp only[bE,ak,ho,hu,aK,hz,anW,atW,pH,au9,K9];rw[if_neg (by rintro(h|h|h);exact bu h;exact h rP;simp at h)];simp[ret]
  ·exact hs.elim
 ·rename_i jB;have aav:len≠0:=by intro h;subst h;simp at jB
  split at hs<;>first|(exact hs.elim)|skip
  rename_i cs hp;split at hs<;>first|(exact hs.elim)|skip
  rename_i fr zs V2 rws jk;split at hs<;>first|(exact hs.elim)|skip
  rename_i CN;obtain⟨dI,hk⟩:=La hs;have On:=K_ (mD (P:=P) (ν:=ν) (R:=R) (φ:=φ) (L:=V.l) (σ:=σ) hz) len;obtain⟨gn,h1,h2,h3,h4⟩:=BS (ty:=fun _=>et) hJ On hp;obtain⟨R',dK,dP,arW,GI⟩:=R5 hJ jk;obtain⟨ys,b1,b2,b3,b4⟩:=GI _ h2;have eu:gn.length=len*s:=by rw[h3,vg RX]
  have FP:ys.length=len*s:=by rw[←b2.len,eu]
  have vT:gn.all Ev.ab=true:=by
   rw[asl];intro c hc;obtain⟨i,hi⟩:=atT hc;have aa:i<ys.length:=by rw[←b2.len];exact(ar5.1 hi).1
   exact(b2.get hi (ar4 aa)).ab (asl.1 b3 _ (List.getElem_mem aa))
  obtain⟨es,gh,afA,afB,anX⟩:∃es:List IV,(dN (if isAgg P et=true then xQ s len zs else zs)).den P ν=some (.agg es)∧es.length=len∧(∀e∈es,(cellsOf e).length=s)∧flat es=ys:=by
   by_cases ha:isAgg P et=true
   ·rw[if_pos ha];obtain⟨es,e1,e2,e3,e4⟩:=Lb (s:=s) len b1 FP;exact⟨es,ey e1,e2,e3,e4⟩
   ·rw[if_neg ha]
    have c9:s=1:=by
     simp only[asN,Bool.or_eq_false_iff,not_and,auS]at CN;exact asd (CN (by simpa using ha))
    subst c9;obtain⟨e1,e2⟩:=Lc b3;exact⟨ys,ey b1,by omega,e1,e2⟩
  have hcr:pj fr R' σ gn (flat es):=by
   rw[anX];intro j x y hx hy;cases fr with
   |true=>exact b2.get hx hy
   |false=>exact(b4 dI).get hx hy
  have pk:(SE.tr s (dN (if isAgg P et=true then xQ s len zs else zs))).den P ν=some (.tree s es):=by
   simp only[SE.den,gh,asc];rw[if_pos ⟨by omega,by rw[asl];intro e he;simp[afB e he]⟩]
  have xH:ν.length=V2.n:=by rw[hn];exact dK.2.1.symm
  have tV:=dP.xM (.cells gn 0 0) (.row s false false fr (.tr s (dN (if isAgg P et then xQ s len zs else zs))))
   ⟨by omega,es,pk,afB,.inr ⟨σ.n,gn,0,0,by simp[bP],by simp,ar9 _,by rw[eu,afA];exact ar9 _,dP.qJ,vT,fun j x y hx hy=>(hcr j x y hx hy).mono (KK dP _)⟩⟩
  refine .at (x:=.sl σ.n 0 len (some len) 0 s) (V1:={V2 with l:=V2.l++[.row s false false fr (.tr s (dN (if isAgg P et then xQ s len zs else zs)))]}) hk tV xH dK.2.2.1
   ⟨s,false,false,fr,_,es,by simp,pk,.inr ⟨σ.n,gn,0,0,some len,by simp[bP],by simp,by simp[afA],asT _,fun h=>(by cases h),fun c hc=>(by cases hc;exact⟨rfl,by omega,by omega⟩)⟩⟩ ?_
  have cH:pH (fun i=>some (i*s,s)) (asn len (z.cells.toList.map IV.raw)).flatten (parts.toList.map fun(i,x)=>(i,aq (E d) x))=some gn:=h1;simp only[bE,ak,ho,hu,aK,hz,BU RX (by omega),cH,ret];rw[if_neg (by rintro(h|h|h);exact bu h;exact h rP;omega),if_pos ⟨eu,vT⟩,if_neg aav]
end Go.Ev
namespace Go.Ev
variable{P:Program}{N:Nat}{σ ah:St}{R R':Rs}{φ aH:Ph}{E:Nat→Env}{ν:List IV}
variable{C:Cr}{Q:IV→Prop}{K:List (List IV→Prop)}{V:SS}{d:Nat}{o:Oper}{k:PV SE→SS→af}{L:List (LO SE)}{Γ:Gm SE}
variable(hJ:J (aj P ν) R φ V.g V.l E σ)(hn:ν.length=V.n)
include hJ
theorem R6:∀{xs:List Operand} {bs:List (Nat×Nat)},NS P d V xs=some bs→All2 (fun y (p:Nat×Nat)=>∃id cs,φ p.1=some id∧V.l[p.1]?=some (.var cs)∧y=.ptr id 0 0 p.2) (xs.map (aq (E d))) bs
 |[],bs,h=>by
  simp only[NS,ar7]at h;subst h;trivial
 |x::xs,bs,h=>by
  simp only[NS]at h;split at h
  ·rename_i j ext hx;split at h
   ·rename_i l hl;simp only[ar7]at h;subst h;have hv:=aW hJ d 0 x;rw[hx]at hv;exact⟨hv,R6 hl⟩
   ·cases h
  ·cases h
include hn
theorem Oo{f:FuncId}{first cap:Array Operand}(ho:o.op=.makeFunc (.func f) first cap)(hs:(fU P d o V k).sat P C Q K ν):cN P C Q K ν E V.ln k (bE P E d o σ):=by
 unfold fU at hs;rw[ho]at hs;simp only at hs;split at hs
 ·rename_i hf;split at hs
  ·rename_i bs hb;refine .at (x:=.fn (.func f) [] (cap.toList.map (aq (E d)))) hs hJ hn rfl (.inr ⟨_,rfl,R6 hJ hb⟩) ?_;simp only[List.isEmpty_iff]at hf;simp[bE,ak,ho,ret,hf]
  ·exact hs.elim
 ·exact hs.elim
theorem Q9{t:TypeId}{r:Option Operand}(ho:o.op=.makeMap t r)(hs:(fU P d o V k).sat P C Q K ν):cN P C Q K ν E V.ln k (bE P E d o σ):=by
 unfold fU at hs;rw[ho]at hs;simp only at hs;split at hs
 ·rename_i kt et hu;split at hs
  ·exact hs.elim
  rename_i d_;have d_:¬gk kt=true:=d_;have h1:=hJ.xM (.map [] 0) (.mp kt (.tp .an)) (by rw[gw,if_neg d_];exact⟨σ.n,[],0,[],by simp[aj,SE.den],by simp[bP],hJ.qJ,by simp,trivial,rfl,fun i e h=>by simp at h⟩);refine .at (x:=.map σ.n) (V1:={V with l:=V.l++[.mp kt (.tp .an)]}) hs h1 hn rfl ⟨σ.n,kt,SE.tp .an,by simp[bP],by simp,(if_neg d_).symm⟩ ?_;simp[bE,ak,ho,ret]
 ·exact hs.elim
end Go.Ev
namespace Go.Ev
variable{P:Program}{N:Nat}{σ ah:St}{R R':Rs}{φ aH:Ph}{E:Nat→Env}{ν:List IV}
variable{C:Cr}{Q:IV→Prop}{K:List (List IV→Prop)}{V:SS}{d:Nat}{o:Oper}{k:PV SE→SS→af}{L:List (LO SE)}{Γ:Gm SE}
theorem yb:∀{cs:List IV} {vs:List Value},ux cs=some vs→cs=vs.map .raw
 |[],vs,h=>by simp only[ux,ar7]at h;subst h;rfl
 |c::cs,vs,h=>by
  unfold ux at h;split at h<;>first|(cases h;done)|skip
  all_goals
   obtain⟨ws,h1,rfl⟩:=ar_.1 h;rw[yb h1];rfl
theorem yc:∀vs:List Value,f_ (vs.map .raw)=some vs
 |[]=>rfl
 |v::vs=>by simp only[asY,f_,yc vs]
theorem DQ{x:IV}{v:Value}(h:keyOf x=some v):ib x=some v∧lift v=x:=by
 unfold keyOf at h;split at h<;>first|(cases h;exact⟨rfl,rfl⟩)|(cases h;done)|skip
 rename_i cs;obtain⟨vs,h1,rfl⟩:=ar_.1 h;have:=yb h1;subst this;refine⟨?_,by simp[lift]⟩;simp only[ib,oR,yc]
theorem BV{fr:Bool}{x:IV}{cs:List IV}(h:aV fr R σ x (.agg cs)):∃xs,x=.agg xs∧All2 (aV fr R σ) xs cs:=by
 cases h with
 |agg p6 _ hl hh=>exact⟨p6,rfl,.mk hl hh⟩
 |pure _ hf hp=>
  refine⟨cs,rfl,.mk rfl fun i a b h1 h2=>?_⟩;rw[h1]at h2;cases h2;cases hp with
  |agg _ hh=>exact .pure a hf (hh a (ash h1))
theorem DR{fr:Bool}{x u:IV}{v:Value}(h:keyOf x=some v)(hc:aV fr R σ u x):u=x:=by
 unfold keyOf at h;split at h<;>first|(exact bS hc)|(cases h;done)|skip
 rename_i cs;obtain⟨vs,h1,rfl⟩:=ar_.1 h;have:=yb h1;subst this;obtain⟨xs,rfl,il⟩:=BV hc
 congr 1
 apply List.ext_getElem?;intro i;cases hi:xs[i]? with
 |none=>
  have:(vs.map IV.raw)[i]?=none:=by
   rw[List.getElem?_eq_none_iff]at hi⊢;rw[←il.len];exact hi
  rw[this]
 |some a=>
  have aa:=(ar5.1 hi).1;rw[il.len]at aa;have hb:=ar4 aa;have:=il.get hi hb;rw[hb];simp only[List.getElem_map]at this⊢;rw[bS this]
theorem aaw{u v:Value}(h:keyOf (lift u)=some v):u=v:=by
 obtain⟨h1,_⟩:=DQ h;unfold lift at h1;split at h1
 ·rename_i cs;simp only[ib,oR,yc,ar7]at h1;rw[←h1]
 ·cases h1;rfl
theorem R7{es:List (Value×IV×Nat)}{ds:List IV}{ks:List Value}(he:yP R σ es ds)(h:nM ds=some ks):es.map (·.1)=ks:=by
 unfold yP at he;induction ds generalizing es ks with
 |nil=>
  cases es with
  |nil=>simp only[nM,ar7]at h;subst h;rfl
  |cons=>exact he.elim
 |cons d ds ih=>
  cases es with
  |nil=>exact he.elim
  |cons e es=>
   obtain⟨⟨z,rfl,_⟩,h2⟩:=he;simp only[nM]at h;split at h
   ·rename_i v vs h3 h4;simp only[ar7]at h;subst h;simp only[asY,aaw h3,ih h2 h4]
   ·cases h
theorem Ie{kd:TypeDesc}{key:Value}:∀{es:List (Value×IV×Nat)} {n:Nat} {q:Option Nat},nowAt kd key (es.map (·.1)) n=some q→
 ∃r,ath kd key (es.map fun e=>{key:=e.1,val:=asQ,born:=e.2.2}) n=some r∧(q=none→r=none)∧(∀j,q=some j→(∃v,r=some (j,v))∧n≤j∧∃e,es[j- n]?=some e∧avd kd key e.1=some true)
 |[],n,q,h=>by
  simp only[atW,nowAt,ar7]at h;subst h;exact⟨none,rfl,fun _=>rfl,fun j hj=>by cases hj⟩
 |e::es,n,q,h=>by
  simp only[asY,nowAt]at h;simp only[asY,ath];split at h
  ·rename_i hs;simp only[ar7]at h;subst h;refine⟨some (n,asQ),by rw[hs],(fun h=>by cases h),fun j hj=>?_⟩;cases hj;exact⟨⟨_,rfl⟩,ar9 _,e,by simp,hs⟩
  ·rename_i hs;obtain⟨r,h1,h2,h3⟩:=Ie h;refine⟨r,by rw[hs];exact h1,h2,fun j hj=>?_⟩;obtain⟨h4,h5,e',h6,h7⟩:=h3 j hj;refine⟨h4,by omega,e',?_,h7⟩;rw[show j- n=(j-(n+1))+1 by omega];simpa using h6
  ·cases h
theorem run_underlying{t:TypeId}{kd:TypeDesc}(h:P.underlying t=some kd):aJ P (underlying t)=some kd:=by
 unfold underlying;rw[bj];show(aJ P (.program fun p=>.pure p)).bind _=_;simp only[aJ,asc,h];rfl
theorem CO{kd:TypeDesc}{k:Value}:∀(es aB:List MapEntry) (n:Nat),es.map (fun e=>(e.key,e.val))=aB.map (fun e=>(e.key,e.val))→ath kd k es n=ath kd k aB n
 |[],[],_,_=>rfl
 |[],e'::aB,_,h=>by simp at h
 |e::es,[],_,h=>by simp at h
 |e::es,e'::aB,n,h=>by
  simp only[asY,as5,asx]at h;simp only[ath];rw[h.1.1,h.1.2,CO es aB (n+1) h.2]
theorem yd{kt:TypeId}{k:Value}:∀(es aB:List MapEntry) (n:Nat),es.map (fun e=>(e.key,e.val))=aB.map (fun e=>(e.key,e.val))→as0 kt k es n=as0 kt k aB n
 |[],[],_,_=>rfl
 |[],e'::aB,_,h=>by simp at h
 |e::es,[],_,h=>by simp at h
 |e::es,e'::aB,n,h=>by
  simp only[asY,as5,asx]at h;simp only[as0];rw[h.1.1,h.1.2,yd es aB (n+1) h.2]
theorem U7{b:Bool}{kt:TypeId}{k:Value}{es aB:List (Value×IV×Nat)}(h:es.map (·.1)=aB.map (·.1)):gG P b kt k es=gG P b kt k aB:=by
 have hm:(es.map fun e=>({key:=e.1,val:=asQ,born:=e.2.2}:MapEntry)).map (fun e=>(e.key,e.val))=(aB.map fun e=>({key:=e.1,val:=asQ,born:=e.2.2}:MapEntry)).map (fun e=>(e.key,e.val)):=by
  simp only[avL]
  have:∀l:List (Value×IV×Nat),l.map ((fun e:MapEntry=>(e.key,e.val))∘fun e=>({key:=e.1,val:=asQ,born:=e.2.2}:MapEntry))=(l.map (·.1)).map fun k=>(k,asQ):=fun l=>by
   rw[avL];rfl
  rw[this,this,h]
 unfold gG
 have hf:atB kt k (es.map fun e=>{key:=e.1,val:=asQ,born:=e.2.2})=atB kt k (aB.map fun e=>{key:=e.1,val:=asQ,born:=e.2.2}):=by
  unfold atB
  congr 1
  funext d;rw[CO _ _ 0 hm,yd _ _ 0 hm]
 rw[hf]
theorem vA{kt:TypeId}{ds:List IV}{x:IV}{q:Option Nat}{es:List (Value×IV×Nat)}(he:yP R σ es ds)(h:fc P kt ds x=some q)(b:Bool):
 ∃key,keyOf x=some key∧ib x=some key∧lift key=x∧gG P b kt key es=some q∧∀j,q=some j→∃e,es[j]?=some e∧auL 10000 e.1 key=true:=by
 unfold fc at h;split at h
 ·rename_i kd ks key hk eQ mw;have h1:=mw;obtain⟨h2,h3⟩:=DQ mw;have gh:=R7 he eQ;rw[←gh]at h;obtain⟨r,g1,g2,g3⟩:=Ie h;refine⟨key,h1,h2,h3,?_,fun j hj=>?_⟩
  ·have hu:P.underlying kt=some kd∧((∃q,kd=.int q)∨kd=.string):=by
    unfold ER at hk;split at hk
    ·rename_i q hq;cases hk;exact⟨hq,.inl ⟨_,rfl⟩⟩
    ·rename_i hq;cases hk;exact⟨hq,.inr rfl⟩
    ·cases hk
   have hck:aJ P (avS b 10000 kt key)=some ():=by
    show aJ P (avS b (9999+1) kt key)=some ();unfold avS;rw[bj,run_underlying hu.1,asc];rcases hu.2 with⟨q,rfl⟩|rfl<;>rfl
   have R8:aJ P (atB kt key (es.map fun e=>{key:=e.1,val:=asQ,born:=e.2.2}))=some r:=by
    unfold atB;rw[bj,run_underlying hu.1,asc,g1];rfl
   unfold gG;rw[bj,hck,asc,R8];cases q with
   |none=>rw[g2 rfl]
   |some j=>obtain⟨⟨v,rfl⟩,_⟩:=g3 j rfl;rfl
  ·obtain⟨_,_,e,g4,g5⟩:=g3 j hj;refine⟨e,by simpa using g4,?_⟩;unfold avd at g5;split at g5
   ·rename_i hh;split at g5
    ·rename_i hq;simp only[ar7]at g5;rw[‹e.1=_›];simp[auL,hq,eq_of_beq g5]
    ·cases g5
   ·rename_i a b l5;rw[l5];simp only[ar7]at g5;have hd:a.data=b.data:=eq_of_beq (show(a.data==b.data)=true from g5);show(b.data==a.data)=true;simp[hd]
   ·rw[‹e.1=_›];simp only[ar7]at g5;simp[auL,eq_of_beq g5]
   ·cases g5
 ·rename_i ks key hk eQ mw;obtain⟨h2,h3⟩:=DQ mw;have gh:=R7 he eQ;have wb:∀b',gG P b' kt key es=gG P b' kt key (ks.map fun e=>(e,.undef,0)):=fun b'=>U7 (by rw[gh];simp[Function.comp_def]);unfold HW at h;split at h<;>first|(cases h;done)|skip
  rename_i q1 q2 Cs M7;split at h<;>first|(cases h;done)|skip
  rename_i hqq;subst hqq
  have hkb:gG P b kt key es=some q1:=by
   rw[wb];cases b
   ·exact M7
   ·exact Cs
  split at h
  ·cases h;exact⟨key,mw,h2,h3,hkb,fun j hj=>by cases hj⟩
  ·rename_i j;split at h<;>first|(cases h;done)|skip
   rename_i e hj;split at h<;>first|(cases h;done)|skip
   rename_i Wu;cases h;refine⟨key,mw,h2,h3,hkb,fun j' kb=>?_⟩;cases kb;rw[←gh,asi]at hj;obtain⟨e',h5,h6⟩:=ar_.1 hj;exact⟨e',h5,by rw[h6];exact Wu⟩
 ·cases h
end Go.Ev
