/- Lemmas over the model, without conditions of their own: operations on expressions (2). -/
import Derived.Test.YtggffkaadeagbaaGreatEvK
open List renaming eq_nil_of_length_eq_zero->arf,all_append->aun,getElem?_take->ard,all_eq_true->aqW,getElem?_append_left->aqQ,getElem?_append_right->aq_,getElem?_eq_some_iff->aqF,length_append->aq3,getElem?_of_mem->asq,mem_of_getElem?->aqS,mem_flatMap->asL,getElem?_map->aqU,replicate->aq1,eq_of_mem_replicate->arR,map_cons->arC,replicate_succ->asO,flatten_cons->as9,mem_cons->arv,map_nil->as_,getElem?_eq_getElem->aqE,map_map->ato
open Nat renaming add_mul->are,le_refl->aqK,zero_le->arw,mul_le_mul_right->aq8,sub_zero->at6,zero_mul->atG,beq_eq->ark,eq_of_beq_eq_true->aqO,ble_eq->asj
open Option renaming bind_eq_some_iff->aqZ,bind_some->aqN,map_eq_some_iff->aqL
open Bool renaming and_eq_true->aqG,not_eq_true'->aru,or_eq_true->arl,not_eq_true->aue,not_eq_false->atr
open Option.some renaming injEq->aqH
open Prod.mk renaming injEq->aq6
open Go.Builtin renaming len->avG,append->avb
open Go.Instr renaming findNow->arQ,sameNow->atM,findAsking->arD,findKey->ar7,sameBits->ati,checkKey->aus
open Go renaming undef->art
open List.cons renaming injEq->arF
set_option linter.all false
namespace Go.Ev
variable{P:Program}{N:Nat}{σ ah:St}{R R':Rs}{φ aG:Ph}{E:Nat→Env}{ν:List IV}
variable{C:Cr}{Q:IV→Prop}{K:List (List IV→Prop)}{V:SS}{d:Nat}{o:Oper}{k:PV SE→SS→ab}{L:List (LO SE)}{Γ:Gm SE}
theorem J.reZ(h:J (aj P ν) R φ Γ L E σ){k s:Nat}{st cut fr cX:Bool}{z z':SE}{es:List IV}(hk:L[k]?=some (.row s st cut fr z))(hz:z.den P ν=some (.tree s es))(oX:z'.den P ν=some (.tree s es))(hf:fr=true→cX=true):
 jZ (aj P ν) (aj P ν) R φ L σ R φ (L.set k (.row s st cut cX z')) σ (fun _=>False)∧J (aj P ν) R φ Γ (L.set k (.row s st cut cX z')) E σ:=by
 have ot:=c7 hk;have aT:∀j,j≠k→(L.set k (.row s st cut cX z'))[j]?=L[j]? :=fun j hj=>List.getElem?_set_ne (fun hc=>hj hc.symm);have aW:(L.set k (.row s st cut cX z'))[k]?=some (.row s st cut cX z'):=by simp[ot]
 have hs:jZ (aj P ν) (aj P ν) R φ L σ R φ (L.set k (.row s st cut cX z')) σ (fun _=>False):=by
  refine⟨fun _ _ h=>h,iv.refl h.fits,fun j nJ hj=>?_,fun j kt eP hj=>?_,fun j s1 rS ry rT z1 hj _=>?_⟩
  ·by_cases bD:j=k
   ·subst bD;rw[hk]at hj;cases hj
   ·exact⟨⟨nJ,by rw[aT j bD];exact hj⟩,rfl⟩
  ·by_cases bD:j=k
   ·subst bD;rw[hk]at hj;cases hj
   ·exact⟨⟨eP,by rw[aT j bD];exact hj⟩,rfl⟩
  ·by_cases bD:j=k
   ·subst bD;rw[hk]at hj;cases hj;refine⟨⟨st,cX,z',aW,fun eP l5=>⟨es,oX,?_⟩⟩,rfl,fun _ nJ _ z7 _ qi=>⟨nJ,z7,qi,rfl,fun h=>h⟩⟩;have OJ:z.den P ν=some (.tree s eP):=l5;rw[hz]at OJ;cases OJ;rfl
   ·exact⟨⟨rS,rT,z1,by rw[aT j bD];exact hj,fun eP l5=>⟨eP,l5,rfl⟩⟩,rfl,fun _ nJ _ z7 _ qi=>⟨nJ,z7,qi,rfl,fun h=>h⟩⟩
 refine⟨hs,{h with slot:=fun d t pv hg=>(h.slot d t pv hg).step hs pv.aU,obj:=fun j o hj=>?_,lt:=fun j id hj=>by simpa using h.lt j id hj}⟩;by_cases bD:j=k
 ·subst bD;rw[aW]at hj;cases hj;obtain⟨bA,gK,g1,g2,g3⟩:=h.obj j _ hk;have mM:z.den P ν=some (.tree s gK):=g1;rw[hz]at mM;cases mM;refine⟨bA,es,oX,g2,?_⟩;rcases g3 with g3|⟨br,cq,ik,oS,g3,g4,g5,g6,g7,g8,g9⟩
  ·exact .inl g3
  ·exact .inr ⟨br,cq,ik,oS,g3,g4,g5,g6,g7,g8,fun j x d hx hd=>(g9 j x d hx hd).wide hf⟩
 ·rw[aT j bD]at hj;exact(h.obj j o hj).step hs rfl (fun _ _=>⟨rfl,rfl⟩) o.aU
theorem Sx{σ:St}(hw:σ.t.WF)(id:Nat)(a b:Ob):(σ.put id a).put id b=σ.put id b:=by
 unfold St.put
 congr 1
 refine T.WF.ext ((hw.set _ _).set _ _) (hw.set _ _) fun i=>?_;simp only[T.fQ];split<;>rfl
theorem xz{s len n:Nat}{new cC:List IV}{x:IV}(h:eF s len σ x=some cC)(hl:cC.length=len*s):ff s len n new x σ=ret (.sl σ.n 0 (len+n) none 0 s) (σ.add (.cells (cC++new) 0 0)):=by
 simp[ff,h,hl]
theorem Ii(h:J (aj P ν) R φ Γ L E σ){k s:Nat}{st cut fr cX:Bool}{z z':SE}{es fs new:List IV}{x:IV}(hk:L[k]?=some (.row s st cut fr z))(hz:z.den P ν=some (.tree s es))(oX:z'.den P ν=some (.tree s (es++fs)))
 (hx:cz (aj P ν) R φ L σ x (.sr k))(HA:new.length=fs.length*s)(C5:oZ cX R σ new (flat fs))(hnc:new.all Ev.af=true)(xA:∀e∈fs,(cellsOf e).length=s)(p_:(st&&cut)=false)
 (Lb:∀d t pv,ct d t Γ=some pv→pv.ok (·=k))(hL:∀j o,L[j]?=some o→j≠k→o.ok (·=k)):
 ∃x' ah R' aG,eA 0 s es.length fs.length new x σ=some (.val x' ah)∧J (aj P ν) R' aG Γ (L.set k (.row s st cut (cX||fr) z')) E ah∧cz (aj P ν) R' aG (L.set k (.row s st cut (cX||fr) z')) ah x' (.sr k):=by
 obtain⟨bA,gK,g1,g2,g3⟩:=h.obj k _ hk;have mM:z.den P ν=some (.tree s gK):=g1;rw[hz]at mM;cases mM;have ot:=c7 hk;have aW:(L.set k (.row s st cut (cX||fr) z'))[k]?=some (.row s st cut (cX||fr) z'):=by simp[ot]
 have afn:∀e∈es++fs,(cellsOf e).length=s:=fun e he=>(List.mem_append.1 he).elim (g2 e) (xA e);have ie:=hx;obtain⟨s2,Xf,aan,Xg,z2,Lq,a1,a2,a3⟩:=hx;rw[hk]at a1;cases a1;have rV:z.den P ν=some (.tree s Lq):=a2;rw[hz]at rV;cases rV;by_cases ko:fs.length=0
 ·have amL:fs=[]:=arf ko;subst amL;rw[List.append_nil]at oX;obtain⟨hs,hJ⟩:=h.reZ (cX:=cX||fr) hk hz oX (fun h=>by simp[h]);refine⟨x,σ,R,φ,?_,hJ,ie.step hs (Cl.aU _)⟩;rcases a3 with⟨_,_,rfl|rfl⟩|⟨id,cs,au,mn,cap,_,_,rfl,_⟩<;>simp[eA,ret]
 have fresh:∀cC:List IV,cC.length=es.length*s→(∀(j:Nat) x d,cC[j]?=some x→(flat es)[j]?=some d→aY fr R σ x d)→cC.all Ev.af=true→
  ∃R' aG,J (aj P ν) R' aG Γ (L.set k (.row s st cut (cX||fr) z')) E (σ.add (.cells (cC++new) 0 0))∧cz (aj P ν) R' aG (L.set k (.row s st cut (cX||fr) z')) (σ.add (.cells (cC++new) 0 0)) (.sl σ.n 0 (es.length+fs.length) none 0 s) (.sr k):=by
  intro cC Lr ho2 ho3
  let R':Rs:=fun i=>if i=σ.n then(if st then some ((es++fs).length*s)else none)else R i
  have hlen:(cC++new).length=(es++fs).length*s:=by simp[Lr,HA,are]
  obtain⟨hs,hJ⟩:=h.aeW (R':=R') (bad:=(·=k)) (jK:=.row s st cut (cX||fr) z') (eE:=.cells (cC++new) 0 0) hk (fun j hj=>by simp[R',hj])
   (fun m cs au mn hm ho=>by
    injection ho with Lr ho2 ho3
    subst Lr;simp only[R',if_true]at hm;split at hm
    ·cases hm;rw[hlen];exact aqK _
    ·cases hm)
   ⟨_,_,_,_,_,rfl⟩ rfl Lb hL
   (fun hs=>⟨bA,es++fs,oX,afn,.inr ⟨σ.n,cC++new,0,0,by simp[bQ],by simp,aqK _,by rw[hlen];exact aqK _,by simp[R'],by rw[aun,ho3,hnc];rfl,fun j x d hx hd=>by
    rw[Bu]at hd;have hc:=Vm ho2 (by rw[Lr,na g2]) C5 j x d hx hd;rw[Bool.or_comm]at hc;exact hc.mono hs.grow⟩⟩)
  refine⟨R',bQ φ k σ.n,hJ,s,st,cut,cX||fr,z',es++fs,aW,oX,.inr ⟨σ.n,cC++new,0,0,none,by simp[bQ],by simp,by simp,arw _,fun _ _=>hlen.symm,fun c hc=>by cases hc⟩⟩
 rcases a3 with⟨b1,b2,b3⟩|⟨id,cs,au,mn,cap,b1,b2,rfl,b4,b5,b6⟩
 ·have he0:es=[]:=arf b2;subst he0;obtain⟨R',aG,hJ,hV⟩:=fresh [] (by simp) (fun j x d h=>by simp at h) rfl;refine⟨_,_,R',aG,?_,hJ,hV⟩;rcases b3 with rfl|rfl
  ·simp only[eA];rw[if_pos ⟨trivial,trivial⟩,if_neg ko,xz (cC:=[]) (by simp[eF]) (by simp)];rfl
  ·simp only[eA];rw[if_neg ko,xz (cC:=[]) (by simp[eF]) (by simp)];rfl
 ·rcases g3 with⟨g3,_⟩|⟨br,cq,ik,oS,g3,g4,g5,g6,g7,g8,g9⟩
  ·rw[b1]at g3;cases g3
  rw[b1]at g3;cases g3;rw[b2]at g4;cases g4
  have hold:eF s es.length σ (.sl id (0*s) (es.length- 0) cap au s)=some (cs.take (es.length*s)):=by
   simp only[eF];rw[if_pos ⟨trivial,by simp⟩,b2];simp only;rw[if_pos ⟨g5,aqK _,by omega⟩];simp
  have M_:(cs.take (es.length*s)).length=es.length*s:=by simp;omega
  have ai4:∀(j:Nat) x d,(cs.take (es.length*s))[j]?=some x→(flat es)[j]?=some d→aY fr R σ x d:=fun j x d hx hd=>by
   rw[ard]at hx;split at hx
   ·exact g9 j x d hx hd
   ·cases hx
  have ab2:(cs.take (es.length*s)).all Ev.af=true:=by
   rw[aqW]at g8⊢;exact fun c hc=>g8 c (List.mem_of_mem_take hc)
  have J0:∀(ob:List IV) (sS Ct:Nat),(R id=none∨(Ct=mn∧au≤sS))→Ct≤sS→(∀j,j<es.length*s→ob[j]?=cs[j]?)→(∀j,j<new.length→ob[es.length*s+j]?=new[j]?)→(es++fs).length*s≤ob.length→ob.all Ev.af=true→
   ∀OT,(OT=none→cut=false→(es++fs).length*s=ob.length)→(∀c,OT=some c→Ct=sS∧c*s≤ob.length∧(es++fs).length≤c)→
   ∃R',J (aj P ν) R' φ Γ (L.set k (.row s st cut (cX||fr) z')) E (σ.put id (.cells ob sS Ct))∧cz (aj P ν) R' φ (L.set k (.row s st cut (cX||fr) z')) (σ.put id (.cells ob sS Ct)) (.sl id 0 (es.length+fs.length) OT sS s) (.sr k):=by
   intro ob sS Ct hRm Sb afo amM afp amN OT ai5 Vn
   let R':Rs:=fun i=>if i=id then(if st then some ((es++fs).length*s)else none)else R i
   have AT:R id=if st then some (es.length*s)else none:=g7
   obtain⟨hs,hJ⟩:=h.sK (R':=R') (bad:=(·=k)) (jK:=.row s st cut (cX||fr) z') (eE:=.cells ob sS Ct) b1 hk (fun j hj=>by simp[R',hj])
    (fun m hm=>by
     rw[AT]at hm;split at hm
     ·rename_i cg;cases hm;exact⟨(es++fs).length*s,by simp[R',cg],aq8 s (by simp)⟩
     ·cases hm)
    (fun m nJ AU z7 hm aA=>by
     rw[b2]at aA;cases aA;rcases hRm with hRm|⟨rfl,hle⟩
     ·rw[hRm]at hm;cases hm
     ·rw[AT]at hm;split at hm
      ·cases hm;exact⟨ob,sS,rfl,hle,afo⟩
      ·cases hm)
    (fun m nJ AU z7 hm ho=>by
     injection ho with Lr _ _
     subst Lr;simp only[R',if_true]at hm;split at hm
     ·cases hm;exact afp
     ·cases hm)
    (fun cs h=>by cases h) (fun kt es h=>by cases h) (fun _ _ _ _ _ _=>rfl) Lb hL
    (fun hs=>⟨bA,es++fs,oX,afn,.inr ⟨id,ob,sS,Ct,b1,by rw[St.cS,if_pos rfl],Sb,afp,by simp[R'],amN,fun j x d hx hd=>by
     rw[Bu]at hd;have vf:=na g2;by_cases hj:j<es.length*s
     ·rw[aqQ (by omega)]at hd;rw[afo j hj]at hx;exact((g9 j x d hx hd).wide (fun h=>by simp[h])).mono hs.grow
     ·rw[aq_ (by omega),vf]at hd
      have yg:j- es.length*s<new.length:=by
       have:=(aqF.1 hd).1;rw[na xA]at this;omega
      rw[show j=es.length*s+(j- es.length*s) by omega,amM _ yg]at hx;exact((C5 _ x d hx hd).wide (fun h=>by simp[h])).mono hs.grow⟩⟩)
   exact⟨R',hJ,s,st,cut,cX||fr,z',es++fs,aW,oX,.inr ⟨id,ob,sS,Ct,OT,b1,by rw[St.cS,if_pos rfl],by simp,arw _,ai5,fun c hc=>⟨(Vn c hc).1,by simpa using(Vn c hc).2.1,by simpa using(Vn c hc).2.2⟩⟩⟩
  have Vo:(es++fs).length*s=es.length*s+fs.length*s:=by simp[are]
  cases cap with
  |some c=>
   obtain⟨e1,e2,e3⟩:=b6 c rfl;by_cases sn:es.length+fs.length≤c
   ·have aqt:es.length*s+fs.length*s≤cs.length:=by
     have:(es.length+fs.length)*s≤c*s:=aq8 s sn;rw[are]at this;omega
    obtain⟨R',hJ,hV⟩:=J0 (dp cs (es.length*s) new) au au (.inr ⟨e1.symm,aqK _⟩) (aqK _)
     (fun j hj=>by rw[mz (α:=IV) (by omega),if_neg (by omega)])
     (fun j hj=>by rw[mz (α:=IV) (by omega),if_pos (by omega)];congr 1;omega)
     (by rw[tA (by omega)];omega) (wu g8 hnc) (some c) (fun h=>by cases h) (fun c' wY=>by cases wY;exact⟨rfl,by rw[tA (by omega)];omega,by simpa using sn⟩)
    refine⟨_,_,R',φ,?_,hJ,hV⟩;simp only[eA];rw[if_neg (by simp),if_neg ko];simp only[b2,at6,atG,Nat.zero_add];rw[if_pos sn,if_pos ⟨arw _,trivial,by rw[are];omega⟩];rfl
   ·obtain⟨R',aG,hJ,hV⟩:=fresh _ M_ ai4 ab2;refine⟨_,_,R',aG,?_,hJ,hV⟩;simp only[eA];rw[if_neg (by simp),if_neg ko];simp only[at6];rw[if_neg sn,xz (by simpa using hold) M_];rfl
  |none=>
   by_cases OU:es.length*s=cs.length
   ·obtain⟨R',hJ,hV⟩:=J0 (cs++new) (au+1) mn (.inr ⟨rfl,by omega⟩) (by omega)
     (fun j hj=>by rw[aqQ (by omega)])
     (fun j hj=>by rw[aq_ (by omega)];congr 1;omega)
     (by rw[Vo,aq3];omega) (by rw[aun,g8,hnc];rfl) none (fun _ _=>by rw[Vo,aq3];omega) (fun c h=>by cases h)
    refine⟨_,_,R',φ,?_,hJ,hV⟩;simp only[eA];rw[if_neg (by simp),if_neg ko];simp only[b2,at6,atG];rw[if_pos ⟨arw _,trivial,trivial,OU⟩];rfl
   ·have OV:cut=true:=by
     cases hc:cut with
     |true=>rfl
     |false=>exact absurd (b5 rfl hc) OU
    have cg:st=false:=by rw[OV]at p_;simpa using p_
    obtain⟨R',hJ,hV⟩:=J0 (cs.take (es.length*s)++new) (au+1+1) (au+1) (.inl (by rw[g7,cg];rfl)) (by omega)
     (fun j hj=>by rw[aqQ (by omega),ard,if_pos hj])
     (fun j hj=>by rw[aq_ (by omega),M_];congr 1;omega)
     (by rw[Vo,aq3,M_];omega) (by rw[aun,ab2,hnc];rfl) none (fun _ h=>by rw[OV]at h;cases h) (fun c h=>by cases h)
    refine⟨.sl id 0 (es.length+fs.length) none (au+1+1) s,(σ.put id (.cells (cs.take (es.length*s)) (au+1) (au+1))).put id (.cells (cs.take (es.length*s)++new) (au+1+1) (au+1)),R',φ,?_,?_,?_⟩
    ·simp only[eA];rw[if_neg (by simp),if_neg ko];simp only[b2,at6,atG];rw[if_neg (fun hc=>OU hc.2.2.2),if_pos ⟨arw _,trivial,trivial,g6⟩];rfl
    ·rw[Sx h.wf];exact hJ
    ·rw[Sx h.wf];exact hV
end Go.Ev
namespace Go.Ev
variable{P:Program}{N:Nat}{σ ah:St}{R R':Rs}{φ aG:Ph}{E:Nat→Env}{ν:List IV}
variable{C:Cr}{Q:IV→Prop}{K:List (List IV→Prop)}{V:SS}{d:Nat}{o:Oper}{k:PV SE→SS→ab}{L:List (LO SE)}{Γ:Gm SE}
theorem fG(h:J (aj P ν) R φ V.g V.l E σ)(d:Nat):∀(ops:List Operand) (ts:List TypeId),All2 (VR (aj P ν) R φ V.l σ) (ops.map (aq (E d))) (gX P d V ops ts)
 |[],_=>trivial
 |x::xs,t::ts=>⟨aZ h d t x,fG h d xs ts⟩
 |x::xs,[]=>⟨aZ h d 0 x,fG h d xs []⟩
theorem kD{α β:Type}{r:α→β→Prop}{as:List α}{b:β}(h:All2 r as [b]):∃a,as=[a]∧r a b:=by
 cases as with
 |nil=>exact h.elim
 |cons a as=>
  cases as with
  |nil=>exact⟨a,rfl,h.1⟩
  |cons a' as=>exact h.2.elim
theorem GV{α β:Type}{r:α→β→Prop}{as:List α}{b c:β}(h:All2 r as [b,c]):∃a a',as=[a,a']∧r a b∧r a' c:=by
 cases as with
 |nil=>exact h.elim
 |cons a as=>
  obtain⟨a',rfl,h'⟩:=kD h.2;exact⟨a,a',rfl,h.1,h'⟩
theorem Cl.xB{x:IV}{c:Cl SE}(h:cz (aj P ν) R φ L σ x c):c.ok (·=L.length):=by
 cases c with
 |sr k=>obtain⟨_,_,_,_,_,_,h1,_⟩:=h;exact fun hc=>by have:=c7 h1;omega
 |sv k lo=>obtain⟨_,_,_,_,_,_,_,_,h1,_⟩:=h;exact fun hc=>by have:=c7 h1;omega
 |pr k i off ext=>obtain⟨_,_,_,_,_,_,_,_,_,_,_,_,h1,_⟩:=h;exact fun hc=>by have:=c7 h1;omega
 |_=>trivial
theorem Bv{xs:List IV}{cs:List (Cl SE)}(h:All2 (cz (aj P ν) R φ L σ) xs cs):∀c∈cs,c.ok (·=L.length):=by
 intro c hc;obtain⟨i,hi⟩:=asq hc;obtain⟨a,_,ha⟩:=h.zj hi;exact Cl.xB ha
theorem PV.xB{x:IV}{pv:PV SE}(h:VR (aj P ν) R φ L σ x pv):pv.ok (·=L.length):=by
 cases pv with
 |one c=>exact Cl.xB (c:=c) h
 |ag cs=>obtain⟨xs,_,h2⟩:=h;exact Bv h2
 |tu vs=>
  obtain⟨xs,_,h2⟩:=h;intro p hp c hc;obtain⟨i,hi⟩:=asq hp;obtain⟨a,_,ha⟩:=h2.zj hi;unfold sJ at ha;split at ha
  ·obtain⟨ys,_,h3⟩:=ha;exact Bv h3 c hc
  ·obtain⟨c',h3,h4⟩:=ha;rw[h3]at hc;simp at hc;subst hc;exact Cl.xB h4
theorem OR.xB{j:Nat}{ob:LO SE}(h:OR (aj P ν) R φ L σ j ob):ob.ok (·=L.length):=by
 cases ob with
 |var cs=>obtain⟨_,_,_,_,_,h4⟩:=h;exact Bv h4
 |_=>trivial
theorem wL(h:J (aj P ν) R φ Γ L E σ){j:Nat}(hj:L.length≤j):φ j=none:=by
 cases hf:φ j with
 |none=>rfl
 |some id=>have:=(h.lt _ _ hf).1;omega
theorem J.Aa(h:J (aj P ν) R φ Γ L E σ){s:Nat}{fr:Bool}{z:SE}(hs:0<s)(hz:z.den P ν=some (.tree s [])):jZ (aj P ν) (aj P ν) R φ L σ R φ (L++[.row s false false fr z]) σ (fun _=>False)∧J (aj P ν) R φ Γ (L++[.row s false false fr z]) E σ:=by
 have hL:∀j o,L[j]?=some o→(L++[.row s false false fr z])[j]?=some o:=fun j o hj=>by rw[aqQ (c7 hj)];exact hj
 have hc:jZ (aj P ν) (aj P ν) R φ L σ R φ (L++[.row s false false fr z]) σ (fun _=>False):=
  .mk' (fun _ _ h=>h) (iv.refl h.fits) (fun j cs hj=>⟨⟨cs,hL j _ hj⟩,rfl⟩) (fun j kt es hj=>⟨⟨es,hL j _ hj⟩,rfl⟩) (fun j s st cut fr z hj _=>⟨⟨st,hL j _ hj⟩,rfl,fun _ _=>rfl⟩)
 refine⟨hc,{h with slot:=fun d t pv hg=>(h.slot d t pv hg).step hc pv.aU,obj:=fun j o hj=>?_,lt:=fun j id hj=>by have:=h.lt j id hj;simp;omega}⟩;by_cases Ci:j<L.length
 ·rw[aqQ Ci]at hj;exact(h.obj j o hj).step hc rfl (fun _ _=>⟨rfl,rfl⟩) o.aU
 ·have:j=L.length:=by have:=c7 hj;simp at this;omega
  subst this;simp at hj;subst hj;exact⟨hs,[],hz,fun e he=>(by cases he),.inl ⟨wL h (aqK _),rfl⟩⟩
theorem Sy{s bytes:Nat}{e f:SE}{z:IV}(h:(SE.cat s bytes e f).den P ν=some z):∃es fs,e.den P ν=some (.tree s es)∧f.den P ν=some (.tree s fs)∧0<s∧iN s fs=true∧(4*(es.length+fs.length)+4096)*bytes≤2 ^47∧es.length+fs.length≤2 ^40∧z=.tree s (es++fs):=by
 simp only[SE.den,aqZ]at h;obtain⟨a,h1,b,h2,h3⟩:=h;unfold jM at h3;split at h3
 ·split at h3
  ·rename_i hc;obtain⟨rfl,rfl,c1,c2,c3,c4⟩:=hc;cases h3;exact⟨_,_,h1,h2,c1,c2,c3,c4,rfl⟩
  ·cases h3
 ·cases h3
theorem Vp{fr:Bool}{new ds:List IV}(h:oZ true R σ new ds)(hd:∀d∈ds,aw d=true):oZ false R σ new ds:=by
 intro j x e hx he;have hr:=hd e (aqS he);have:=h j x e hx he;unfold aw at hr;split at hr
 ·rw[bV this];exact .raw _
 ·cases hr
theorem DJ(hJ:J (aj P ν) R φ V.g V.l E σ){et:TypeId}{s:Nat}{base c:Cl SE}{fr raw:Bool}{es:SE}{x:IV}{fs:List IV}(ha:pJ P V et s base c=some (fr,es,raw))(hx:cz (aj P ν) R φ V.l σ x c)(gl:es.den P ν=some (.tree s fs))(bA:0<s)(bo:iN s fs=true)
 (dJ:raw=true→(∃z,(SE.rws es).den P ν=some z)):
 kh x=some fs.length∧∃new,eF s fs.length σ x=some new∧new.length=fs.length*s∧oZ fr R σ new (flat fs)∧new.all Ev.af=true:=by
 cases c with
 |sr j=>
  simp only[pJ]at ha;split at ha
  ·rename_i s' st cut cX aB hj;split at ha
   ·rename_i hc;simp only[aqG,ark]at hc;simp only[aqH,aq6]at ha;obtain⟨rfl,rfl,rfl⟩:=ha;obtain⟨rfl,_⟩:=hc;exact OS hJ hj gl hx
   ·cases ha
  ·cases ha
 |nl b s'=>
  simp only[pJ,aqH,aq6]at ha;obtain⟨rfl,rfl,rfl⟩:=ha
  have:fs=[]:=by
   simp only[SE.den,aqN]at gl;split at gl<;>cases gl;rfl
  subst this;obtain⟨_,rfl⟩:=hx;refine⟨by cases b<;>rfl,[],?_,by simp,fun j x d h=>by simp at h,rfl⟩;cases b<;>simp[eF]
 |w f z=>
  simp only[pJ,aqH,aq6]at ha;obtain⟨rfl,rfl,rfl⟩:=ha;obtain⟨y,h1,h2,_⟩:=hx;have cW:z.den P ν=some y:=h1;rw[gl]at cW;cases cW;exact JZ bA h2 bo
 |v z=>
  obtain⟨y,h1,h2,_⟩:=hx;have cW:z.den P ν=some y:=h1;simp only[pJ]at ha;split at ha
  ·simp only[aqH,aq6]at ha;obtain⟨rfl,rfl,rfl⟩:=ha;rw[gl]at cW;cases cW;obtain⟨a1,new,a2,a3,a4,a5⟩:=JZ bA (h2.mono hJ.z8) bo;refine⟨a1,new,a2,a3,Vp (fr:=true) a4 fun e he=>?_,a5⟩;obtain⟨q,hq⟩:=dJ rfl;simp only[SE.den,gl,aqN]at hq;split at hq
   ·rename_i bp;rw[aqW]at bp;obtain⟨el,nK,amO⟩:=asL.1 he;exact aqW.1 (bp el nK) e amO
   ·cases hq
  ·simp only[aqH,aq6]at ha;obtain⟨rfl,rfl,rfl⟩:=ha;rw[gl]at cW;cases cW;exact JZ bA (h2.mono hJ.z8) bo
 |un|pt|tp|tw|sv|pr|mp|fn=>simp[pJ]at ha
theorem Ij{d t k:Nat}{pv:PV SE}{g:Gm SE}(h:ct d t (HQ k g)=some pv):pv.ok (·=k):=by
 obtain⟨q,_,rfl⟩:=Dk g h;exact q.me k
variable(hJ:J (aj P ν) R φ V.g V.l E σ)(hn:ν.length=V.n)
include hJ hn
theorem Vq{et:TypeId}{bytes s:Nat}{base c:Cl SE}{fr raw:Bool}{es:SE}{x0 x1:IV}(hb:cz (aj P ν) R φ V.l σ x0 base)(hc:cz (aj P ν) R φ V.l σ x1 c)(ha:pJ P V et s base c=some (fr,es,raw))(dJ:raw=true→(∃z,(SE.rws es).den P ν=some z))
 (hs:(zT bytes s base fr es V k).sat P C Q K ν):
 cY P C Q K ν E V.ln k (fun v ai=>∃m n new,kh x0=some m∧kh x1=some n∧eF s n σ x1=some new∧new.length=n*s∧new.all Ev.af=true∧(4*(m+n)+4096)*bytes≤2 ^47∧m+n≤2 ^40∧eA 0 s m n new x0 σ=some (.val v ai)):=by
 unfold zT at hs;split at hs
 ·rename_i b s';split at hs
  ·rename_i ic;have ue:=aqO ic;subst ue;obtain⟨z,h1,h2,hv,bz,dD⟩:=pS hJ hn hs;obtain⟨e0,fs,c1,c2,c3,c4,c5,c6,rfl⟩:=Sy h1
   have he0:e0=[]:=by
    simp only[SE.den,aqN]at c1;split at c1<;>cases c1;rfl
   subst he0;obtain⟨a1,new,a2,a3,a4,a5⟩:=DJ hJ ha hc c2 c3 c4 dJ;obtain⟨_,ie⟩:=hb;have mG:(SE.tr s SE.an).den P (ν++[IV.tree s ([]++fs)])=some (.tree s []):=by simp[SE.den,c3]
   obtain⟨oN,eQ⟩:=bz.Aa (fr:=false) c3 mG;have jo:(V.l++[LO.row s false false false (SE.tr s SE.an)])[V.l.length]?=some (.row s false false false (SE.tr s SE.an)):=by simp
   obtain⟨x',ah,R',aG,b1,b2,b3⟩:=Ii eQ (cX:=fr) (z':=.var V.n) (x:=x0) jo mG hv ⟨s,false,false,false,_,[],jo,mG,.inl ⟨wL hJ (aqK _),rfl,by subst ie;cases b<;>simp⟩⟩
    a3 a4 a5 (zo c4).1 rfl (fun d t pv hg=>PV.xB (bz.slot d t pv hg)) (fun j o hj aT=>by
     have Ci:j<V.l.length:=by have:=c7 hj;simp at this;omega
     rw[aqQ Ci]at hj;exact OR.xB (bz.obj j o hj))
   have rz:(V.l++[LO.row s false false false (SE.tr s SE.an)]).set V.l.length (.row s false false (fr||false) (.var V.n))=V.l++[LO.row s false false fr (.var V.n)]:=by simp
   rw[rz]at b2 b3;refine⟨x',ah,R',aG,.one (.sr V.l.length),{V with n:=V.n+1,l:=V.l++[.row s false false fr (.var V.n)]},[.tree s ([]++fs)],⟨0,fs.length,new,by subst ie;cases b<;>rfl,a1,a2,a3,a5,c5,c6,b1⟩,b2,b3,dD,rfl,h2⟩
  ·exact hs.elim
 ·rename_i j;split at hs
  ·rename_i s' st cut cX aB hj;split at hs
   ·rename_i bK;simp only[aqG,ark,aru]at bK;obtain⟨rfl,p_⟩:=bK;obtain⟨z,h1,h2,hv,bz,dD⟩:=pS hJ hn hs;obtain⟨e0,fs,c1,c2,c3,c4,c5,c6,rfl⟩:=Sy h1;obtain⟨a1,new,a2,a3,a4,a5⟩:=DJ hJ ha hc c2 c3 c4 dJ
    have hm:kh x0=some e0.length:=by
     have:=OS hJ hj c1 hb;exact this.1
    have cD:cz (aj P (ν++[.tree s (e0++fs)])) R φ V.l σ x0 (.sr j):=by
     have hbv:VR (aj P ν) R φ V.l σ x0 (.one (.sr j)):=hb;exact VR.up hJ hbv (fun e z h=>SE.cR P e h)
    have eQ:=bz.UK j;have Xs:(V.l.map (LO.drop j))[j]?=some (.row s st cut cX aB):=by simp[aqU,hj,LO.drop]
    have e_:cz (aj P (ν++[.tree s (e0++fs)])) R φ (V.l.map (LO.drop j)) σ x0 (.sr j):=cD.step (GC bz j) (Cl.aU _)
    obtain⟨x',ah,R',aG,b1,b2,b3⟩:=Ii eQ (cX:=fr) (z':=.var V.n) (x:=x0) Xs (SE.cR P aB c1) hv e_ a3 a4 a5 (zo c4).1 p_ (fun d t pv hg=>Ij hg) (fun i o hi aT=>by
     rw[aqU]at hi;obtain⟨o',_,rfl⟩:=aqL.1 hi;exact o'.me j)
    refine⟨x',ah,R',aG,.one (.sr j),((({V with n:=V.n+1}:SS).rO j).setObj j (.row s st cut (fr||cX) (.var V.n))),[.tree s (e0++fs)],⟨e0.length,fs.length,new,hm,a1,a2,a3,a5,c5,c6,b1⟩,b2,b3,dD,rfl,h2⟩
   ·exact hs.elim
  ·exact hs.elim
 ·exact hs.elim
end Go.Ev
namespace Go.Ev
variable{P:Program}{N:Nat}{σ ah:St}{R R':Rs}{φ aG:Ph}{E:Nat→Env}{ν:List IV}
variable{C:Cr}{Q:IV→Prop}{K:List (List IV→Prop)}{V:SS}{d:Nat}{o:Oper}{k:PV SE→SS→ab}{L:List (LO SE)}{Γ:Gm SE}
theorem nX{t et:TypeId}(h:elemOf P t=some et):P.underlying t=some (.slice et):=by
 unfold elemOf at h;split at h
 ·rename_i e he;cases h;exact he
 ·cases h
theorem Fi{e:SE}{z:IV}(h:(SE.len e).den P ν=some z):∃s es,e.den P ν=some (.tree s es)∧z=.int es.length:=by
 simp only[SE.den,aqZ]at h;obtain⟨a,h1,h2⟩:=h;unfold H0 at h2;split at h2
 ·cases h2;exact⟨_,_,h1,rfl⟩
 ·cases h2
theorem aao{e:SE}{z:IV}(h:(SE.rj e).den P ν=some z):∃b,e.den P ν=some (.raw (.string b))∧z=.int b.size:=by
 simp only[SE.den,aqZ]at h;obtain⟨a,h1,h2⟩:=h;unfold wK at h2;split at h2
 ·cases h2;exact⟨_,h1,rfl⟩
 ·cases h2
theorem adu{fr:Bool}{x:IV}{s:Nat}{es:List IV}{ts:Array TypeId}{el:TypeId}(hu:(ts[0]?).bind P.underlying=some (.slice el))(h:aY fr R σ x (.tree s es)):n9 P ts x σ=some (.int es.length):=by
 generalize hz:IV.tree s es=z at h;cases h with
 |nil s' bf=>injection hz with a b;subst a b;simp[n9,hu]
 |emp s' bf=>injection hz with a b;subst a b;simp[n9,hu]
 |pure _ hf hp=>subst hz;simp[n9,hu]
 |sl id off len cap ep s' m cs au mn aB hR aA a1 a2 bf hl hb hm bC hh=>injection hz with a b;subst a b hl;simp[n9,hu]
 |raw v=>cases hz
 |da=>cases hz
 |agg=>cases hz
 |av=>cases hz
variable(hJ:J (aj P ν) R φ V.g V.l E σ)(hn:ν.length=V.n)
include hJ hn
theorem adv{c:Call}(ho:o.op=.call c)(hc:c.callee=.builtin .len)(hs:(fE P d o V k).sat P C Q K ν):cY P C Q K ν E V.ln k (bF P E d o σ):=by
 unfold fE at hs;rw[ho]at hs;simp only[hc]at hs;have bc:=fG hJ d c.args.toList c.argTypes.toList;split at hs<;>first|(exact hs.elim)|(exact(‹avG=avG→False› rfl).elim)|skip
 all_goals first|(rename_i hb _;cases hb;done)|skip
 rename_i pv _ hh;rw[hh]at bc;obtain⟨x,hx,hr⟩:=kD bc
 have ef:∀v,n9 P c.argTypes x σ=some v→ak P 0 (aq (E d)) o σ=some (.val v σ):=by
  intro v hv;simp[ak,ho,hc,dv,hx,hv]
 split at hs
 ·rename_i hu
  have main:∀a:SE,(∀y,a.den P ν=some y→aY true R σ x y)→(vk (.rj a) V k).sat P C Q K ν→cY P C Q K ν E V.ln k (bF P E d o σ):=by
   intro a ha hs;obtain⟨⟨z,hz⟩,hk⟩:=hs;obtain⟨b,h1,rfl⟩:=aao hz;have:=bV (ha _ h1);exact .at (x:=.int b.size) hk hJ hn rfl ⟨_,hz,.raw _,rfl⟩ (ef _ (by simp[n9,hu,this]))
  split at hs
  ·rename_i z;obtain⟨y,h1,h2,_⟩:=hr;exact main z (fun y' hy=>by have cW:z.den P ν=some y:=h1;rw[hy]at cW;cases cW;exact h2.mono hJ.z8) hs
  ·rename_i f z;obtain⟨y,h1,h2,_⟩:=hr;exact main z (fun y' hy=>by have cW:z.den P ν=some y:=h1;rw[hy]at cW;cases cW;exact h2.cC) hs
  ·exact hs.elim
 ·rename_i el hu
  have main:∀a:SE,(∀y,a.den P ν=some y→aY true R σ x y)→(vk (.len a) V k).sat P C Q K ν→cY P C Q K ν E V.ln k (bF P E d o σ):=by
   intro a ha hs;obtain⟨⟨z,hz⟩,hk⟩:=hs;obtain⟨s,es,h1,rfl⟩:=Fi hz;exact .at (x:=.int es.length) hk hJ hn rfl ⟨_,hz,.raw _,rfl⟩ (ef _ (adu hu (ha _ h1)))
  split at hs
  ·rename_i z;obtain⟨y,h1,h2,_⟩:=hr;exact main z (fun y' hy=>by have cW:z.den P ν=some y:=h1;rw[hy]at cW;cases cW;exact h2.mono hJ.z8) hs
  ·rename_i f z;obtain⟨y,h1,h2,_⟩:=hr;exact main z (fun y' hy=>by have cW:z.den P ν=some y:=h1;rw[hy]at cW;cases cW;exact h2.cC) hs
  ·rename_i b s;obtain⟨_,h2⟩:=hr;exact .at (x:=.int 0) hs hJ hn rfl ⟨_,rfl,.raw _,rfl⟩ (ef _ (by subst h2;cases b<;>simp[n9,hu]))
  ·rename_i j;split at hs
   ·rename_i s st cut fr es hj;obtain⟨⟨z,hz⟩,hk⟩:=hs;obtain⟨s',aB,h1,rfl⟩:=Fi hz
    have ic:s'=s:=by
     obtain⟨_,gK,g1,_⟩:=hJ.obj j _ hj;have mM:es.den P ν=some (.tree s gK):=g1;rw[h1]at mM;cases mM;rfl
    subst ic;obtain⟨hl,_⟩:=OS hJ hj h1 hr;refine .at (x:=.int aB.length) hk hJ hn rfl ⟨_,hz,.raw _,rfl⟩ (ef _ ?_);obtain⟨s2,Xf,aan,Xg,z2,Lq,a1,a2,a3⟩:=hr;rw[hj]at a1;cases a1;have rV:es.den P ν=some (.tree s' Lq):=a2;rw[h1]at rV;cases rV;rcases a3 with⟨_,b2,rfl|rfl⟩|⟨id,cs,au,mn,cap,_,_,rfl,_⟩
    ·simp[n9,hu,b2]
    ·simp[n9,hu,b2]
    ·simp[n9,hu]
   ·exact hs.elim
  ·exact hs.elim
 ·rename_i kt0 et0 hu;split at hs<;>first|(exact hs.elim)|skip
  rename_i j;split at hs<;>first|(exact hs.elim)|skip
  rename_i kt iA hj;split at hs
  ·exact hs.elim
  rename_i hk;have dV:¬gp kt=true:=hk;obtain⟨⟨z,hz⟩,tJ⟩:=hs;obtain⟨id,lA,gK,g1,g2,g3⟩:=hr;rw[hj]at g2;cases g2;rw[if_neg dV]at g3;have dt:=hJ.obj j _ hj;rw[gB,if_neg dV]at dt;obtain⟨br,es,clock,ds,c1,c2,c3,c4,c5,c6⟩:=dt;rw[g1]at c2;cases c2;have j2:iA.den P ν=some (.av ds):=c1
  have Ig:z=.int ds.length:=by
   simp only[SE.den,j2,aqN,lL,if_true,aqH]at hz;exact hz.symm
  subst Ig;have hlen:es.length=ds.length:=All2.len c5;exact .at (x:=.int es.length) tJ hJ hn rfl ⟨_,hz,by rw[hlen];exact .raw _,rfl⟩ (ef _ (by subst g3;simp[n9,hu,c4]))
 ·exact hs.elim
omit hJ hn in
theorem afq{t:TypeId}{e:SE}(h:ES P t=some e):∃v,cn P t=some v∧e.den P ν=some (.raw v)∧v.cells= #[v]:=by
 unfold ES at h;split at h<;>first|(cases h;exact⟨_,‹_›,rfl,rfl⟩)|cases h
theorem aap{c:Call}{x0 x1:IV}{t0 t1 et:TypeId}{base ca:Cl SE}(ho:o.op=.call c)(hc:c.callee=.builtin .append)(hx:c.args.toList.map (aq (E d))=[x0,x1])(Sz:c.argTypes[0]?=some t0)(SA:c.argTypes[1]?=some t1)(het:elemOf P t0=some et)
 (HK:VR (aj P ν) R φ V.l σ x0 (.one base))(qa:VR (aj P ν) R φ V.l σ x1 (.one ca))(hs:(UW P et t1 base ca V k).sat P C Q K ν):cY P C Q K ν E V.ln k (bF P E d o σ):=by
 unfold UW at hs;split at hs<;>first|(exact hs.elim)|skip
 rename_i qk s n xh;split at hs<;>first|(exact hs.elim)|skip
 rename_i s' z ze bytes aL ve Xm Ls;split at hs<;>first|(exact hs.elim)|skip
 rename_i bK;simp only[aqG]at bK;obtain⟨⟨⟨⟨h1,h2⟩,h3⟩,h4⟩,h5⟩:=bK;have cW:=aqO h1;have yl:=aqO h2;subst cW yl;have Ib:bytes≤1000000:=by simpa using h3
 obtain⟨v,e1,e2,e3⟩:=afq (ν:=ν) Xm;rw[ve]at e1;cases e1;obtain⟨y,hy,hk⟩:=hs;simp only[SE.den,aqZ]at hy;obtain⟨nv,n1,zv,n2,n3⟩:=hy;rw[e2]at n2;cases n2;obtain⟨y',y1,y2,_⟩:=qa;have Lt:n.den P ν=some y':=y1;rw[n1]at Lt;cases Lt
 obtain⟨q,m,rfl,m1,m2,hq,rfl⟩:∃q m,nv=.raw (.int q m)∧1≤m∧m≤1000000∧(q==IntKind.i64)=true∧y=.tree 1 (aq1 m.toNat (.raw z)):=by
  unfold lL at n3;split at n3
  ·split at n3<;>cases n3
  ·rw[if_neg (fun h=>absurd h.1 (by decide))]at n3;split at n3
   ·rename_i hh;cases n3;exact⟨_,_,rfl,hh.2.1,hh.2.2.1,hh.2.2.2.1,rfl⟩
   ·cases n3
  ·rw[if_neg (by decide)]at n3;cases n3
  ·cases n3
 have vb:q=.i64:=by simpa using hq
 subst vb;have p5:=bV y2;obtain⟨_,ie⟩:=HK;simp only[if_true]at ie
 have Lu:gx (z.cells.toList.map .raw) (m.toNat*1)=aq1 m.toNat (.raw z):=by
  simp[gx,e3]
 have bo:Ev.af (.raw z)=true:=by simpa[e3]using h5
 have o9:(SE.var V.n).den P (ν++[.tree 1 (aq1 m.toNat (.raw z))])=some (.tree 1 (aq1 m.toNat (.raw z))):=by simp[SE.den,←hn]
 have bz:=hJ.up (gW:=aj P (ν++[.tree 1 (aq1 m.toNat (.raw z))])) (fun e y h=>SE.cR P e h)
 have eQ:=bz.xm (.cells (aq1 m.toNat (.raw z)) 0 0) (.row 1 false false false (.var V.n)) ⟨by omega,_,o9,fun e he=>(by rw[arR he];rfl),.inr ⟨σ.n,(aq1 m.toNat (.raw z)),0,0,by simp[bQ],by simp,aqK _,by simp,hJ.qF,aqW.2 fun x hx=>(by rw[arR hx];exact bo),fun j x d hx hd=>by
  have ib:=arR (aqS hx)
  have u9:d=.raw z:=by
   have hm:=aqS hd;unfold flat at hm;obtain⟨e,he,hde⟩:=asL.1 hm;rw[arR he]at hde;simpa[cellsOf]using hde
  rw[ib,u9];exact .raw _⟩⟩
 refine⟨.sl σ.n 0 m.toNat none 0 1,_,R,_,.one (.sr V.l.length),{V with n:=V.n+1,l:=V.l++[.row 1 false false false (.var V.n)]},[.tree 1 (aq1 m.toNat (.raw z))],?_,eQ,
  ⟨1,false,false,false,_,_,by simp,o9,.inr ⟨σ.n,(aq1 m.toNat (.raw z)),0,0,none,by simp[bQ],by simp,by simp,arw _,fun _ _=>by simp,fun c hc=>by cases hc⟩⟩,by simp[hn],rfl,hk⟩
 have Cc:m.toNat≠0:=by omega
 simp only[bF,ak,ho,hc,dv,hx,kf,Sz,SA,nX het,xh,aL,ve,Ls,rF,p5,ie];rw[if_neg (by simp[e3]),if_pos ⟨by omega,by omega⟩];simp only[kh];rw[Lu];simp only[if_true]
 rw[if_pos ⟨by simp,aqW.2 fun x hx=>(by rw[arR hx];exact bo),by
    have:(4*(0+m.toNat)+4096)*bytes≤4004096*1000000:=Nat.mul_le_mul (by omega) Ib;omega,by omega⟩]
 simp only[eA,ff,eF];simp[Cc,ret]
theorem Vs{c:Call}(ho:o.op=.call c)(hc:c.callee=.builtin .append)(hs:(fE P d o V k).sat P C Q K ν):cY P C Q K ν E V.ln k (bF P E d o σ):=by
 unfold fE at hs;rw[ho]at hs;simp only[hc]at hs;have bc:=fG hJ d c.args.toList c.argTypes.toList;split at hs<;>first|(exact hs.elim)|(exact(‹avb=avb→False› rfl).elim)|skip
 all_goals first|(rename_i hb _;cases hb;done)|skip
 rename_i base ca _ hh;rw[hh]at bc;obtain⟨x0,x1,hx,HK,qa⟩:=GV bc;split at hs<;>first|(exact hs.elim)|skip
 rename_i t0 t1 Sz SA;split at hs<;>first|(exact hs.elim)|skip
 rotate_left
 ·rename_i et het _;exact aap hJ hn ho hc hx Sz SA het HK qa hs
 rename_i et et1 het aaq;split at hs<;>first|(exact hs.elim)|skip
 rename_i s z bytes aL ve Ls;split at hs<;>first|(exact hs.elim)|skip
 rename_i bK
 have Xt:s≠0∧z.cells.size=s:=by
  simp only[arl,aru,not_or,aue,atr]at bK;refine⟨fun h=>?_,aqO bK.2⟩;have:=bK.1;subst h;simp at this
 split at hs<;>first|(exact hs.elim)|skip
 rename_i fr es raw aar
 have main:(raw=true→∃z,(SE.rws es).den P ν=some z)→(zT bytes s base fr es V k).sat P C Q K ν→cY P C Q K ν E V.ln k (bF P E d o σ):=by
  intro dJ hs;obtain⟨v,ai,R1,du,pv,V1,μ,⟨m,n,new,h1,h2,h3,h4,h5,h6,h7,h8⟩,fY⟩:=Vq hJ hn HK qa aar dJ hs;refine⟨v,ai,R1,du,pv,V1,μ,?_,fY⟩;simp only[bF,ak,ho,hc,dv,hx,kf,Sz,SA,nX het,nX aaq,aL,ve,Ls,rF,h2,h3,h1];rw[if_neg (by rintro(h|h);exact Xt.1 h;exact h Xt.2),if_pos ⟨h4,h5,h6,h7⟩,h8]
 split at hs
 ·rename_i hr;obtain⟨hz,hk⟩:=hs;exact main (fun _=>hz) hk
 ·rename_i hr;exact main (fun h=>absurd h hr) hs
end Go.Ev
namespace Go.Ev
variable{P:Program}{N:Nat}{σ ah:St}{R R':Rs}{φ aG:Ph}{E:Nat→Env}{ν:List IV}
variable{C:Cr}{Q:IV→Prop}{K:List (List IV→Prop)}{V:SS}{d:Nat}{o:Oper}{k:PV SE→SS→ab}{L:List (LO SE)}{Γ:Gm SE}
theorem Bw(hJ:J (aj P ν) R φ V.g V.l E σ){ty:Nat→TypeId}{place:Nat→Option (Nat×Nat)}:∀{parts:List (Nat×Operand)} {cells:List IV} {cs out:List (Cl SE)},All2 (cz (aj P ν) R φ V.l σ) cells cs→
 mY (fun j x=>er (bI P d V (ty j) x)) place parts cs=some out→∃gq,pE place cells (parts.map fun(i,x)=>(i,aq (E d) x))=some gq∧All2 (cz (aj P ν) R φ V.l σ) gq out∧gq.length=cells.length∧(cells.all Ev.af=true→gq.all Ev.af=true)
 |[],cells,cs,out,h,hp=>by
  simp only[mY,aqH]at hp;subst hp;exact⟨cells,rfl,h,rfl,fun h=>h⟩
 |(j,x)::ps,cells,cs,out,h,hp=>by
  simp only[mY]at hp;split at hp
  ·rename_i off sz nC;split at hp
   ·rename_i hc;simp only[aqG,ark,asj]at hc;obtain⟨⟨c1,c2⟩,c3⟩:=hc;have gS:=yy (aZ hJ d (ty j) x) c1;have bo:=pK gS c1;have hl:=gS.len;have ll:=h.len;obtain⟨gq,h1,h2,h3,h4⟩:=Bw hJ (Lj off h gS) hp;refine⟨gq,?_,h2,by rw[h3,tA (by omega)],fun ha=>h4 (wu ha bo)⟩;simp only[arC,pE,nC];rw[if_pos ⟨by omega,by omega,bo⟩];exact h1
   ·cases hp
  ·cases hp
theorem Bx{zero:List IV}{s:Nat}(hl:zero.length=s)(hs:0<s)(n:Nat):gx zero (n*s)=(aq1 n zero).flatten:=by
 unfold gx;split
 ·rename_i z;simp at hl;subst hl;rw[Nat.mul_one];induction n with
  |zero=>rfl
  |succ n ih=>simp[asO]
 ·rw[hl,Nat.mul_div_cancel _ hs]
theorem Lv{zero:List IV}{zc:List (Cl SE)}(h:All2 (cz (aj P ν) R φ L σ) zero zc):∀n,All2 (cz (aj P ν) R φ L σ) (aq1 n zero).flatten (On zc n)
 |0=>trivial
 |n+1=>by
  rw[asO,as9];exact h.app (Lv h n)
theorem uQ{zero:List IV}{s:Nat}(hl:zero.length=s):∀n,(aq1 n zero).flatten.length=n*s
 |0=>by simp
 |n+1=>by rw[asO,as9,aq3,uQ hl n,hl,are];omega
theorem Xu{z:SE}(h:HU z=true){y:IV}(hy:z.den P ν=some y):aw y=true:=by
 cases z<;>simp[HU]at h<;>(simp only[SE.den,aqH]at hy;subst hy;rfl)
theorem afr{V':SS}{c:Cl SE}{t:TypeId}{fr:Bool}{z:SE}{sc:List SE}(h:J (aj P ν) R φ V.g V.l E σ)(hr:rdT P V c t=some (fr,z,V',sc)):
 ∃R',iY P ν R φ V σ R' V'∧J (aj P ν) R' φ V'.g V'.l E σ∧∀x,cz (aj P ν) R φ V.l σ x c→∃y,z.den P ν=some y∧aY true R' σ x y∧Ev.af y=true∧((∀e∈sc,∃q,(SE.rw e).den P ν=some q)→aY fr R' σ x y):=by
 unfold rdT at hr;split at hr
 ·rename_i z';have UB:=Dy (c:=.v z') h rfl;obtain⟨R',h1,h2,h3⟩:=UB;split at hr
  ·simp only[aqH,aq6]at hr;obtain⟨rfl,rfl,rfl,rfl⟩:=hr;refine⟨R',h1,h2,fun x hx=>?_⟩;obtain⟨y,a1,a2,a3⟩:=h3 x hx;refine⟨y,a1,a2,a3,fun dJ=>?_⟩
   have hy:aw y=true:=by
    by_cases hl:HU z'=true
    ·exact Xu hl a1
    ·rw[if_neg hl]at dJ;obtain⟨q,hq⟩:=dJ z' (by simp);simp only[SE.den,a1,aqN]at hq;split at hq
     ·assumption
     ·cases hq
   unfold aw at hy;split at hy
   ·rw[bV a2];exact .raw _
   ·cases hy
  ·simp only[aqH,aq6]at hr;obtain⟨rfl,rfl,rfl,rfl⟩:=hr;refine⟨R',h1,h2,fun x hx=>?_⟩;obtain⟨y,a1,a2,a3⟩:=h3 x hx;exact⟨y,a1,a2,a3,fun _=>a2⟩
 ·split at hr
  ·rename_i cX z' V1 jq;simp only[aqH,aq6]at hr;obtain⟨rfl,rfl,rfl,rfl⟩:=hr;obtain⟨R',h1,h2,h3⟩:=Dy h jq;refine⟨R',h1,h2,fun x hx=>?_⟩;obtain⟨y,a1,a2,a3⟩:=h3 x hx;exact⟨y,a1,a2.cC,a3,fun _=>a2⟩
  ·cases hr
theorem SB:∀{cs:List (Cl SE)} {ts:List TypeId} {V V':SS} {R:Rs} {fr:Bool} {zs sc:List SE},J (aj P ν) R φ V.g V.l E σ→JL P V cs ts=some (fr,zs,V',sc)→
 ∃R',iY P ν R φ V σ R' V'∧J (aj P ν) R' φ V'.g V'.l E σ∧zs.length=cs.length∧∀xs,All2 (cz (aj P ν) R φ V.l σ) xs cs→∃ys,All2 (fun(z:SE) y=>z.den P ν=some y) zs ys∧All2 (aY true R' σ) xs ys∧ys.all Ev.af=true∧
  ((∀e∈sc,∃q,(SE.rw e).den P ν=some q)→All2 (aY fr R' σ) xs ys)
 |[],_,V,V',R,fr,zs,sc,h,hr=>by
  simp only[JL,aqH,aq6]at hr;obtain⟨rfl,rfl,rfl,rfl⟩:=hr;refine⟨R,.refl h,h,rfl,fun xs hx=>⟨[],trivial,?_,rfl,fun _=>?_⟩⟩<;>
  ·cases xs with
   |nil=>trivial
   |cons=>exact hx.elim
 |c::cs,[],V,V',R,fr,zs,sc,h,hr=>by simp[JL]at hr
 |c::cs,t::ts,V,V',R,fr,zs,sc,h,hr=>by
  simp only[JL]at hr;split at hr
  ·rename_i f1 z V1 r1 h1;split at hr
   ·rename_i f2 zs' V2 r2 h2;simp only[aqH,aq6]at hr;obtain⟨rfl,rfl,rfl,rfl⟩:=hr;obtain⟨R1,a1,a2,a3⟩:=afr h h1;obtain⟨R2,b1,b2,bl,b3⟩:=SB a2 h2;refine⟨R2,a1.trans b1,b2,by simp[bl],fun xs hx=>?_⟩;cases xs with
    |nil=>exact hx.elim
    |cons x xs=>
     obtain⟨y,c1,c2,c3,c4⟩:=a3 x hx.1;obtain⟨ys,d1,d2,d3,d4⟩:=b3 xs (hx.2.mono fun _ _ bT=>a1.Lf bT);refine⟨y::ys,⟨c1,d1⟩,⟨c2.mono b1.2.2.2.grow,d2⟩,by simp[c3,d3],fun dJ=>⟨((c4 fun e he=>dJ e (by simp[he])).mono b1.2.2.2.grow).wide (fun h=>by simp[h]),(d4 fun e he=>dJ e (by simp[he])).mono fun _ _ bT=>bT.wide (fun h=>by simp[h])⟩⟩
   ·cases hr
  ·cases hr
theorem Lw{f:ab}:∀{es:List SE},(UQ es f).sat P C Q K ν→(∀e∈es,∃q,(SE.rw e).den P ν=some q)∧f.sat P C Q K ν
 |[],h=>⟨fun e he=>(by cases he),h⟩
 |e::es,h=>by
  obtain⟨h1,h2⟩:=h;obtain⟨h3,h4⟩:=Lw h2;exact⟨fun x hx=>(by rcases arv.1 hx with rfl|hx;exact h1;exact h3 x hx),h4⟩
theorem Lx{s:Nat}:∀(n:Nat) {zs:List SE} {ys:List IV},All2 (fun(z:SE) y=>z.den P ν=some y) zs ys→ys.length=n*s→∃es:List IV,All2 (fun(z:SE) y=>z.den P ν=some y) (xr s n zs) es∧es.length=n∧(∀e∈es,(cellsOf e).length=s)∧flat es=ys
 |0,zs,ys,h,hl=>by
  have:ys=[]:=arf (by simpa using hl);subst this;exact⟨[],trivial,rfl,fun e he=>(by cases he),rfl⟩
 |n+1,zs,ys,h,hl=>by
  rw[are,Nat.one_mul]at hl;obtain⟨es,h1,h2,h3,h4⟩:=Lx (s:=s) n (h.drop s) (by simp;omega);refine⟨.agg (ys.take s)::es,⟨ew (h.take s),h1⟩,by simp[h2],fun e he=>?_,?_⟩
  ·rcases arv.1 he with rfl|he
   ·simp[cellsOf];omega
   ·exact h3 e he
  ·show cellsOf (.agg (ys.take s))++flat es=ys;rw[h4];exact List.take_append_drop s ys
theorem Ly:∀{ys:List IV},ys.all Ev.af=true→(∀e∈ys,(cellsOf e).length=1)∧flat ys=ys
 |[],_=>⟨fun e he=>(by cases he),rfl⟩
 |y::ys,h=>by
  simp only[List.all_cons,aqG]at h;obtain⟨h1,h2⟩:=Ly h.2;refine⟨fun e he=>?_,?_⟩
  ·rcases arv.1 he with rfl|he
   ·rw[zn h.1];rfl
   ·exact h1 e he
  ·show cellsOf y++flat ys=y::ys;rw[h2,zn h.1];rfl
variable(hJ:J (aj P ν) R φ V.g V.l E σ)(hn:ν.length=V.n)
include hJ hn
theorem Xv{t:TypeId}{parts:Array (Nat×Operand)}(ho:o.op=.build t parts)(hs:(fE P d o V k).sat P C Q K ν):cY P C Q K ν E V.ln k (bF P E d o σ):=by
 unfold fE at hs;rw[ho]at hs;simp only at hs;split at hs
 ·rename_i fields hu;split at hs
  ·exact hs.elim
  ·rename_i hc;simp only[arl,aru,not_or,aue,atr]at hc;split at hs
   ·rename_i cs hp;cases hz:cn P t with
    |none=>rw[hz]at hc;simp at hc
    |some z=>
     obtain⟨gq,h1,h2,_⟩:=Bw (ty:=ae5 fields) hJ (mv (P:=P) (ν:=ν) (R:=R) (φ:=φ) (L:=V.l) (σ:=σ) hz) hp;refine .here (x:=.agg gq) (pv:=.ag cs) (ai:=σ) ?_ hJ ⟨_,rfl,h2⟩ hn rfl hs;have cW:pE (fun i=>(fields[i]?).bind fun f=>(aH P f.type).map fun s=>(f.offset,s)) (z.cells.toList.map IV.raw) (parts.toList.map fun(i,x)=>(i,aq (E d) x))=some gq:=h1;simp only[bF,ak,ho,hz,hu,cW,hc.1,ret,if_true]
   ·exact hs.elim
 ·rename_i len et hu;split at hs
  ·rename_i s aL;split at hs
   ·exact hs.elim
   ·rename_i hc;split at hs
    ·rename_i cs hp;cases hz:cn P t with
     |none=>rw[hz]at hc;simp at hc
     |some z=>
      obtain⟨gq,h1,h2,_⟩:=Bw (ty:=fun _=>et) hJ (mv (P:=P) (ν:=ν) (R:=R) (φ:=φ) (L:=V.l) (σ:=σ) hz) hp;refine .here (x:=.agg gq) (pv:=.ag cs) (ai:=σ) ?_ hJ ⟨_,rfl,h2⟩ hn rfl hs;have cW:pE (fun i=>some (i*s,s)) (z.cells.toList.map IV.raw) (parts.toList.map fun(i,x)=>(i,aq (E d) x))=some gq:=h1;simp only[bF,ak,ho,hz,hu,aL,cW,ret]
    ·exact hs.elim
  ·exact hs.elim
 ·exact hs.elim
theorem J1{t:TypeId}{len:Nat}{parts:Array (Nat×Operand)}(ho:o.op=.buildSlice t len parts)(hs:(fE P d o V k).sat P C Q K ν):cY P C Q K ν E V.ln k (bF P E d o σ):=by
 unfold fE at hs;rw[ho]at hs;simp only at hs;split at hs<;>first|(exact hs.elim)|skip
 rename_i et het;have hu:=nX het;split at hs<;>first|(exact hs.elim)|skip
 rename_i s z aL hz;split at hs<;>first|(exact hs.elim)|skip
 rename_i hc;simp only[arl,aru,not_or,aue,atr,asj]at hc;obtain⟨⟨c1,c2⟩,c3⟩:=hc;have bA:s≠0:=by intro h;subst h;simp at c1
 have rG:z.cells.size=s:=aqO c2;have Sw:(z.cells.toList.map IV.raw).length=s:=by simp[rG]
 split at hs
 ·rename_i ja;have aas:=aqO ja;subst aas;split at hs
  ·rename_i C7;have amP:parts.toList=[]:=by simpa using C7
   refine .at (x:=.emp) hs hJ hn rfl ⟨by omega,rfl⟩ ?_
   have Lu:gx (z.cells.toList.map IV.raw) 0=[]:=by
    have:=Bx Sw (by omega) 0;simpa using this
   simp only[bF,ak,ho,hu,aL,hz,amP,as_,pE,atG,Lu];rw[if_neg (by rintro(h|h|h);exact bA h;exact h rG;simp at h)];simp[ret]
  ·exact hs.elim
 ·rename_i ja;have aas:len≠0:=by intro h;subst h;simp at ja
  split at hs<;>first|(exact hs.elim)|skip
  rename_i cs hp;split at hs<;>first|(exact hs.elim)|skip
  rename_i fr zs V2 rws jq;split at hs<;>first|(exact hs.elim)|skip
  rename_i Cv;obtain⟨dJ,hk⟩:=Lw hs;have OW:=Lv (mv (P:=P) (ν:=ν) (R:=R) (φ:=φ) (L:=V.l) (σ:=σ) hz) len;obtain⟨gq,h1,h2,h3,h4⟩:=Bw (ty:=fun _=>et) hJ OW hp;obtain⟨R',cg,eQ,aqu,GU⟩:=SB hJ jq;obtain⟨ys,b1,b2,b3,b4⟩:=GU _ h2;have dU:gq.length=len*s:=by rw[h3,uQ Sw]
  have F3:ys.length=len*s:=by rw[←b2.len,dU]
  have vB:gq.all Ev.af=true:=by
   rw[aqW];intro c hc;obtain⟨i,hi⟩:=asq hc;have aa:i<ys.length:=by rw[←b2.len];exact(aqF.1 hi).1
   exact(b2.get hi (aqE aa)).af (aqW.1 b3 _ (List.getElem_mem aa))
  obtain⟨es,gl,afs,aft,amQ⟩:∃es:List IV,(dO (if isAgg P et=true then xr s len zs else zs)).den P ν=some (.agg es)∧es.length=len∧(∀e∈es,(cellsOf e).length=s)∧flat es=ys:=by
   by_cases ha:isAgg P et=true
   ·rw[if_pos ha];obtain⟨es,e1,e2,e3,e4⟩:=Lx (s:=s) len b1 F3;exact⟨es,ew e1,e2,e3,e4⟩
   ·rw[if_neg ha]
    have dw:s=1:=by
     simp only[aru,Bool.or_eq_false_iff,not_and,atr]at Cv;exact aqO (Cv (by simpa using ha))
    subst dw;obtain⟨e1,e2⟩:=Ly b3;exact⟨ys,ew b1,by omega,e1,e2⟩
  have hcr:oZ fr R' σ gq (flat es):=by
   rw[amQ];intro j x y hx hy;cases fr with
   |true=>exact b2.get hx hy
   |false=>exact(b4 dJ).get hx hy
  have o9:(SE.tr s (dO (if isAgg P et=true then xr s len zs else zs))).den P ν=some (.tree s es):=by
   simp only[SE.den,gl,aqN];rw[if_pos ⟨by omega,by rw[aqW];intro e he;simp[aft e he]⟩]
  have xc:ν.length=V2.n:=by rw[hn];exact cg.2.1.symm
  have tN:=eQ.xm (.cells gq 0 0) (.row s false false fr (.tr s (dO (if isAgg P et then xr s len zs else zs))))
   ⟨by omega,es,o9,aft,.inr ⟨σ.n,gq,0,0,by simp[bQ],by simp,aqK _,by rw[dU,afs];exact aqK _,eQ.qF,vB,fun j x y hx hy=>(hcr j x y hx hy).mono (La eQ _)⟩⟩
  refine .at (x:=.sl σ.n 0 len (some len) 0 s) (V1:={V2 with l:=V2.l++[.row s false false fr (.tr s (dO (if isAgg P et then xr s len zs else zs)))]}) hk tN xc cg.2.2.1
   ⟨s,false,false,fr,_,es,by simp,o9,.inr ⟨σ.n,gq,0,0,some len,by simp[bQ],by simp,by simp[afs],arw _,fun h=>(by cases h),fun c hc=>(by cases hc;exact⟨rfl,by omega,by omega⟩)⟩⟩ ?_
  have cW:pE (fun i=>some (i*s,s)) (aq1 len (z.cells.toList.map IV.raw)).flatten (parts.toList.map fun(i,x)=>(i,aq (E d) x))=some gq:=h1;simp only[bF,ak,ho,hu,aL,hz,Bx Sw (by omega),cW,ret];rw[if_neg (by rintro(h|h|h);exact bA h;exact h rG;omega),if_pos ⟨dU,vB⟩,if_neg aas]
end Go.Ev
namespace Go.Ev
variable{P:Program}{N:Nat}{σ ah:St}{R R':Rs}{φ aG:Ph}{E:Nat→Env}{ν:List IV}
variable{C:Cr}{Q:IV→Prop}{K:List (List IV→Prop)}{V:SS}{d:Nat}{o:Oper}{k:PV SE→SS→ab}{L:List (LO SE)}{Γ:Gm SE}
variable(hJ:J (aj P ν) R φ V.g V.l E σ)(hn:ν.length=V.n)
include hJ
theorem SC:∀{xs:List Operand} {bs:List (Nat×Nat)},Om P d V xs=some bs→All2 (fun y (p:Nat×Nat)=>∃id cs,φ p.1=some id∧V.l[p.1]?=some (.var cs)∧y=.ptr id 0 0 p.2) (xs.map (aq (E d))) bs
 |[],bs,h=>by
  simp only[Om,aqH]at h;subst h;trivial
 |x::xs,bs,h=>by
  simp only[Om]at h;split at h
  ·rename_i j ext hx;split at h
   ·rename_i l hl;simp only[aqH]at h;subst h;have hv:=aZ hJ d 0 x;rw[hx]at hv;exact⟨hv,SC hl⟩
   ·cases h
  ·cases h
include hn
theorem OX{f:FuncId}{first cap:Array Operand}(ho:o.op=.makeFunc (.func f) first cap)(hs:(fU P d o V k).sat P C Q K ν):cY P C Q K ν E V.ln k (bF P E d o σ):=by
 unfold fU at hs;rw[ho]at hs;simp only at hs;split at hs
 ·rename_i hf;split at hs
  ·rename_i bs hb;refine .at (x:=.fn (.func f) [] (cap.toList.map (aq (E d)))) hs hJ hn rfl (.inr ⟨_,rfl,SC hJ hb⟩) ?_;simp only[List.isEmpty_iff]at hf;simp[bF,ak,ho,ret,hf]
  ·exact hs.elim
 ·exact hs.elim
theorem RG{t:TypeId}{r:Option Operand}(ho:o.op=.makeMap t r)(hs:(fU P d o V k).sat P C Q K ν):cY P C Q K ν E V.ln k (bF P E d o σ):=by
 unfold fU at hs;rw[ho]at hs;simp only at hs;split at hs
 ·rename_i kt et hu;split at hs
  ·exact hs.elim
  rename_i dV;have dV:¬gp kt=true:=dV;have h1:=hJ.xm (.map [] 0) (.mp kt (.tp .an)) (by rw[gB,if_neg dV];exact⟨σ.n,[],0,[],by simp[aj,SE.den],by simp[bQ],hJ.qF,by simp,trivial,rfl,fun i e h=>by simp at h⟩);refine .at (x:=.map σ.n) (V1:={V with l:=V.l++[.mp kt (.tp .an)]}) hs h1 hn rfl ⟨σ.n,kt,SE.tp .an,by simp[bQ],by simp,(if_neg dV).symm⟩ ?_;simp[bF,ak,ho,ret]
 ·exact hs.elim
end Go.Ev
namespace Go.Ev
variable{P:Program}{N:Nat}{σ ah:St}{R R':Rs}{φ aG:Ph}{E:Nat→Env}{ν:List IV}
variable{C:Cr}{Q:IV→Prop}{K:List (List IV→Prop)}{V:SS}{d:Nat}{o:Oper}{k:PV SE→SS→ab}{L:List (LO SE)}{Γ:Gm SE}
theorem xC:∀{cs:List IV} {vs:List Value},t_ cs=some vs→cs=vs.map .raw
 |[],vs,h=>by simp only[t_,aqH]at h;subst h;rfl
 |c::cs,vs,h=>by
  unfold t_ at h;split at h<;>first|(cases h;done)|skip
  all_goals
   obtain⟨ws,h1,rfl⟩:=aqL.1 h;rw[xC h1];rfl
theorem xD:∀vs:List Value,gg (vs.map .raw)=some vs
 |[]=>rfl
 |v::vs=>by simp only[arC,gg,xD vs]
theorem DL{x:IV}{v:Value}(h:keyOf x=some v):iu x=some v∧lift v=x:=by
 unfold keyOf at h;split at h<;>first|(cases h;exact⟨rfl,rfl⟩)|(cases h;done)|skip
 rename_i cs;obtain⟨vs,h1,rfl⟩:=aqL.1 h;have:=xC h1;subst this;refine⟨?_,by simp[lift]⟩;simp only[iu,oJ,xD]
theorem By{fr:Bool}{x:IV}{cs:List IV}(h:aY fr R σ x (.agg cs)):∃xs,x=.agg xs∧All2 (aY fr R σ) xs cs:=by
 cases h with
 |agg pZ _ hl hh=>exact⟨pZ,rfl,.mk hl hh⟩
 |pure _ hf hp=>
  refine⟨cs,rfl,.mk rfl fun i a b h1 h2=>?_⟩;rw[h1]at h2;cases h2;cases hp with
  |agg _ hh=>exact .pure a hf (hh a (aqS h1))
theorem DM{fr:Bool}{x u:IV}{v:Value}(h:keyOf x=some v)(hc:aY fr R σ u x):u=x:=by
 unfold keyOf at h;split at h<;>first|(exact bV hc)|(cases h;done)|skip
 rename_i cs;obtain⟨vs,h1,rfl⟩:=aqL.1 h;have:=xC h1;subst this;obtain⟨xs,rfl,iC⟩:=By hc
 congr 1
 apply List.ext_getElem?;intro i;cases hi:xs[i]? with
 |none=>
  have:(vs.map IV.raw)[i]?=none:=by
   rw[List.getElem?_eq_none_iff]at hi⊢;rw[←iC.len];exact hi
  rw[this]
 |some a=>
  have aa:=(aqF.1 hi).1;rw[iC.len]at aa;have hb:=aqE aa;have:=iC.get hi hb;rw[hb];simp only[List.getElem_map]at this⊢;rw[bV this]
theorem aat{u v:Value}(h:keyOf (lift u)=some v):u=v:=by
 obtain⟨h1,_⟩:=DL h;unfold lift at h1;split at h1
 ·rename_i cs;simp only[iu,oJ,xD,aqH]at h1;rw[←h1]
 ·cases h1;rfl
theorem SD{es:List (Value×IV×Nat)}{ds:List IV}{ks:List Value}(he:yp R σ es ds)(h:nI ds=some ks):es.map (·.1)=ks:=by
 unfold yp at he;induction ds generalizing es ks with
 |nil=>
  cases es with
  |nil=>simp only[nI,aqH]at h;subst h;rfl
  |cons=>exact he.elim
 |cons d ds ih=>
  cases es with
  |nil=>exact he.elim
  |cons e es=>
   obtain⟨⟨z,rfl,_⟩,h2⟩:=he;simp only[nI]at h;split at h
   ·rename_i v vs h3 h4;simp only[aqH]at h;subst h;simp only[arC,aat h3,ih h2 h4]
   ·cases h
theorem Ik{kd:TypeDesc}{key:Value}:∀{es:List (Value×IV×Nat)} {n:Nat} {q:Option Nat},nowAt kd key (es.map (·.1)) n=some q→
 ∃r,arQ kd key (es.map fun e=>{key:=e.1,val:=art,born:=e.2.2}) n=some r∧(q=none→r=none)∧(∀j,q=some j→(∃v,r=some (j,v))∧n≤j∧∃e,es[j- n]?=some e∧atM kd key e.1=some true)
 |[],n,q,h=>by
  simp only[as_,nowAt,aqH]at h;subst h;exact⟨none,rfl,fun _=>rfl,fun j hj=>by cases hj⟩
 |e::es,n,q,h=>by
  simp only[arC,nowAt]at h;simp only[arC,arQ];split at h
  ·rename_i hs;simp only[aqH]at h;subst h;refine⟨some (n,art),by rw[hs],(fun h=>by cases h),fun j hj=>?_⟩;cases hj;exact⟨⟨_,rfl⟩,aqK _,e,by simp,hs⟩
  ·rename_i hs;obtain⟨r,h1,h2,h3⟩:=Ik h;refine⟨r,by rw[hs];exact h1,h2,fun j hj=>?_⟩;obtain⟨h4,h5,e',h6,h7⟩:=h3 j hj;refine⟨h4,by omega,e',?_,h7⟩;rw[show j- n=(j-(n+1))+1 by omega];simpa using h6
  ·cases h
theorem run_underlying{t:TypeId}{kd:TypeDesc}(h:P.underlying t=some kd):aK P (underlying t)=some kd:=by
 unfold underlying;rw[bn];show(aK P (.program fun p=>.pure p)).bind _=_;simp only[aK,aqN,h];rfl
theorem Cw{kd:TypeDesc}{k:Value}:∀(es aB:List MapEntry) (n:Nat),es.map (fun e=>(e.key,e.val))=aB.map (fun e=>(e.key,e.val))→arQ kd k es n=arQ kd k aB n
 |[],[],_,_=>rfl
 |[],e'::aB,_,h=>by simp at h
 |e::es,[],_,h=>by simp at h
 |e::es,e'::aB,n,h=>by
  simp only[arC,arF,aq6]at h;simp only[arQ];rw[h.1.1,h.1.2,Cw es aB (n+1) h.2]
theorem xE{kt:TypeId}{k:Value}:∀(es aB:List MapEntry) (n:Nat),es.map (fun e=>(e.key,e.val))=aB.map (fun e=>(e.key,e.val))→arD kt k es n=arD kt k aB n
 |[],[],_,_=>rfl
 |[],e'::aB,_,h=>by simp at h
 |e::es,[],_,h=>by simp at h
 |e::es,e'::aB,n,h=>by
  simp only[arC,arF,aq6]at h;simp only[arD];rw[h.1.1,h.1.2,xE es aB (n+1) h.2]
theorem Vt{b:Bool}{kt:TypeId}{k:Value}{es aB:List (Value×IV×Nat)}(h:es.map (·.1)=aB.map (·.1)):gM P b kt k es=gM P b kt k aB:=by
 have hm:(es.map fun e=>({key:=e.1,val:=art,born:=e.2.2}:MapEntry)).map (fun e=>(e.key,e.val))=(aB.map fun e=>({key:=e.1,val:=art,born:=e.2.2}:MapEntry)).map (fun e=>(e.key,e.val)):=by
  simp only[ato]
  have:∀l:List (Value×IV×Nat),l.map ((fun e:MapEntry=>(e.key,e.val))∘fun e=>({key:=e.1,val:=art,born:=e.2.2}:MapEntry))=(l.map (·.1)).map fun k=>(k,art):=fun l=>by
   rw[ato];rfl
  rw[this,this,h]
 unfold gM
 have hf:ar7 kt k (es.map fun e=>{key:=e.1,val:=art,born:=e.2.2})=ar7 kt k (aB.map fun e=>{key:=e.1,val:=art,born:=e.2.2}):=by
  unfold ar7
  congr 1
  funext d;rw[Cw _ _ 0 hm,xE _ _ 0 hm]
 rw[hf]
theorem vg{kt:TypeId}{ds:List IV}{x:IV}{q:Option Nat}{es:List (Value×IV×Nat)}(he:yp R σ es ds)(h:fa P kt ds x=some q)(b:Bool):
 ∃key,keyOf x=some key∧iu x=some key∧lift key=x∧gM P b kt key es=some q∧∀j,q=some j→∃e,es[j]?=some e∧ati 10000 e.1 key=true:=by
 unfold fa at h;split at h
 ·rename_i kd ks key hk d_ ma;have h1:=ma;obtain⟨h2,h3⟩:=DL ma;have gl:=SD he d_;rw[←gl]at h;obtain⟨r,g1,g2,g3⟩:=Ik h;refine⟨key,h1,h2,h3,?_,fun j hj=>?_⟩
  ·have hu:P.underlying kt=some kd∧((∃q,kd=.int q)∨kd=.string):=by
    unfold EZ at hk;split at hk
    ·rename_i q hq;cases hk;exact⟨hq,.inl ⟨_,rfl⟩⟩
    ·rename_i hq;cases hk;exact⟨hq,.inr rfl⟩
    ·cases hk
   have hck:aK P (aus b 10000 kt key)=some ():=by
    show aK P (aus b (9999+1) kt key)=some ();unfold aus;rw[bn,run_underlying hu.1,aqN];rcases hu.2 with⟨q,rfl⟩|rfl<;>rfl
   have SG:aK P (ar7 kt key (es.map fun e=>{key:=e.1,val:=art,born:=e.2.2}))=some r:=by
    unfold ar7;rw[bn,run_underlying hu.1,aqN,g1];rfl
   unfold gM;rw[bn,hck,aqN,SG];cases q with
   |none=>rw[g2 rfl]
   |some j=>obtain⟨⟨v,rfl⟩,_⟩:=g3 j rfl;rfl
  ·obtain⟨_,_,e,g4,g5⟩:=g3 j hj;refine⟨e,by simpa using g4,?_⟩;unfold atM at g5;split at g5
   ·rename_i hh;split at g5
    ·rename_i hq;simp only[aqH]at g5;rw[‹e.1=_›];simp[ati,hq,eq_of_beq g5]
    ·cases g5
   ·rename_i a b l5;rw[l5];simp only[aqH]at g5;have hd:a.data=b.data:=eq_of_beq (show(a.data==b.data)=true from g5);show(b.data==a.data)=true;simp[hd]
   ·rw[‹e.1=_›];simp only[aqH]at g5;simp[ati,eq_of_beq g5]
   ·cases g5
 ·rename_i ks key hk d_ ma;obtain⟨h2,h3⟩:=DL ma;have gl:=SD he d_;have tJ:∀b',gM P b' kt key es=gM P b' kt key (ks.map fun e=>(e,.undef,0)):=fun b'=>Vt (by rw[gl];simp[Function.comp_def]);unfold H2 at h;split at h<;>first|(cases h;done)|skip
  rename_i q1 q2 Ca Nz;split at h<;>first|(cases h;done)|skip
  rename_i hqq;subst hqq
  have hkb:gM P b kt key es=some q1:=by
   rw[tJ];cases b
   ·exact Nz
   ·exact Ca
  split at h
  ·cases h;exact⟨key,ma,h2,h3,hkb,fun j hj=>by cases hj⟩
  ·rename_i j;split at h<;>first|(cases h;done)|skip
   rename_i e hj;split at h<;>first|(cases h;done)|skip
   rename_i WD;cases h;refine⟨key,ma,h2,h3,hkb,fun j' fJ=>?_⟩;cases fJ;rw[←gl,aqU]at hj;obtain⟨e',h5,h6⟩:=aqL.1 hj;exact⟨e',h5,by rw[h6];exact WD⟩
 ·cases h
end Go.Ev
