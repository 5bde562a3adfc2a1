/- A part of the proof, no condition: what functions of the program and of the reference compute. -/
import Derived.Test.YtabefplkfkfdfaaGreatPAk
import Derived.Test.YtabefplkfkfdfaaGreatPAh
import Derived.Test.YtabefplkfkfdfaaGreatPAg
import Derived.Test.YtabefplkfkfdfaaGreatPAc
import Derived.Test.YtabefplkfkfdfaaGreatPAj
import Derived.Test.YtabefplkfkfdfaaGreatPAb
import Derived.RowKit3
import Derived.Below
open List renaming mem_cons->ayW,mem_singleton->ayU,take_succ_eq_append_getElem->ayN,mem_append->ayS,take_of_length_le->ayV,getElem_mem->ayJ,drop_of_length_le->azf,append_nil->ay2,mem_of_getElem?->ayX,getElem?_eq_some_iff->ayH,getElem?_eq_none->aCA,getElem?_eq_getElem->ayG,getElem?_map->ay1,map_set->aBX,take_append_drop->azW,flatMap_append->aBR,length_map->azq,length_take->azS,drop_eq_getElem_cons->ay5,map_cons->azr,map_append->azQ,set_append_right->aBC,map_nil->aAW,append_assoc->ay3,singleton_append->aCB,isEmpty_iff->aAg,mk_mem_zipIdx_iff_getElem?->aAe,findIdx?_eq_some_iff_getElem->aBW,findIdx?_eq_none_iff->aCl,perm_middle->aDo,pairwise_append->aCJ,pairwise_cons->aCW,cons_append->azO,getElem?_append_right->aze,mem_iff_getElem->aAv,pairwise_iff_getElem->aAd,take_length->aBc,nodup_cons->azP,eq_nil_of_length_eq_zero->azb,mem_cons_of_mem->azg,length_cons->azh,mem_append_left->azw,length_append->ayP,nil_append->azN,getD_eq_getElem?_getD->azu,mem_map->ay8,getElem?_append_left->ayZ,length_flatten->az2,getElem?_cons_zero->az8,replicate->ay_,map_map->aCe,forIn_cons->aDv,forIn_nil->aDI,getElem?_cons_succ->aBz,length_eraseIdx->aCK,mem_of_mem_eraseIdx->aCo
open Go.Proofs.Tryz renaming prog->ayF,underlying28->aDc,underlying214->aCX
open Go.Value renaming int->aAf
open Option renaming bind_some->ayK,map_eq_some_iff->ayR
open Nat renaming min_eq_left->aCn,le_of_lt->aD9,beq->ayQ,ble->azK,blt_eq->aEf,beq_eq->azv,le_refl->ayL,le_trans->ay6,zero_add->aAn
open Bool renaming and_eq_true->ayI,not_true->azV,not_false->aA4,and_true->aBe,and_false->aA5,true_and->aAY,false_and->aA6,false_eq_true->azi,eq_iff_iff->aAH
open Go.IntKind renaming u64->aDH,i64->azc
open List.Pairwise renaming map->aBV
open List.Perm renaming eq_of_pairwise->aEp
open And renaming intro->azA
open Prod renaming fst->azU
open Go.Op renaming equal->aA8,equalIn->azE
open Go.Instr renaming checkKey->aA7,findKey->azR,findAsking->azt,sameBits->aAD
open Go renaming undef->azm
open Std.Legacy.Range renaming forIn_eq_forIn_range'->aDJ,size->aDK
open Option renaming some->aa,none->ah
open Bool renaming true->ab,false->af
set_option linter.all false
namespace Go.Proofs.YtabefplkfkfdfaaGreat
open Go Go.Ev
def Mi:aq:=
 (yG fz jn fF eg eo fi ej)
def Mj:aq:=
 (yG fz jn (yz fz dp) eg eo fi ej)
def u4:aq:=
 (FY .leq fz eS (.test cT (wu jn 3 jn Mi Mi) (iu (yz fz dp) .lss jn lq bC (tH 3 jn lq Mj Mj))))
def I4:aq:=
 (yG eS M7 cT eg eo fi ej)
def I5:aq:=
 (yG eS bj cT eg eo fi ej)
def mQ:aq:=
 (wu bj 3 bj I5 I5)
def p7:aq:=
 (oG 3 CP bj Al 3 CP jn (lZ eg mQ) (oG 3 CP wD (lZ eo mQ) 3 CP wC (lZ fi mQ) (C_ 3 CP (lZ ej mQ))))
def I6:aq:=
 (yG eS bj cT fF eo fi ej)
def I7:aq:=
 (yG eS bj cT eg fF fi ej)
def Mk:aq:=
 (yG eS bj cT eg eo fF ej)
def Ml:aq:=
 (yG eS bj cT eg eo fi fF)
def p8:aq:=
 (oG 3 fz bj Al 3 fz jn (wu bj 3 bj I6 I6) (oG 3 fz wD (wu bj 3 bj I7 I7) 3 fz wC (wu bj 3 bj Mk Mk) (C_ 3 fz (wu bj 3 bj Ml Ml))))
def Mm:aq:=
 (ahU eS bj cT (xM 12 1 0) (xM 12 1 1) (xM 12 1 2) (xM 12 1 3) (uO 13))
def fT:aq:=
 (.nt (vZ 3 1 l5) (nX 7 mY 1 (lV 7 11 .eql 11 0 6 (oG 3 fz bj Al 3 fz jn (lZ eg u4) (oG 3 fz wD (lZ eo u4) 3 fz wC (lZ fi u4) (C_ 3 fz (lZ ej u4)))) (jr 11 7 (wu wD 3 wD bC (ahP eS wD fF cT eg eo fi ej SD)) 11 8 (kB 868 (iC (wv eg eo 8 9)) 11 2 .an (iE (nC 12) (nC 12) (wk 3 wj CP fg (lZ (.var 13) (FY .neq fz fJ (wu wC 3 wC bC (yG eS wC cT (xM 12 1 0) (xM 12 1 1) (xM 12 1 2) (xM 12 1 3)))))))) (jr 11 9 (wu M7 3 M7 I4 I4) 11 10 (FY .neq fz fJ (wu (.i 5) 3 (.i 5) bC (yG eS (.i 5) cT eg eo fi ej))) (jr 11 1 (oG 3 fz bj Al 3 fz jn (lZ eg mQ) (oG 3 fz wD (lZ eo mQ) 3 fz wC (lZ fi mQ) (C_ 3 fz (lZ ej mQ)))) 11 4 (oG 3 fz bj Al 3 fz jn (lZ eg p7) (oG 3 fz wD (lZ eo p7) 3 fz wC (lZ fi p7) (C_ 3 fz (lZ ej p7)))) (jr 11 3 (oG 3 fz bj Al 3 fz jn (.test eg bC p8) (oG 3 fz wD (.test eo bC p8) 3 fz wC (.test fi bC p8) (C_ 3 fz (.test ej bC p8)))) 11 5 (kB 868 (iC (wv eg eo 8 9)) 11 2 .an (iE (nC 12) (nC 12) (FY .neq fz fJ (mV 3 wj CP fF (wu bj 3 bj Mm Mm))))) mQ)))))) (.nt (mU .eql 3 5) (.nt (Lx .neq 4 5 jl) (pL oI gF (.ret jl)) bC) bC))
def Zd:aq:=
 (.loop (M4 bj qV bj fg fg fF fg fg (eI fg yp)) fT)
def Ze:aq:=
 (.loop (M4 bj qV bj fg fg fg fF fg (eI fg yp)) fT)
def Zf:aq:=
 (.loop (M4 bj qV bj fg fg fg fg fF (eI fg yp)) fT)
def Zg:aq:=
 (.loop (M4 bj qV bj fg fg fg fg fg (eI fF yp)) fT)
def N7:aq:=
 (jL 4 (oG 3 dp bj Al 3 dp jn (nY 3 Zd) (oG 3 dp wD (nY 3 Ze) 3 dp wC (nY 3 Zf) (C_ 3 dp (nY 3 Zg)))))
def apc:aI ayF (kC [⟨0,223,7,[(0,(6,0)),(0,(5,0)),(0,(7,0)),(0,(8,0)),(0,(20,0))],[(2,0),(1,3),(1,2),(1,1),(1,0)],[],[]⟩]) 400 af 223=N7:=by kernel_rfl
set_option maxRecDepth 100000 in
def akU:comes ((Wt ayF (λ_=>[]) 3000).call 0 14 [] ⟨0,.lf⟩) (iB ab)=ab:=by as_aux_lemma=>kernel_rfl
def k14:CC 14 af [] (iB ab):=CC.plain (EZ rfl) (eK.run mixed (λ_ _ _ h=>by cases h) akU) aw kr
def ag8{ts:List Tm}{ps:List Int}{t:Tm}(h:t∈oi ts ps):t∈ts:=by
 obtain⟨v,_,h⟩:=List.mem_flatMap.1 h;unfold Ed at h;split at h
 .split at h
  .rename_i u hu;obtain rfl:=ayU.1 h;exact ayX hu
  .cases h
 .cases h
section
def apd(s:List UInt8)(n:Int)(h:gZ s=ab)(h0:0<=n)(h6:n<=6):CC 181 af [iS s,iI n] (iI 0):=by
 refine CC.zN apa kr (λ_=>kr) (lC aw aw) (by rfl) ?_;have G3:=YF s;rw[h]at G3;have z1:¬n<0:=aj;have z2:¬6<n:=aj;simp[ai6,SE.den,ao];refine⟨_,G3,?_⟩;simp[z1,z2];omega
structure BW(a:Ac):Prop where
 s:gZ a.s=ab
 n:0<=a.n/\a.n<=6
 asc:a.ps.Pairwise (·<·)
 v:∀v∈a.ps,0<=v/\v<a.n
def awS(a:Ac)(h:BW a)(hl:a.ps.length<=8):CC 123 af [tL a] (iI 0):=by
 refine CC.zN ao_ kr (λ_=>kr) (dL (DB a)) (by rfl) ?_;have ag9:=apd a.s a.n h.s h.n.1 h.n.2;have hC:tL a=.agg [iS a.s,iI a.n,iL a.ps]:=rfl;have agh:=h.asc;have hv:=h.v;rw[hC];simp[ai5,SE.den,ao];refine⟨_,ag9,?_⟩;simp;unfold Zc;refine aB a.ps.length (λi (q:Int)=>[iI i,iI q]) (λi q=>∀v∈a.ps.drop i,q<v) (-1) ?_ (by intro v hm;have:=(hv v (by simpa using hm)).1;omega) λi q hi hI=>?_
 .simp[SE.den]
 by_cases ak:i<a.ps.length
 .have hw:=aH ak aj;have hd:=ay5 ak;have hq:¬a.ps[i]<=q:=by have:=hI a.ps[i] (by rw[hd];exact List.mem_cons_self);omega
  have hn:=(hv _ (ayJ ak)).2;have hn:¬a.n<=a.ps[i]:=aj;simp[SE.den,ak,hw,kS ak,ao,hq,hn];refine .mk a.ps[i] rfl aj λv hm=>?_;have hp:(a.ps.drop i).Pairwise (·<·):=agh.sublist (List.drop_sublist _ _);rw[hd,aCW]at hp;exact hp.1 v hm
 .simp[SE.den,ak]
def ape(b0 b1 b2 b3:Bool)(n:Int)(h1:1<=n)(h4:n<=4)(e0:b0=ab)(e1:1<n->b1=ab)(e2:2<n->b2=ab)(e3:3<n->b3=ab):
 CC 868 ab [.agg [.agg [iB b0,iB b1,iB b2,iB b3]],iI n] (.aF [iB ab,.agg [iB b0,iB b1,iB b2,iB b3]]):=by
 have h:=CC.aie (new:=ab) (ins:=[[iB b0,iB b1,iB b2,iB b3]]) (outs:=[[iB b0,iB b1,iB b2,iB b3]]) (xs:=[iI n]) (z:=iB ab) (n:=400) (f:=256) ao9 kr rfl (by simp[ao]) (by
  simp[ai4,SE.den,ao];unfold Zb;obtain⟨m,rfl⟩:∃m:Nat,n=m:=⟨n.toNat,by omega⟩;refine aB m (λi (_:Unit)=>[iI i]) (λ_ _=>True) () ?_ trivial λi _ hi _=>?_
  .simp[SE.den]
  by_cases ak:i<m
  .have hw:=aH ak aj;have hc:i=0\/i=1\/i=2\/i=3:=aj;rcases hc with rfl|rfl|rfl|rfl
   .simp[SE.den,ak,e0,ao];exact .mk () rfl aj trivial
   .have:=e1 aj;have hz:(1:Int)<m:=aj;simp[SE.den,hz,this,ao];exact .mk () rfl aj trivial
   .have:=e2 aj;have hz:(2:Int)<m:=aj;simp[SE.den,hz,this,ao];exact .mk () rfl aj trivial
   .have:=e3 aj;have hz:(3:Int)<m:=aj;simp[SE.den,hz,this,ao];exact .mk () rfl aj trivial
  .have hz:¬(i:Int)<m:=aj;simp[SE.den,hz,ao,aL])
 rw[kf]at h;exact h
inductive nR:In->Prop
 |mt (a b:Int) (t:Tm):0<=a->a<4->0<=b->b<6->kQ t->jX t=ab->nR ⟨1,a,b,dZ,[t]⟩
 |ts (g:Gl):pd g->eF g=ab->g.op=1\/5<=g.op->nR ⟨2,0,0,g,[]⟩
 |fd (a b:Int) (ts:List Tm):0<=a->a<4->0<=b->ts.length<=6->(∀t∈ts,kQ t/\jX t=ab)->nR ⟨3,a,b,dZ,ts⟩
 |ap (a b:Int):0<=a->a<4->0<=b->b<4->a≠b->nR ⟨4,a,b,dZ,[]⟩
 |fr (a b:Int):0<=a->a<40->1<=b->b<=4->nR ⟨5,a,b,dZ,[]⟩
 |rm (a:Int):0<=a->a<4->nR ⟨6,a,0,dZ,[]⟩
 |kp:nR ⟨7,0,0,dZ,[]⟩
 |nt (a b:Int):0<=a->a<40->1<=b->b<=4->nR ⟨8,a,b,dZ,[]⟩
 |pu (g:Gl):pd g->eF g=ab->g.op<=4->nR ⟨9,0,0,g,[]⟩
 |cm (a b:Int):0<=a->a<40->0<=b->b<=1048576->nR ⟨10,a,b,dZ,[]⟩
def R4{t:Tm}(h:jX t=ab):ti t 200 20=ab:=by
 have e1:∀a b:Nat,decide ((a:Int)<=b)=decide (a<=b):=λa b=>by simp
 rw[ti,show(200:Int)=((200:Nat):Int)from rfl,show(20:Int)=((20:Nat):Int)from rfl,e1,e1];rw[jX]at h;exact h
section
variable{Q:IV->Prop}{x1:IV}
def akV(i:In)(hl:i.ts.length<=6)(h:∀t∈i.ts,kQ t/\jX t=ab)(hQ:Q (iB ab)):fS.sat ayF CC Q [] [dE i]:=by
 have hE:dE i=.agg [iI i.op,iI i.a,iI i.b,iI i.g.op,iS i.g.s,iT i.g.ts,iT i.ts]:=rfl;rw[hE];unfold fS;refine aB i.ts.length (λj (_:Unit)=>[iI j]) (λ_ _=>True) () ?_ trivial λj _ hj _=>?_
 .simp[SE.den]
 by_cases ak:j<i.ts.length
 .have hw:=aH ak aj;obtain⟨h1,h2⟩:=h _ (ayJ ak);obtain⟨k,_,hc⟩:=v159 i.ts[j] h1 200 20 aj aj aj aj;rw[R4 h2,bG]at hc;simp[SE.den,ak,hw,ng ak,bG,ao];refine⟨_,hc,?_⟩;simp[ao];exact .mk () rfl aj trivial
 .simp[SE.den,ak,hQ]
def akW(i:In)(hl:i.ts.length<=6)(h:∀t∈i.ts,kQ t/\jX t=ab)(hQ:Q (iB ab)):sA.sat ayF CC Q [] [dE i,x1]:=by
 have hE:dE i=.agg [iI i.op,iI i.a,iI i.b,iI i.g.op,iS i.g.s,iT i.g.ts,iT i.ts]:=rfl;rw[hE];unfold sA;refine aB i.ts.length (λj (_:Unit)=>[iI j]) (λ_ _=>True) () ?_ trivial λj _ hj _=>?_
 .simp[SE.den]
 by_cases ak:j<i.ts.length
 .have hw:=aH ak aj;obtain⟨h1,h2⟩:=h _ (ayJ ak);obtain⟨k,_,hc⟩:=v159 i.ts[j] h1 200 20 aj aj aj aj;rw[R4 h2,bG]at hc;simp[SE.den,ak,hw,ng ak,bG,ao];refine⟨_,hc,?_⟩;simp[ao];exact .mk () rfl aj trivial
 .simp[SE.den,ak,hQ]
end
def awT(i:In)(h:nR i):CC 222 af [dE i] (iB ab):=by
 refine CC.cZ apb kr (λ_=>kr) (dL (RY i)) (by rfl) ?_;have h0:=λhl h=>akV (Q:=xV (·=ab)) i hl h aw;have h1:=λx1 hl h=>akW (Q:=xV (·=ab)) (x1:=x1) i hl h aw;cases h with
 |mt a b t a0 a4 b0 b6 hn hr=>
  have h0:=h0 aw (by intro u hu;obtain rfl:=ayU.1 hu;exact⟨hn,hr⟩);simp[dE,dZ]at h0;simp[w6,dE,dZ,SE.den,ao,a0,a4,b0,b6];exact h0
 |ts g hn hr ho=>
  have h1:=h1 (iB ab) aw (by intro u hu;cases hu);have WI:=v138 g hn;rw[hr]at WI;simp[dE]at h1;simp[w6,dE,SE.den,ao];refine⟨_,WI,?_⟩;by_cases e:g.op=1
  .simp[e]at h1⊢;exact h1
  .have h5:5<=g.op:=aj;simp[e,h5];exact h1
 |fd a b ts a0 a4 b0 hl ht=>
  have h0:=h0 hl ht;simp[dE,dZ]at h0;have hz:¬(6:Int)<ts.length:=aj;have Ie:¬(ts.length:Int)<0:=aj;simp[w6,dE,dZ,SE.den,ao,a0,a4,b0,hz,Ie]
  first|exact h0|exact⟨by omega,h0⟩
 |ap a b a0 a4 b0 b4 bA=>
  have h0:=h0 aw (by intro u hu;cases hu);simp[dE,dZ]at h0;simp[w6,dE,dZ,SE.den,ao,a0,a4,b0,b4,bA];exact h0
 |fr a b a0 a4 b0 b4=>
  have h0:=h0 aw (by intro u hu;cases hu);simp[dE,dZ]at h0;simp[w6,dE,dZ,SE.den,ao,a0,a4,b0,b4];exact h0
 |rm a a0 a4=>
  have h0:=h0 aw (by intro u hu;cases hu);simp[dE,dZ]at h0;simp[w6,dE,dZ,SE.den,ao,a0,a4];exact h0
 |kp=>
  have h0:=h0 aw (by intro u hu;cases hu);simp[dE,dZ]at h0;simp[w6,dE,dZ,SE.den,ao];exact h0
 |nt a b a0 a4 b0 b4=>
  have h0:=h0 aw (by intro u hu;cases hu);simp[dE,dZ]at h0;simp[w6,dE,dZ,SE.den,ao,a0,a4,b0,b4];exact h0
 |pu g hn hr ho=>
  have h1:=h1 (iB ab) aw (by intro u hu;cases hu);have WI:=v138 g hn;rw[hr]at WI;simp[dE]at h1;simp[w6,dE,SE.den,ao];refine⟨_,WI,?_⟩;simp[ho];exact h1
 |cm a b a0 a4 b0 b4=>
  have h0:=h0 aw (by intro u hu;cases hu);simp[dE,dZ]at h0;simp[w6,dE,dZ,SE.den,ao,a0,a4,b0,b4];exact h0
structure Sf where
 last:Int
 cP:Int
 kept:Bool
 rem:Bool
 b:Int->Bool
 fr:List Int
inductive vw(o:Oc):Sf->In->Sf->Prop
 |rm (s:Sf) (i:In):i.op=6->0<=i.a->i.a<4->s.b i.a=ab->s.last<i.a->s.cP<=1->vw o s i {s with last:=i.a,cP:=1,rem:=s.rem||i.a==o.h}
 |kp (s:Sf) (i:In):i.op=7->s.cP<2->vw o s i {s with cP:=2,kept:=ab}
 |nt (s:Sf) (i:In):i.op=8->1<=i.b->i.b<=4->(∀v,0<=v->v<i.b->s.b v=ab)->i.b∈s.fr->i.a=o.r->s.cP<3->vw o s i {s with cP:=3}
 |pu (s:Sf) (i:In):i.op=9->s.cP<=4->vw o s i {s with cP:=4}
 |cm (s:Sf) (i:In):i.op=10->i.a=o.r->s.cP<5->vw o s i {s with cP:=5}
 |mt (s:Sf) (i:In):i.op=1->0<=i.a->i.a<4->s.b i.a=ab->s.cP=0->vw o s i s
 |ap (s:Sf) (i:In):i.op=4->0<=i.a->i.a<4->s.b i.a=ab->0<=i.b->i.b<4->s.b i.b=ab->s.cP=0->vw o s i s
 |fd (s:Sf) (i:In):i.op=3->0<=i.a->i.a<4->s.b i.a=af->s.cP=0->vw o s i {s with b:=λv=>v==i.a||s.b v}
 |fr (s:Sf) (i:In):i.op=5->1<=i.b->i.b<=4->(∀v,0<=v->v<i.b->s.b v=ab)->i.a=o.r->s.cP=0->vw o s i {s with fr:=Ee s.fr i.b}
 |ts (s:Sf) (i:In):i.op=2->s.cP=0->vw o s i s
def jF(o:Oc):Sf->List In->Sf->Prop
 |s,[],t=>s=t
 |s,i::c,t=>∃u,vw o s i u/\jF o u c t
theorem jF.app{o:Oc}:∀{c d:List In} {s t u:Sf},jF o s c t->jF o t d u->jF o s (c++d) u
 |[],_,_,_,_,h1,h2=>by cases h1;exact h2
 |_::_,_,_,_,_,⟨v,h,h1⟩,h2=>⟨v,h,h1.app h2⟩
def jF.one{o:Oc}{s t:Sf}{i:In}(h:vw o s i t):jF o s [i] t:=⟨t,h,rfl⟩
def G9(s:Sf):List IV:=[iI s.last,iI s.cP,iB s.kept,iB s.rem,iB (s.b 0),iB (s.b 1),iB (s.b 2),iB (s.b 3),rC s.fr]
def atl(ks:List Int)(k:Int):nP ayF 3 (rC ks) (iI k) (iB ab)=aa (rC (Ee ks k)):=by
 have h:=Wq (ν:=[rC ks,iI k]) (m:=.var 0) (key:=.var 1) (ks:=ks) (k:=k) rfl rfl;simp only[aez,jx,agT,az8,aBz,ayK]at h;exact h
def atm(ks:List Int)(k:Int):nQ ayF 3 (rC ks) (iI k) (iB af)=aa (iB (decide (k∈ks))):=by
 have h:=Wr (ν:=[rC ks,iI k]) (m:=.var 0) (key:=.var 1) (ks:=ks) (k:=k) rfl rfl;simp only[aeA,jx,agT,az8,aBz,ayK]at h;exact h
def orE{p A:Prop}(h:A):p/\A\/¬p/\A:=by
 by_cases e:p
 .exact .inl ⟨e,h⟩
 .exact .inr ⟨e,h⟩
def c4{a:Int}(h0:0<=a)(h4:a<4):a=0\/a=1\/a=2\/a=3:=aj
section
variable{Q:IV->Prop}{k0:List IV->Prop}{o:Oc}{c:List In}{n:Nat}{la st:Int}{kp rm b0 b1 b2 b3:Bool}{m:IV}{i:In}
def Qj(hn:n<1000)(hk:k0 [iI (n+1:Nat),iI la,iI 0,iB kp,iB rm,iB b0,iB b1,iB b2,iB b3,m]):
 mQ.sat ayF CC Q [k0] [iG o c,iI n,iI la,iI 0,iB kp,iB rm,iB b0,iB b1,iB b2,iB b3,m,dE i]:=by
 have hw:=aH hn aj;simp[mQ,I5,aJ,hw];exact hk
def akX(hn:n<1000)(hl:la<i.a)(hs:st<=1)(hk:k0 [iI (n+1:Nat),iI i.a,iI 1,iB kp,iB (rm||i.a==o.h),iB b0,iB b1,iB b2,iB b3,m]):
 u4.sat ayF CC Q [k0] [iG o c,iI n,iI la,iI st,iB kp,iB rm,iB b0,iB b1,iB b2,iB b3,m,dE i]:=by
 have hw:=aH hn aj;have z1:¬i.a<=la:=aj;have z2:¬1<st:=aj;have z3:(st=1)\/¬(st=1):=aj;have hE:dE i=.agg [iI i.op,iI i.a,iI i.b,iI i.g.op,iS i.g.s,iT i.g.ts,iT i.ts]:=rfl;have hB:iG o c=.agg [iI o.r,iI o.h,iB o.k,cn c]:=rfl;rw[hE,hB];cases rm with
 |true=>
  simp[u4,Mi,aJ,hw,z1,z2];simp at hk;exact orE hk
 |false=>
  simp[u4,Mj,aJ,hw,z1,z2];simp at hk;exact orE hk
def akY(hn:n<1000)(h0:0<=i.b)(h4:i.b<4)(hb:(i.b=0->b0=ab)/\(i.b=1->b1=ab)/\(i.b=2->b2=ab)/\(i.b=3->b3=ab))(hk:k0 [iI (n+1:Nat),iI la,iI 0,iB kp,iB rm,iB b0,iB b1,iB b2,iB b3,m]):
 p7.sat ayF CC Q [k0] [iG o c,iI n,iI la,iI 0,iB kp,iB rm,iB b0,iB b1,iB b2,iB b3,m,dE i]:=by
 have hy:=Qj (Q:=Q) (o:=o) (c:=c) (i:=i) hn hk;have hE:dE i=.agg [iI i.op,iI i.a,iI i.b,iI i.g.op,iS i.g.s,iT i.g.ts,iT i.ts]:=rfl;rw[hE]at*
 rcases c4 h0 h4 with e|e|e|e
 .have:=hb.1 e;subst this;simp[p7,aJ,e]at hy⊢;exact hy
 .have:=hb.2.1 e;subst this;simp[p7,aJ,e]at hy⊢;exact hy
 .have:=hb.2.2.1 e;subst this;simp[p7,aJ,e]at hy⊢;exact hy
 .have:=hb.2.2.2 e;subst this;simp[p7,aJ,e]at hy⊢;exact hy
def akZ(hn:n<1000)(h0:0<=i.a)(h4:i.a<4)(hk:k0 [iI (n+1:Nat),iI la,iI 0,iB kp,iB rm,iB (0==i.a||b0),iB (1==i.a||b1),iB (2==i.a||b2),iB (3==i.a||b3),m]):
 p8.sat ayF CC Q [k0] [iG o c,iI n,iI la,iI 0,iB kp,iB rm,iB b0,iB b1,iB b2,iB b3,m,dE i]:=by
 have hw:=aH hn aj;have hE:dE i=.agg [iI i.op,iI i.a,iI i.b,iI i.g.op,iS i.g.s,iT i.g.ts,iT i.ts]:=rfl;rw[hE]at*
 rcases c4 h0 h4 with e|e|e|e
 .simp[p8,I6,aJ,e,hw]at hk⊢;exact hk
 .simp[p8,I7,aJ,e,hw]at hk⊢;exact hk
 .simp[p8,Mk,aJ,e,hw]at hk⊢;exact hk
 .simp[p8,Ml,aJ,e,hw]at hk⊢;exact hk
end
set_option maxHeartbeats 8000000 in
def ak0{Q:IV->Prop}{k0:List IV->Prop}{o:Oc}{c:List In}{n:Nat}{i:In}(hn:n<1000)(hi:c[n]?=aa i)(s t:Sf)(h:vw o s i t)(hk:k0 (iI (n+1:Nat)::G9 t)):
 fT.sat ayF CC Q [k0] ([iG o c,iI n]++G9 s):=by
 obtain⟨ak,Nk⟩:=ayH.1 hi;have hw:=aH hn aj;have cK:cb 7 (cn c) (iI n)=aa (.agg [iI i.op,iI i.a,iI i.b,iI i.g.op,iS i.g.s,iT i.g.ts,iT i.ts]):=cM (by simp[hi,dE]) rfl;have hE:dE i=.agg [iI i.op,iI i.a,iI i.b,iI i.g.op,iS i.g.s,iT i.g.ts,iT i.ts]:=rfl;have hB:iG o c=.agg [iI o.r,iI o.h,iB o.k,cn c]:=rfl;unfold G9 at*
 cases h with
 |rm e a0 a4 hb hl hs=>
  have hy:=akX (Q:=Q) (k0:=k0) (o:=o) (c:=c) (i:=i) (kp:=s.kept) (rm:=s.rem) (b0:=s.b 0) (b1:=s.b 1) (b2:=s.b 2) (b3:=s.b 3) (m:=rC s.fr) hn hl hs hk;rw[hE,hB]at*
  rcases c4 a0 a4 with e2|e2|e2|e2<;>
  .rw[e2]at hb;simp[fT,aJ,ak,cK,ao,e,e2,hb]at hy⊢;exact hy
 |kp e hs=>
  rw[hB];have z1:¬2<s.cP:=aj;have z2:¬2=s.cP:=aj;have z3:¬s.cP=2:=aj;simp[fT,aJ,ak,cK,ao,e,z1,z2,z3,hw];exact hk
 |nt e b1 b4 hb hf ha hs=>
  rw[hB];have ag_:=ape (s.b 0) (s.b 1) (s.b 2) (s.b 3) i.b b1 b4 (hb 0 aj aj) (λh=>hb 1 aj h) (λh=>hb 2 aj h) (λh=>hb 3 aj h);have hg:=atm s.fr i.b;rw[decide_eq_true hf]at hg;have z1:¬3<s.cP:=aj;have z2:¬3=s.cP:=aj;have z3:¬s.cP=3:=aj;simp[fT,aJ,ak,cK,ao,e,z1,z2,z3,hw];refine⟨_,ag_,?_⟩;simp[aJ,hg,ha,aL,ao];exact hk
 |pu e hs=>
  rw[hB];have z1:¬4<s.cP:=aj;simp[fT,I4,aJ,ak,cK,ao,e,z1,hw];exact orE hk
 |cm e ha hs=>
  rw[hB];have z1:¬5<s.cP:=aj;have z2:¬5=s.cP:=aj;have z3:¬s.cP=5:=aj;simp[fT,aJ,ak,cK,ao,e,ha,z1,z2,z3,hw];exact hk
 |mt e a0 a4 hb hs=>
  have hy:=Qj (Q:=Q) (k0:=k0) (o:=o) (c:=c) (i:=i) (la:=s.last) (kp:=s.kept) (rm:=s.rem) (b0:=s.b 0) (b1:=s.b 1) (b2:=s.b 2) (b3:=s.b 3) (m:=rC s.fr) hn (by rw[hs]at hk;exact hk);rw[hE,hB]at*
  rcases c4 a0 a4 with e2|e2|e2|e2<;>
  .rw[e2]at hb;simp[fT,aJ,ak,cK,ao,e,e2,hb,hs]at hy⊢;exact hy
 |ap e a0 a4 hb c0 c4' dw hs=>
  have hy:=akY (Q:=Q) (k0:=k0) (o:=o) (c:=c) (i:=i) (la:=s.last) (kp:=s.kept) (rm:=s.rem) (b0:=s.b 0) (b1:=s.b 1) (b2:=s.b 2) (b3:=s.b 3) (m:=rC s.fr) hn c0 c4' ⟨λh=>by rw[h]at dw;exact dw,λh=>by rw[h]at dw;exact dw,λh=>by rw[h]at dw;exact dw,λh=>by rw[h]at dw;exact dw⟩ (by rw[hs]at hk;exact hk);rw[hE,hB]at*
  rcases c4 a0 a4 with e2|e2|e2|e2<;>
  .rw[e2]at hb;simp[fT,aJ,ak,cK,ao,e,e2,hb,hs]at hy⊢;exact hy
 |fd e a0 a4 hb hs=>
  have hy:=akZ (Q:=Q) (k0:=k0) (o:=o) (c:=c) (i:=i) (la:=s.last) (kp:=s.kept) (rm:=s.rem) (b0:=s.b 0) (b1:=s.b 1) (b2:=s.b 2) (b3:=s.b 3) (m:=rC s.fr) hn a0 a4 (by rw[hs]at hk;exact hk);rw[hE,hB]at*
  rcases c4 a0 a4 with e2|e2|e2|e2<;>
  .rw[e2]at hb;simp[fT,aJ,ak,cK,ao,e,e2,hb,hs]at hy⊢;exact hy
 |fr e b1 b4 hb ha hs=>
  rw[hB];have ag_:=ape (s.b 0) (s.b 1) (s.b 2) (s.b 3) i.b b1 b4 (hb 0 aj aj) (λh=>hb 1 aj h) (λh=>hb 2 aj h) (λh=>hb 3 aj h);have hg:=atl s.fr i.b;simp[fT,Mm,aJ,ak,cK,ao,e,hs,hw];refine⟨_,ag_,?_⟩;simp[aJ,hg,ha,aL,ao];rw[hs]at hk;exact hk
 |ts e hs=>
  have hy:=Qj (Q:=Q) (k0:=k0) (o:=o) (c:=c) (i:=i) (la:=s.last) (kp:=s.kept) (rm:=s.rem) (b0:=s.b 0) (b1:=s.b 1) (b2:=s.b 2) (b3:=s.b 3) (m:=rC s.fr) hn (by rw[hs]at hk;exact hk);rw[hE,hB]at*
  simp[fT,aJ,ak,cK,ao,e,hs]at hy⊢;exact hy
def I8(h:Int):Sf:=⟨-1,0,af,af,λv=>v==h,[]⟩
section
variable{Q:IV->Prop}
def apf{init:SE}(o:Oc)(c:List In)(hc:c.length<=200)(s0 t:Sf)(aha:kc ayF [iG o c] init=aa (iI (0:Nat)::G9 s0))(hr:jF o s0 c t)(hs:t.cP=5)(Bj:t.rem= !o.k)(hk:t.kept=ab->o.k=ab)(hQ:Q (iB ab)):
 (aq.loop init fT).sat ayF CC Q [] [iG o c]:=by
 refine aB c.length (λi (s:Sf)=>iI (i:Nat)::G9 s) (λi s=>jF o s (c.drop i) t) s0 aha hr λi s hi hI=>?_;by_cases ak:i<c.length
 .have hd:=ay5 ak;rw[hd]at hI;obtain⟨u,h1,h2⟩:=hI;exact ak0 (n:=i) aj (ayG ak) s u h1 (.mk u rfl aj h2)
 .rw[azf aj]at hI;obtain rfl:s=t:=hI;have hB:iG o c=.agg [iI o.r,iI o.h,iB o.k,cn c]:=rfl;unfold G9;rw[hB];cases bf:o.k with
  |true=>
   rw[bf]at Bj;simp[fT,aJ,ak,hs,Bj,ao];cases s.kept<;>simp[hQ]
  |false=>
   rw[bf]at Bj hk
   have oU:s.kept=af:=by
    cases h:s.kept with
    |false=>rfl
    |true=>exact absurd (hk h) aw
   simp[fT,aJ,ak,hs,Bj,oU,ao,hQ]
end
def awU(o:Oc)(c:List In)(hc:c.length<=200)(h0:0<=o.h)(h4:o.h<4)(t:Sf)(hr:jF o (I8 o.h) c t)(hs:t.cP=5)(Bj:t.rem= !o.k)(hk:t.kept=ab->o.k=ab):CC 223 af [iG o c] (iB ab):=by
 refine CC.cZ apc kr (λ_=>kr) (dL (.agg _ aw)) (by rfl) ?_;obtain⟨o1,o2,o3⟩:=o;simp only at h0 h4;have hB:iG ⟨o1,o2,o3⟩ c=.agg [iI o1,iI o2,iB o3,cn c]:=rfl;have hy:=λinit aha=>apf (Q:=xV (·=ab)) (init:=init) ⟨o1,o2,o3⟩ c hc (I8 o2) t aha hr hs Bj hk aw;unfold G9 I8 at hy;simp only at hy;rw[hB]at*
 rcases c4 h0 h4 with rfl|rfl|rfl|rfl
 .simp[N7,aJ,ao];unfold Zd;exact hy _ (by simp[aJ])
 .simp[N7,aJ,ao];unfold Ze;exact hy _ (by simp[aJ])
 .simp[N7,aJ,ao];unfold Zf;exact hy _ (by simp[aJ])
 .simp[N7,aJ,ao];unfold Zg;exact hy _ (by simp[aJ])
structure WJ(o:Oc)(c:List In):Prop where
 len:c.length<=200
 r:0<=o.r/\o.r<40
 h:0<=o.h/\o.h<4
 i:∀i∈c,nR i
 f:∃t,jF o (I8 o.h) c t/\t.cP=5/\t.rem=(!o.k)/\(t.kept=ab->o.k=ab)
def N8{l:List In}{i:Nat}(h:i<l.length):cb 7 (cn l) (iI (i:Nat))=aa (.agg [iI l[i].op,iI l[i].a,iI l[i].b,iI l[i].g.op,iS l[i].g.s,iT l[i].g.ts,iT l[i].ts]):=cM (by simp[h,dE]) rfl
def awV(o:Oc)(c:List In)(h:WJ o c):CC 182 af [iG o c] (iI 0):=by
 refine CC.zN ao8 kr (λ_=>kr) (dL (.agg _ aw)) (by rfl) ?_;obtain⟨hl,⟨r0,r1⟩,⟨h0,h4⟩,hi,t,hf,hs,Bj,hk⟩:=h;have awW:=awU o c hl h0 h4 t hf hs Bj hk;have apg:=λi ct=>awT i (hi i ct);have hE:∀i,dE i=.agg [iI i.op,iI i.a,iI i.b,iI i.g.op,iS i.g.s,iT i.g.ts,iT i.ts]:=λ_=>rfl;have hB:iG o c=.agg [iI o.r,iI o.h,iB o.k,cn c]:=rfl;have z1:¬(200:Int)<c.length:=aj;simp only[hE]at apg;rw[hB]at*
 simp[ai3,aJ,ao,z1,r0,r1,h0,h4];unfold Za;refine aB c.length (λi (_:Unit)=>[iI i]) (λ_ _=>True) () ?_ trivial λi _ hi _=>?_
 .simp[aJ]
 by_cases ak:i<c.length
 .have hw:=aH ak aj;simp[aJ,ak,hw,N8 ak,ao];refine⟨_,apg _ (ayJ ak),?_⟩;simp[aJ];exact .mk () rfl aj trivial
 .simp[aJ,ak,ao];refine⟨_,awW,?_⟩;simp[aJ]
end
section
section
variable{P:Program}{C:Cr}{Q:IV->Prop}{K:List (List IV->Prop)}{ν:List IV}
def WK{es x:SE}{a b:aq}:(aq.pick es x a b).sat P C Q K ν↔∃ds rem,es.den P ν=aa (.aF ds)/\(∃r,x.den P ν=aa (.aF (.aF ds::.aF rem::r)))/\(rem=[]->a.sat P C Q K ν)/\∀i y,rem[i]?=aa y->b.sat P C Q K (ν++[y,.aF [.aF ds,.aF (rem.eraseIdx i),y]]):=Iff.rfl
def WL{k:aq}:(aq.uniq k).sat P C Q K ν↔k.sat P C Q K ν:=Iff.rfl
end
structure ma{α:Type}(cs:List (α×IV))(F:α->Option IV):Prop where
 n:(cs.map azU).Nodup
 m:∀k y,(k,y)∈cs↔F k=aa y
section
variable{α:Type}[DecidableEq α]{t:TypeId}{e:α->IV}{cs:List (α×IV)}{F:α->Option IV}
theorem ma.nil:ma ([]:List (α×IV)) λ_=>ah:=⟨by simp,by simp⟩
theorem ma.get(h:ma cs F)(hk:yd t e)(k:α)(d:IV):nQ ayF t (iV e cs) (e k) d=aa ((F k).getD d):=by
 obtain⟨h1,h2⟩:=hk.get h.n k d;cases hF:F k with
 |none=>
  exact h2 λ⟨y,hy⟩=>by rw[h.m,hF]at hy;cases hy
 |some y=>exact h1 y ((h.m k y).2 hF)
theorem ma.ins(h:ma cs F)(hk:yd t e)(k:α)(y:IV):∃bK,ma bK (λq=>if q=k then aa y else F q)/\nP ayF t (iV e cs) (e k) y=aa (iV e bK):=by
 obtain⟨bK,h1,h2,h3⟩:=hk.ins h.n k y;refine⟨bK,⟨h1,λq z=>?_⟩,h3⟩;rw[h2];by_cases hq:q=k
 .subst hq;simp;exact eq_comm
 .simp[hq,h.m]
end
structure Bk where
 o:Oc
 c:List In
structure Un where
 s:List UInt8
 n:Int
 bs:List Bk
 nv:Bool
 la:Int
def uD(b:Bk):IV:=.agg [iI b.o.r,iI b.o.h,iB b.o.k,cn b.c]
abbrev zu(l:List Bk):IV:=.tree 4 (l.map uD)
@[simp] theorem awX(l:List Bk):Pure (zu l):=jD 4 uD (λa=>⟨_,rfl,by simp⟩) l
def rF(u:Un):IV:=.agg [iS u.s,iI u.n,zu u.bs,iB u.nv,iI u.la]
abbrev qu(l:List Un):IV:=.tree 5 (l.map rF)
@[simp] theorem awY(l:List Un):Pure (qu l):=jD 5 rF (λa=>⟨_,rfl,by simp⟩) l
def mR(us:List Un)(acc:List Ac)(rl:Int):IV:=.agg [qu us,eP acc,iI rl]
def ahb{l:List Bk}{i:Nat}(h:i<l.length):cb 4 (zu l) (iI (i:Nat))=aa (.agg [iI l[i].o.r,iI l[i].o.h,iB l[i].o.k,cn l[i].c]):=cM (by simp[h,uD]) rfl
def I9{l:List Un}{i:Nat}(h:i<l.length):cb 5 (qu l) (iI (i:Nat))=aa (.agg [iS l[i].s,iI l[i].n,zu l[i].bs,iB l[i].nv,iI l[i].la]):=cM (by simp[h,rF]) rfl
structure Sb where
 H:Int->Option De
 A:Int×Int->Bool
inductive I_(acc:List Ac)(U:List De):Sb->In->Sb->Prop
 |fd (s:Sb) (i:In) (j:Nat) (a:Ac):i.op=3->i.b=j->acc[j]?=aa a->i.ts.length=a.ps.length->I_ acc U s i ⟨λv=>if v=i.a then aa ⟨a.s,a.n⟩else s.H v,s.A⟩
 |mt (s:Sb) (i:In) (d:De):i.op=1->s.H i.a=aa d->i.b<d.n->I_ acc U s i s
 |ap (s:Sb) (i:In):i.op=4->I_ acc U s i ⟨s.H,λp=>decide (p=(i.b,i.a))||(decide (p=(i.a,i.b))||s.A p)⟩
 |pu (s:Sb) (i:In):i.op=9->(i.g.op=0->⟨i.g.s,i.g.ts.length⟩∈U)->I_ acc U s i s
 |no (s:Sb) (i:In):i.op≠3->i.op≠1->i.op≠4->i.op≠9->I_ acc U s i s
def lI(acc:List Ac)(U:List De):Sb->List In->Sb->Prop
 |s,[],t=>s=t
 |s,i::c,t=>∃u,I_ acc U s i u/\lI acc U u c t
theorem lI.app{acc:List Ac}{U:List De}:∀{c d:List In} {s t u:Sb},lI acc U s c t->lI acc U t d u->lI acc U s (c++d) u
 |[],_,_,_,_,h1,h2=>by cases h1;exact h2
 |_::_,_,_,_,_,⟨v,h,h1⟩,h2=>⟨v,h,h1.app h2⟩
def lI.one{acc:List Ac}{U:List De}{s t:Sb}{i:In}(h:I_ acc U s i t):lI acc U s [i] t:=⟨t,h,rfl⟩
def WM(t:Sb):Prop:=∀x y d,x<y->t.H x=aa d->t.H y=aa d->t.A (x,y)=ab
def fH(H:Int->Option De)(k:Int):Option IV:=(H k).map eD
def fA{α:Type}(A:α->Bool)(p:α):Option IV:=if A p=ab then aa (iB ab)else ah
def abJ(H:Int->Option De)(ds:List IV):Prop:=∀y∈ds,∃k d,H k=aa d/\y=.aF [iI k,.agg [iS d.s,iI d.n]]
def ahc{cs:List (Int×IV)}{H:Int->Option De}(h:ma cs (fH H)):abJ H (cs.map (BU iI)):=λy hy=>by
 obtain⟨⟨k,v⟩,hq,rfl⟩:=ay8.1 hy;have:=(h.m k v).1 hq;unfold fH at this;obtain⟨d,h1,rfl⟩:=ayR.1 this;exact⟨k,d,h1,rfl⟩
section
variable{Q:IV->Prop}{k0 k1 k2 k3 k4 k5 k6:List IV->Prop}{x0 x1 x2 x3 x4 x5 x6 x7 x8 x9 dY fO lG:IV}
def atn(t:Sb)(hf:WM t)(ds:List IV)(CE:abJ t.H ds)(zw:List ((Int×Int)×IV))(hA:ma zw (fA t.A))(kx:Int)(dx:De)(hx:t.H kx=aa dx)(xq:IV)(rem:List IV)
 (hk:k6 [.aF [.aF ds,.aF rem,.aF [iI kx,.agg [iS dx.s,iI dx.n]]]]):
 Qc.sat ayF CC Q [k0,k1,k2,k3,k4,k5,k6] [x0,x1,x2,x3,x4,x5,x6,x7,x8,x9,dY,fO,.aF ds,iV N6 zw,lG,xq,.aF [.aF ds,.aF rem,.aF [iI kx,.agg [iS dx.s,iI dx.n]]]]:=by
 unfold Qc;refine iv (λ(a:List IV×List IV)=>[.aF (.aF ds::.aF a.1::a.2)]) (λa=>∀y∈a.1,y∈ds) (λa=>a.1.length) (ds,[]) ?_ (λy hy=>hy) λa ha=>?_
 .simp[aJ]
 obtain⟨re,r⟩:=a;refine WK.2 ⟨ds,re,by simp[aJ],⟨r,by simp[aJ]⟩,λhe=>?_,λi y hy=>?_⟩
 .simp[aJ];exact hk
 obtain⟨ky,dy,h1,rfl⟩:=CE y (ha y (ayX hy))
 have hlen:(re.eraseIdx i).length<re.length:=by
  have:=(ayH.1 hy).1;rw[aCK];split<;>omega
 have hn:GN (λ(a:List IV×List IV)=>[.aF (.aF ds::.aF a.1::a.2)]) (λa=>∀y∈a.1,y∈ds) (λa=>a.1.length) (re,r) [.aF [.aF ds,.aF (re.eraseIdx i),.aF [iI ky,.agg [iS dy.s,iI dy.n]]]]:=
  .mk (re.eraseIdx i,[.aF [iI ky,.agg [iS dy.s,iI dy.n]]]) rfl (λz hz=>ha z (aCo hz)) hlen
 simp[aJ,ao,aL];by_cases e:kx<ky
 rotate_left
 .right;exact⟨by omega,hn⟩
 left;refine⟨e,?_⟩;have hb:=adT dx.s dy.s dx.n dy.n;simp[hb];by_cases e2:dx.s=dy.s/\dx.n=dy.n
 rotate_left
 .right;exact⟨λh1 h2=>e2 ⟨h1,h2⟩,hn⟩
 left;refine⟨e2,?_⟩
 have Yf:dx=dy:=by
  obtain⟨a,b⟩:=dx;obtain⟨c,d⟩:=dy;simp only at e2;rw[e2.1,e2.2]
 have hAt:=hf kx ky dx e hx (Yf▸h1);have hg:=hA.get WH (kx,ky) (iB af);unfold fA at hg;rw[if_pos hAt]at hg;have hg:nQ ayF 214 (iV N6 zw) (.agg [iI kx,iI ky]) (iB af)=aa (iB ab):=hg;simp[hg,aL];exact hn
def ato(t:Sb)(hf:WM t)(ds:List IV)(CE:abJ t.H ds)(zw:List ((Int×Int)×IV))(hA:ma zw (fA t.A))(j:Nat)(hj:j<1000)(hk:k4 [iI (j+1:Nat)]):
 Qd.sat ayF CC Q [k0,k1,k2,k3,k4,k5] [x0,x1,x2,x3,x4,x5,x6,iI j,x8,x9,dY,fO,.aF ds,iV N6 zw]:=by
 have hw:=aH hj aj;unfold Qd;refine iv (λ(a:List IV×List IV)=>[.aF (.aF ds::.aF a.1::a.2)]) (λa=>∀y∈a.1,y∈ds) (λa=>a.1.length) (ds,[]) ?_ (λy hy=>hy) λa ha=>?_
 .simp[aJ]
 obtain⟨re,r⟩:=a;refine WK.2 ⟨ds,re,by simp[aJ],⟨r,by simp[aJ]⟩,λhe=>?_,λi y hy=>?_⟩
 .simp[aJ,hw];exact hk
 obtain⟨kx,dx,h1,rfl⟩:=CE y (ha y (ayX hy))
 have hlen:(re.eraseIdx i).length<re.length:=by
  have:=(ayH.1 hy).1;rw[aCK];split<;>omega
 have hn:GN (λ(a:List IV×List IV)=>[.aF (.aF ds::.aF a.1::a.2)]) (λa=>∀y∈a.1,y∈ds) (λa=>a.1.length) (re,r) [.aF [.aF ds,.aF (re.eraseIdx i),.aF [iI kx,.agg [iS dx.s,iI dx.n]]]]:=
  .mk (re.eraseIdx i,[.aF [iI kx,.agg [iS dx.s,iI dx.n]]]) rfl (λz hz=>ha z (aCo hz)) hlen
 have D8:kO 9 (.aF ds) (iB ab)=aa (.int ds.length):=rfl;simp[aJ,ao,aL,D8,WL];exact atn t hf ds CE zw hA kx dx h1 _ _ hn
end
def pq(u:Un):De:=⟨u.s,u.n⟩
structure aph(acc:List Ac)(U:List De)(u:Un)(rl:Int)(b:Bk):Prop where
 k:WJ b.o b.c
 r:b.o.r<rl
 f:∃t,lI acc U ⟨λv=>if v=b.o.h then aa ⟨u.s,u.n⟩else ah,λ_=>af⟩ b.c t/\WM t
structure api(acc:List Ac)(U:List De)(rl:Int)(u:Un):Prop where
 l:u.bs.length<=160
 s:gZ u.s=ab
 n:0<=u.n/\u.n<=6
 la:0<=u.la/\u.la<=u.bs.length
 b:∀b∈u.bs,aph acc U u rl b
structure Eh(us:List Un)(acc:List Ac)(rl:Int):Prop where
 rr:0<=rl/\rl<=40
 ul:us.length<=30
 al:acc.length<=480
 a:∀a∈acc,BW a/\a.ps.length<=8
 u:∀u∈us,api acc (us.map pq) rl u
 nd:(us.map pq).Nodup
def abK(Ja:List (Int×IV))(zw:List ((Int×Int)×IV))(j:Nat):List IV:=[iI j,iV iI Ja,iV N6 zw]
structure awZ(acc:List Ac)(U:List De)(c:List In)(t:Sb)(j:Nat)(a:Sb×List (Int×IV)×List ((Int×Int)×IV)):Prop where
 r:lI acc U a.1 (c.drop j) t
 h:ma a.2.1 (fH a.1.H)
 p:ma a.2.2 (fA a.1.A)
def aeB(H:Int->Option De)(k:Int)(d:De):(λq=>if q=k then aa (eD d)else fH H q)=fH (λv=>if v=k then aa d else H v):=by
 funext q;by_cases h:q=k
 .simp[fH,h]
 .simp[fH,h]
def WN{α:Type}[DecidableEq α](A:α->Bool)(k:α):(λq=>if q=k then aa (iB ab)else fA A q)=fA (λp=>decide (p=k)||A p):=by
 funext q;unfold fA;by_cases h:q=k
 .simp[h]
 .simp[h]
section
variable{Q:IV->Prop}{k0 k1 k2 k3 k4:List IV->Prop}{x0 x1 x2 x3 x5 x6 x7 x9:IV}
set_option maxHeartbeats 4000000 in
def atp(us:List Un)(acc:List Ac)(ef:acc.length<=480)(rl:Int)(U:List De)(DJ:List (De×IV))(hU:ma DJ (fA λd=>decide (d∈U)))(b:Bk)(hc:b.c.length<=200)(s0 t:Sb)(abL:List (Int×IV))(hH0:ma abL (fH s0.H))(hA0:s0.A=λ_=>af)(hr:lI acc U s0 b.c t)(hf:WM t)(j:Nat)(hj:j<1000)(hk:k4 [iI (j+1:Nat)]):
 Qe.sat ayF CC Q [k0,k1,k2,k3,k4] [mR us acc rl,x1,x2,x3,iV eD DJ,x5,x6,iI j,uD b,x9,iV iI abL]:=by
 have hM:mR us acc rl=.agg [qu us,eP acc,iI rl]:=rfl;have hB:uD b=.agg [iI b.o.r,iI b.o.h,iB b.o.k,cn b.c]:=rfl;rw[hM,hB];unfold Qe
 refine aB b.c.length (λj (a:Sb×List (Int×IV)×List ((Int×Int)×IV))=>abK a.2.1 a.2.2 j) (λj a=>awZ acc U b.c t j a) (s0,abL,[]) ?_ ⟨hr,hH0,by
  simp only[hA0];exact ma.nil⟩ λq a hq hI=>?_
 .simp[aJ,abK,iV]
 obtain⟨s,Ja,zw⟩:=a;obtain⟨fZ,jE,tj⟩:=hI;simp only at fZ jE tj;unfold abK;by_cases ak:q<b.c.length
 rotate_left
 .rw[azf aj]at fZ;obtain rfl:s=t:=fZ;have hy:=λk5 fO=>ato (Q:=Q) (k0:=k0) (k1:=k1) (k2:=k2) (k3:=k3) (k4:=k4) (k5:=k5) (x0:=.agg [qu us,eP acc,iI rl]) (x1:=x1) (x2:=x2) (x3:=x3) (x4:=iV eD DJ) (x5:=x5) (x6:=x6) (x8:=.agg [iI b.o.r,iI b.o.h,iB b.o.k,cn b.c]) (x9:=x9) (dY:=iV iI abL) (fO:=fO) s hf _ (ahc jE) zw tj j hj hk;have D8:kO 9 (iV iI Ja) (iB ab)=aa (.int (Ja.map (BU iI)).length):=rfl;simp[aJ,ak,D8,WL];exact hy _ _
 have hw:=aH ak aj;have hd:=ay5 ak;rw[hd]at fZ;obtain⟨u,bL,fZ⟩:=fZ;have cK:=N8 ak;generalize b.c[q]=i at*
 cases bL with
 |fd n a e eb ea el=>
  obtain⟨hn,Ti⟩:=ayH.1 ea;have hC:=L_ hn;rw[Ti]at hC;obtain⟨bK,bH,iF⟩:=jE.ins ye i.a (eD ⟨a.s,a.n⟩);rw[aeB]at bH;have iF:nP ayF 3 (iV iI Ja) (iI i.a) (.agg [iS a.s,iI a.n])=aa (iV iI bK):=iF;have z1:¬acc.length<=n:=aj;simp[aJ,ak,cK,hw,ao,e,eb,hC,el,z1,iF];exact .mk (_,bK,zw) rfl aj ⟨fZ,bH,tj⟩
 |mt d e vH gB=>
  have hg:=jE.get ye i.a (.agg [iS [],iI 0]);have hf':fH s.H i.a=aa (eD d):=by unfold fH;rw[vH];rfl
  rw[hf']at hg;have hg:nQ ayF 3 (iV iI Ja) (iI i.a) (.agg [iS [],iI 0])=aa (.agg [iS d.s,iI d.n]):=hg;have z1:¬d.n<=i.b:=aj;simp[aJ,ak,cK,hw,ao,e,hg,z1];exact .mk (_,Ja,zw) rfl aj ⟨fZ,jE,tj⟩
 |ap e=>
  obtain⟨zY,cU,XJ⟩:=tj.ins WH (i.a,i.b) (iB ab);rw[WN]at cU;obtain⟨cs2,qP,QO⟩:=cU.ins WH (i.b,i.a) (iB ab);rw[WN]at qP;have XJ:nP ayF 214 (iV N6 zw) (.agg [iI i.a,iI i.b]) (iB ab)=aa (iV N6 zY):=XJ;have QO:nP ayF 214 (iV N6 zY) (.agg [iI i.b,iI i.a]) (iB ab)=aa (iV N6 cs2):=QO;simp[aJ,ak,cK,hw,ao,e,XJ,QO];exact .mk (_,Ja,cs2) rfl aj ⟨fZ,jE,qP⟩
 |pu e hu=>
  by_cases e2:i.g.op=0
  .have hg:=hU.get abI ⟨i.g.s,i.g.ts.length⟩ (iB af);unfold fA at hg;rw[if_pos (decide_eq_true (hu e2))]at hg;have hg:nQ ayF 82 (iV eD DJ) (.agg [iS i.g.s,iI i.g.ts.length]) (iB af)=aa (iB ab):=hg;simp[aJ,ak,cK,hw,ao,e,e2,hg,aL];exact .mk (_,Ja,zw) rfl aj ⟨fZ,jE,tj⟩
  .simp[aJ,ak,cK,hw,ao,e,e2];exact .mk (_,Ja,zw) rfl aj ⟨fZ,jE,tj⟩
 |no e3 e1 e4 e9=>
  simp[aJ,ak,cK,hw,ao,e3,e1,e4,e9];exact .mk (_,Ja,zw) rfl aj ⟨fZ,jE,tj⟩
def atq(us:List Un)(acc:List Ac)(ef:acc.length<=480)(rl:Int)(U:List De)(DJ:List (De×IV))(hU:ma DJ (fA λd=>decide (d∈U)))(u:Un)(hu:api acc U rl u)(j:Nat)(hj:j<1000)(hk:k3 [iI (j+1:Nat)]):
 Qf.sat ayF CC Q [k0,k1,k2,k3] [mR us acc rl,x1,x2,x3,iV eD DJ,iI j,rF u]:=by
 have TM:=aH hj aj;have hM:mR us acc rl=.agg [qu us,eP acc,iI rl]:=rfl;have hE:rF u=.agg [iS u.s,iI u.n,zu u.bs,iB u.nv,iI u.la]:=rfl;have Ca:=hu.l;unfold Qf;refine aB u.bs.length (λk (_:Unit)=>[iI k]) (λ_ _=>True) () ?_ trivial λk _ fp _=>?_
 .simp[aJ]
 by_cases ak:k<u.bs.length
 rotate_left
 .rw[hM,hE];simp[aJ,ak,TM];exact hk
 have hb:=hu.b _ (ayJ ak);have cK:=ahb ak;have apj:=awV _ _ hb.k;have hc:=hb.k.len;obtain⟨t,Q8,ht2⟩:=hb.f;have z1:¬rl<=u.bs[k].o.r:=by have:=hb.r;omega
 obtain⟨cs,bH,iF⟩:=(ma.nil:ma ([]:List (Int×IV)) _).ins ye u.bs[k].o.h (eD ⟨u.s,u.n⟩);have iF:nP ayF 3 (.aF []) (iI u.bs[k].o.h) (.agg [iS u.s,iI u.n])=aa (iV iI cs):=iF
 have bH:ma cs (fH λv=>if v=u.bs[k].o.h then aa ⟨u.s,u.n⟩else ah):=by
  have:=aeB (λ_=>ah) u.bs[k].o.h ⟨u.s,u.n⟩;rw[<-this];exact bH
 have hy:=λk4 hk4=>atp (Q:=Q) (k0:=k0) (k1:=k1) (k2:=k2) (k3:=k3) (k4:=k4) (x1:=x1) (x2:=x2) (x3:=x3) (x5:=iI j) (x6:=rF u) (x9:=iI 0) us acc ef rl U DJ hU u.bs[k] hc _ t cs bH rfl Q8 ht2 k aj hk4;have hB:∀b,uD b=.agg [iI b.o.r,iI b.o.h,iB b.o.k,cn b.c]:=λ_=>rfl;have hBB:∀o c,iG o c=.agg [iI o.r,iI o.h,iB o.k,cn c]:=λ_ _=>rfl;rw[hBB]at apj;rw[hM,hE]at*
 simp only[hB]at hy;generalize u.bs[k]=b at*
 simp[aJ,ak,cK,ao];refine⟨_,apj,?_⟩;simp[aJ,z1,iF];refine⟨by omega,hy _ ?_⟩;exact .mk () rfl aj trivial
def atr(us:List Un)(acc:List Ac)(rl:Int)(h:Eh us acc rl)(DJ:List (De×IV))(hU:ma DJ (fA λd=>decide (d∈us.map pq)))(hQ:Q (iI 0)):
 Qg.sat ayF CC Q [k0,k1,k2] [mR us acc rl,x1,x2,x3,iV eD DJ]:=by
 have Ca:=h.ul;have hM:mR us acc rl=.agg [qu us,eP acc,iI rl]:=rfl;unfold Qg;refine aB us.length (λk (_:Unit)=>[iI k]) (λ_ _=>True) () ?_ trivial λk _ fp _=>?_
 .simp[aJ]
 by_cases ak:k<us.length
 .have hy:=λk3 vt=>atq (Q:=Q) (k0:=k0) (k1:=k1) (k2:=k2) (k3:=k3) (x1:=x1) (x2:=x2) (x3:=x3) us acc h.al rl _ DJ hU us[k] (h.u _ (ayJ ak)) k aj vt;have hE:∀u,rF u=.agg [iS u.s,iI u.n,zu u.bs,iB u.nv,iI u.la]:=λ_=>rfl;rw[hM]at*
  simp only[hE]at hy;simp[aJ,ak,I9 ak,ao];refine hy _ ?_;exact .mk () rfl aj trivial
 .rw[hM];simp[aJ,ak,aL,hQ]
def K5{us:List Un}{i:Nat}(jA:(us.map pq).Nodup)(h:i<us.length):pq us[i]∉(us.take i).map pq:=by
 intro hm;obtain⟨u,hu,he⟩:=ay8.1 hm;obtain⟨j,hj,rfl⟩:=aAv.1 hu;simp at hj;have:=aAd.1 jA j i (by simp;omega) (by simp;omega) aj;simp at this he;exact this he
def N9(us:List Un)(k:Nat)(d:De):Bool:=decide (d∈(us.take k).map pq)
def att(us:List Un)(acc:List Ac)(rl:Int)(h:Eh us acc rl)(hQ:Q (iI 0)):
 Qh.sat ayF CC Q [k0,k1] [mR us acc rl,x1,x2]:=by
 have Ca:=h.ul;have hM:mR us acc rl=.agg [qu us,eP acc,iI rl]:=rfl;have hy:=λk2 x3 DJ hU=>atr (Q:=Q) (k0:=k0) (k1:=k1) (k2:=k2) (x1:=x1) (x2:=x2) (x3:=x3) us acc rl h DJ hU hQ;rw[hM]at*
 unfold Qh
 refine aB us.length (λk (cs:List (De×IV))=>[iI k,iV eD cs]) (λk cs=>ma cs (fA (N9 us k))) [] ?_ (by
  have:fA (N9 us 0)=λ_=>ah:=by funext d;simp[fA,N9]
  rw[this];exact ma.nil) λk cs fp hI=>?_
 .simp[aJ,iV]
 by_cases ak:k<us.length
 .have hw:=aH ak aj;have hu:=h.u _ (ayJ ak);have eO:=K5 h.nd ak;have ag9:=apd us[k].s us[k].n hu.s hu.n.1 hu.n.2;have hg:=hI.get abI (pq us[k]) (iB af);unfold fA at hg;rw[if_neg (by unfold N9;rw[decide_eq_true_eq];exact eO)]at hg;have hg:nQ ayF 82 (iV eD cs) (.agg [iS us[k].s,iI us[k].n]) (iB af)=aa (iB af):=hg;obtain⟨bK,bH,iF⟩:=hI.ins abI (pq us[k]) (iB ab);have iF:nP ayF 82 (iV eD cs) (.agg [iS us[k].s,iI us[k].n]) (iB ab)=aa (iV eD bK):=iF;rw[WN]at bH;have z1:¬us[k].la<0:=by have:=hu.la.1;omega
  have z2:¬(us[k].bs.length:Int)<us[k].la:=by have:=hu.la.2;omega
  have bL:(λd=>decide (d=pq us[k])||N9 us k d)=N9 us (k+1):=by
   funext d;unfold N9;rw[ayN ak,aAH];simp only[Bool.or_eq_true,decide_eq_true_eq,azQ,ayS,azr,aAW,ayU];exact or_comm
  rw[bL]at bH;simp[aJ,ak,hw,I9 ak,ao];refine⟨_,ag9,?_⟩;simp[aJ,hg,aL,z1,z2,iF];exact⟨by omega,by omega,.mk bK rfl aj bH⟩
 .have hun:N9 us k=λd=>decide (d∈us.map pq):=by
   funext d;unfold N9;rw[ayV aj]
  rw[hun]at hI;simp[aJ,ak];exact hy _ _ cs hI
def atu(us:List Un)(acc:List Ac)(rl:Int)(h:Eh us acc rl)(hQ:Q (iI 0)):
 Qi.sat ayF CC Q [k0] [mR us acc rl,x1]:=by
 have ef:=h.al;have hM:mR us acc rl=.agg [qu us,eP acc,iI rl]:=rfl;have hy:=λk1 x2=>att (Q:=Q) (k0:=k0) (k1:=k1) (x1:=x1) (x2:=x2) us acc rl h hQ;rw[hM]at*
 unfold Qi;refine aB acc.length (λk (_:Unit)=>[iI k]) (λ_ _=>True) () ?_ trivial λk _ fp _=>?_
 .simp[aJ]
 by_cases ak:k<acc.length
 .have hw:=aH ak aj;have ha:=h.a _ (ayJ ak);have apk:=awS _ ha.1 ha.2;have hC:∀a,tL a=.agg [iS a.s,iI a.n,iL a.ps]:=λ_=>rfl;rw[hC]at apk;simp[aJ,ak,hw,L_ ak,ao];refine⟨_,apk,?_⟩;simp[aJ];exact .mk () rfl aj trivial
 .simp[aJ,ak];exact hy _ _
end
def k52(us:List Un)(acc:List Ac)(rl:Int)(h:Eh us acc rl):CC 52 ab [mR us acc rl] (iI 0):=by
 refine CC.of ao7 kr kr (dL (.agg _ aw)) aw ?_;have Ca:=h.ul;have ef:=h.al;have hM:mR us acc rl=.agg [qu us,eP acc,iI rl]:=rfl;have hy:=λk0 x1=>atu (Q:=(·=iI 0)) (k0:=k0) (x1:=x1) us acc rl h rfl;have z1:¬rl<0:=by have:=h.rr.1;omega
 have z2:¬40<rl:=by have:=h.rr.2;omega
 have z3:¬(30:Int)<us.length:=aj;have z4:¬(480:Int)<acc.length:=aj;rw[hM]at*
 simp[ai2,aJ,ao,z1,z2,z3,z4];unfold Y_;refine aB us.length (λk (_:Unit)=>[iI k]) (λ_ _=>True) () ?_ trivial λk _ fp _=>?_
 .simp[aJ]
 by_cases ak:k<us.length
 .have hw:=aH ak aj;have hu:=(h.u _ (ayJ ak)).l;have z5:¬(160:Int)<us[k].bs.length:=aj;simp[aJ,ak,hw,I9 ak,ao,z5];exact .mk () rfl aj trivial
 .simp[aJ,ak];exact hy _ _
end
end Go.Proofs.YtabefplkfkfdfaaGreat
