/- A part of the proof, no condition: what functions of the program and of the reference compute. -/
import Derived.Test.YtabefplkfkfdfaaGreatPAj
import Derived.Test.YtabefplkfkfdfaaGreatPAl
import Derived.Test.YtabefplkfkfdfaaGreatPAg
import Derived.Test.YtabefplkfkfdfaaGreatPAc
import Derived.ProofKit
import Derived.OpenShut
import Derived.Test.YtabefplkfkfdfaaGreatRows
import Derived.LaidMore
import Derived.Stop.Joined
import Derived.SevenTiedAt
import Derived.Lib.SmallJoins
import Derived.WideKeyArgs
import Derived.Below
import Derived.JoinedCond
open List renaming mem_cons->ayW,getElem_mem->ayJ,mem_singleton->ayU,getElem?_eq_some_iff->ayH,drop_of_length_le->azf,drop_eq_getElem_cons->ay5,getElem?_eq_getElem->ayG,mem_of_getElem?->ayX,mem_append->ayS,append_of_mem->aCY,nodup_cons->azP,mem_cons_of_mem->azg,length_append->ayP,take_succ_eq_append_getElem->ayN,append_nil->ay2,take_of_length_le->ayV,cons_append->azO,nodup_append->aBu,length->azj,map_append->azQ,mem_append_left->azw,getD_eq_getElem?_getD->azu,append_assoc->ay3,length_take->azS,length_flatMap->aCO,length_filter_le->aBD,map_cons->azr,sum_cons->aBr,mem_flatMap->az1,mem_filter->azB,mem_zipIdx_iff_getElem?->aAG,filter_append->aAZ,filter_cons_of_neg->aCt,mem_of_mem_take->azM,flatMap_cons->aAa,mem_map->ay8,length_cons->azh,mem_reverse->aB9,mem_take_iff_getElem->aBm,pairwise_iff_getElem->aAd,mem_append_right->azH,length_map->azq,countP_cons->aDp,ofFn->aBx,mem_ofFn->aDV,getElem?_map->ay1,getElem?_ofFn->aCZ
open Bool renaming and_eq_true->ayI,beq_eq_decide_eq->aCC,or_eq_true->azp,eq_iff_iff->aAH
open Go.IntKind renaming i64->azc
open Option.some renaming inj->aAK,injEq->ayO
open Prod renaming fst->azU
open Go.Proofs.Tryz renaming prog->ayF,checked->aCu,f4->aBI,func4->aEd
open Classical renaming byContradiction->azs,axiomOfChoice->aCf
open Nat renaming le_trans->ay6,le_refl->ayL,add_assoc->aAr,zero_le->azz,div_lt_of_lt_mul->aCP,mul_comm->aB2,mod_lt->aEg,div_add_mod->aDM
open Int renaming toNat_natCast->aAM
open Prod.mk renaming injEq->aAt
open Go.Addr renaming add->aDL
open Go.DataW renaming trod->azZ,trod_slice->aDd,trod_struct->aC0,TrodAll->aCm
open List.cons renaming inj->aA1
open Option renaming bind_eq_some_iff->ay4,map_some->azl,getD_some->aAy,map_eq_some_iff->ayR
open Go.World renaming cell?_spot->aDe
open Array renaming getElem?_eq_some_iff->azx,length_toList->aCL
open Go.Proofs.YtabefplkfkfdfaaGreat.Rows renaming uptoBulkAll->az6,compileRightSpec->aAs,uptoSmall->aDN,compileRightUptoRow->aAh
open Go.Proofs.YtabefplkfkfdfaaGreat.Rows.OpenSpec renaming upto->aAw
open Go.WideElems renaming Trod_stays->aEq
open Go.Proofs.YtabefplkfkfdfaaGreat.Tryz renaming pinned->aCb
open Go.OpenClaim renaming holds_of_cond->aEr
open Option renaming some->aa,none->ah
open Bool renaming true->ab,false->af
set_option linter.all false
namespace Go.Proofs.YtabefplkfkfdfaaGreat
open Go Go.Ev
def w7{x y z:IV}(hx:Pure x)(hy:Pure y)(hz:Pure z):∀u∈[x,y,z],Pure u:=by
 intro u hu;rcases ayW.1 hu with rfl|hu
 .exact hx
 .exact lC hy hz _ hu
def k53(n:Int)(h0:0<=n)(h1:n<40):CC 53 af [iI n] (iB ab):=by
 refine CC.cZ arF kr (λ_=>kr) (dL aw) (by rfl) ?_;simp[amK,SE.den,ao,h0,h1]
def Zh(n:Int)(h0:0<=n)(h1:n<4):CC 54 af [iI n] (iB ab):=by
 refine CC.cZ arH kr (λ_=>kr) (dL aw) (by rfl) ?_;simp[amN,SE.den,ao,h0,h1]
def aw0:CC 128 af [.agg [iI 0,iS [],iT []]] (iB ab):=by
 refine CC.cZ amJ kr (λ_=>kr) (dL (.agg _ aw)) (by rfl) ?_;simp[aia,SE.den,ao]
def atv{t:Tm}(h:kQ t)(hr:jX t=ab):BT t:=by
 simp only[jX,ayI,decide_eq_true_eq]at hr;exact⟨h,by omega⟩
def apl{l:List Tm}(hs:Sm l)(h:∀t∈l,kQ t)(hr:jt l=ab):NR l:=by
 simp only[jt,ayI,decide_eq_true_eq]at hr;exact⟨hs,h,by omega⟩
def c76(g:Gl)(h:pd g)(hr:eF g=ab):CC 76 af [.agg [iI g.op,iS g.s,iT g.ts]] (iB ab):=by
 have hl:jt g.ts=ab:=by
  have h:=hr;unfold eF at h;split at h
  .simp only[kR,ayI]at h;exact h.2
  .simp only[ayI]at h;exact h.2
 have:=v152 g h.1 (apl h.2.1 h.2.2 hl);rwa[hr]at this
def aw1(g:Gl)(h:pd g)(hr:eF g=ab)(ho:g.op=1\/5<=g.op):CC 126 af [.agg [iI g.op,iS g.s,iT g.ts]] (iB ab):=by
 refine CC.cZ amG kr (λ_=>kr) (dL (.agg _ aw)) (by rfl) ?_;have h76:=c76 g h hr;simp[ah9,SE.den,ao];refine⟨_,h76,?_⟩;simp;omega
def aw2(g:Gl)(h:pd g)(hr:eF g=ab)(ho:g.op<=4):CC 127 af [.agg [iI g.op,iS g.s,iT g.ts]] (iB ab):=by
 refine CC.cZ amE kr (λ_=>kr) (dL (.agg _ aw)) (by rfl) ?_;have h76:=c76 g h hr;simp[ah7,SE.den,ao];refine⟨_,h76,?_⟩;simp;omega
def apm(l:List Tm)(a b:Int)(hl:l.length<=6)(h:∀t∈l,kQ t/\jX t=ab)(ha:a<=l.length)(hb:(l.length:Int)<=b):CC 129 af [iT l,iI a,iI b] (iB ab):=by
 refine CC.cZ amP kr (λ_=>kr) (w7 aw aw aw) (by rfl) ?_;simp[aic,SE.den,ao];unfold Yx;refine aB l.length (λi (_:Unit)=>[iI i]) (λ_ _=>True) () ?_ trivial λi _ hi _=>?_
 .simp[SE.den]
 by_cases ak:i<l.length
 .have hw:=aH ak aj;obtain⟨h1,h2⟩:=h _ (ayJ ak);have apn:=anf l[i] (atv h1 h2);rw[h2,bG]at apn;simp[SE.den,ak,hw,ng ak,bG,ao];refine⟨_,apn,?_⟩;simp;exact .mk () rfl aj trivial
 .simp[SE.den,ak,ha,hb]
def DK(op:Int):Int:=if op=6 then 1 else if op=7 then 2 else if op=8 then 3 else if op=9 then 4 else if op=10 then 5 else 0
def apo(op:Int):CC 130 af [iI op] (iI (DK op)):=by
 refine CC.zN amM kr (λ_=>kr) (dL aw) (by rfl) ?_;unfold DK
 repeat' split
 all_goals simp_all[aib,SE.den,ao]
def k55(i:In)(h:nR i):CC 55 af [dE i] (iB ab):=by
 refine CC.cZ arB kr (λ_=>kr) (dL (RY i)) (by rfl) ?_;have Jb:=aw0;cases h with
 |mt a b t a0 a4 b0 b6 hn hr=>
  have N_:=Zh a a0 a4;have ahd:=apm [t] 1 1 aw (by intro u hu;obtain rfl:=ayU.1 hu;exact⟨hn,hr⟩) aw aw;simp[BG,dE,dZ,SE.den,ao];refine⟨_,Jb,?_⟩;simp;refine⟨_,N_,?_⟩;simp[b0,b6];refine⟨_,ahd,?_⟩;simp
 |ts g hn hr ho=>
  have aw3:=aw1 g hn hr ho;simp[BG,dE,SE.den,ao];refine⟨_,aw3,?_⟩;simp
 |fd a b ts a0 a4 b0 hl ht=>
  have N_:=Zh a a0 a4;have ahd:=apm ts 0 6 hl ht aj aj;simp[BG,dE,dZ,SE.den,ao];refine⟨_,Jb,?_⟩;simp;refine⟨_,N_,?_⟩;simp[b0];refine⟨_,ahd,?_⟩;simp
 |ap a b a0 a4 b0 b4 bA=>
  have N_:=Zh a a0 a4;have aw4:=Zh b b0 b4;simp[BG,dE,dZ,SE.den,ao];refine⟨_,Jb,?_⟩;simp;refine⟨_,N_,?_⟩;simp;refine⟨_,aw4,?_⟩;simp[bA]
 |fr a b a0 a4 b0 b4=>
  have WO:=k53 a a0 a4;simp[BG,dE,dZ,SE.den,ao];refine⟨_,Jb,?_⟩;simp;refine⟨_,WO,?_⟩;simp[b0,b4]
 |rm a a0 a4=>
  have N_:=Zh a a0 a4;simp[BG,dE,dZ,SE.den,ao];refine⟨_,Jb,?_⟩;simp;refine⟨_,N_,?_⟩;simp
 |kp=>
  simp[BG,dE,dZ,SE.den,ao];refine⟨_,Jb,?_⟩;simp
 |nt a b a0 a4 b0 b4=>
  have WO:=k53 a a0 a4;simp[BG,dE,dZ,SE.den,ao];refine⟨_,Jb,?_⟩;simp;refine⟨_,WO,?_⟩;simp[b0,b4]
 |pu g hn hr ho=>
  have aw5:=aw2 g hn hr ho;simp[BG,dE,SE.den,ao];refine⟨_,aw5,?_⟩;simp
 |cm a b a0 a4 b0 b4=>
  have WO:=k53 a a0 a4;simp[BG,dE,dZ,SE.den,ao];refine⟨_,Jb,?_⟩;simp;refine⟨_,WO,?_⟩;simp[b0,b4]
def apq(l:List Int)(n:Int)(hl:l.length<=1000):CC 131 af [iL l,iI n] (iB (decide (n∈l))):=by
 refine CC.cZ amH kr (λ_=>kr) (lC aw aw) (by rfl) ?_;simp[ah_,Yw,SE.den,ao];refine gS l.length (λi (_:Unit)=>[iI i]) (λi _=>∀x∈l.take i,x≠n) () ?_ aw λi _ hi hI=>?_
 .simp[SE.den]
 by_cases ak:i<l.length
 .have hw:=aH ak aj;simp[SE.den,ak,hw,kS ak,ao];by_cases h1:l[i]=n
  .left;exact⟨h1,h1▸ayJ ak⟩
  .right;exact⟨h1,by omega,cy ak hI h1⟩
 .have:=dj ak hI;simp[SE.den,ak];exactλh=>this _ h rfl
def ai7(l:List Int)(n:Int)(hl:l.length<=1000):CC 131 ab [iL l,iI n] (iB (decide (n∈l))):=(apq l n hl).Ke (EZ rfl)
def atw(l:List Int)(n:Int)(hl:l.length<=1000)(h4:n<=4)(h:∀v,0<=v->v<n->v∈l):CC 132 ab [iL l,iI n] (iB ab):=by
 refine CC.Ke (EZ rfl) ?_;refine CC.cZ amF kr (λ_=>kr) (lC aw aw) (by rfl) ?_;simp[ah8,Yv,SE.den,ao];refine aB n.toNat (λi (_:Unit)=>[iI i]) (λ_ _=>True) () ?_ trivial λi _ hi _=>?_
 .simp[SE.den]
 by_cases ak:(i:Int)<n
 .have hw:=aH (show i<1000 by omega) aj;have Jc:=apq l i hl;rw[decide_eq_true (h i aj ak)]at Jc;simp[SE.den,ak,hw,ao];refine⟨_,Jc,?_⟩;simp;exact .mk () rfl aj trivial
 .simp[SE.den,ak]
def aw6{l:List In}{i:Nat}{y:In}(h:l[i- 1]?=aa y)(hi:0<i):cb 7 (cn l) (iI ((i:Int) - 1))=aa (.agg [iI y.op,iI y.a,iI y.b,iI y.g.op,iS y.g.s,iT y.g.ts,iT y.ts]):=by
 obtain⟨h1,rfl⟩:=ayH.1 h;have:=N8 h1;rwa[show((i- 1:Nat):Int)=(i:Int) - 1 by omega]at this
def vw.ph{o:Oc}{s u:Sf}{i:In}(h:vw o s i u):u.cP=DK i.op/\s.cP<=DK i.op/\(i.op=7\/i.op=8\/i.op=10->s.cP<DK i.op)/\(i.op=6->u.last=i.a/\s.last<i.a):=by
 unfold DK;cases h<;>simp_all<;>omega
structure apr(o:Oc)(c:List In)(t:Sf)(j:Nat)(n:Nat)(s:Sf):Prop where
 r:jF o s (c.drop j) t
 n:n=if s.cP=5 then 1 else 0
 l:∀y,0<j->c[j- 1]?=aa y->s.cP=DK y.op/\(y.op=6->s.last=y.a)
 z:j=0->s.cP=0
def k56(o:Oc)(c:List In)(hc:c.length<=200)(s0 t:Sf)(h0:s0.cP=0)(hr:jF o s0 c t)(h5:t.cP=5):CC 56 af [iG o c] (iB ab):=by
 refine CC.cZ arG kr (λ_=>kr) (dL (.agg _ aw)) (by rfl) ?_;have hB:iG o c=.agg [iI o.r,iI o.h,iB o.k,cn c]:=rfl;rw[hB];simp[amL,aJ,ao];unfold ada;refine aB c.length (λj (n:Nat)=>[iI j,iI n]) (λj n=>n<=1/\∃s,apr o c t j n s) 0 ?_ ⟨by omega,s0,hr,by simp[h0],λ_ h=>absurd h aj,λ_=>h0⟩ λj n hj hI=>?_
 .simp[aJ]
 obtain⟨eG,s,hI⟩:=hI;by_cases ak:j<c.length
 rotate_left
 .have hr:=hI.r;rw[azf aj]at hr;obtain rfl:s=t:=hr;have hn:=hI.n;rw[if_pos h5]at hn;simp[aJ,ak,hn]
 have hw:=aH ak aj;have hwn:azc.wrap ((n:Int)+1)=((n+1:Nat):Int):=aH (n:=1000) aj aj;have hd:=ay5 ak;have hr:=hI.r;rw[hd]at hr;obtain⟨u,bL,hr⟩:=hr;obtain⟨p1,p2,p3,p4⟩:=bL.ph
 have fP:qp c.length (λj (n:Nat)=>[iI j,iI n]) (λj n=>n<=1/\∃s,apr o c t j n s) j [iI (j+1:Nat),iI (if c[j].op=10 then n+1 else n:Nat)]:=by
  have hn:=hI.n
  have e:(if c[j].op=10 then n+1 else n)=if u.cP=5 then 1 else 0:=by
   rw[p1];by_cases Ae:c[j].op=10
   .have h3:=p3 (.inr (.inr Ae));simp only[DK,Ae]at h3⊢;simp at h3⊢;rw[if_neg aj]at hn;omega
   .have h5:DK c[j].op≠5:=by unfold DK;grind
    rw[if_neg Ae,if_neg h5,hn,if_neg];have:DK c[j].op<=5:=by unfold DK;grind
    omega
  rw[e]
  exact .mk _ rfl aj ⟨by split<;>omega,u,hr,rfl,λy _ hy=>by
   obtain rfl:c[j]=y:=aAK ((ayG ak).symm.trans hy);exact⟨p1,λh=>(p4 h).1⟩,by omega⟩
 have cK:=N8 ak;by_cases US:j=0
 .have hjt:((j:Int)=0)=True:=eq_true aj;have hjn:=eq_true US;generalize c[j]=y at*
  by_cases Ae:y.op=10
  .rw[if_pos Ae]at fP;simp[aJ,ak,hw,cK,ao,Ae,hwn,hjt,hjn];exact fP
  .rw[if_neg Ae]at fP;simp[aJ,ak,hw,cK,ao,Ae,hjt,hjn];exact fP
 obtain⟨z,hz⟩:∃z,c[j- 1]?=aa z:=⟨_,ayG aj⟩;have hl:=hI.l z aj hz;have aps:=aw6 hz aj;have Rm:azc.wrap ((j:Int) - 1)=(j:Int) - 1:=eN aj aj;have hzj:¬(j:Int)=0:=aj;have ahe:=apo c[j].op;have abM:=apo z.op;rw[<-hl.1]at abM;have Ct:¬DK c[j].op<s.cP:=aj
 have ai8:c[j].op=z.op->¬c[j].op=7/\¬c[j].op=8/\¬c[j].op=10/\(c[j].op=6->¬c[j].a<=z.a):=λhe=>by
  have e1:s.cP=DK c[j].op:=by rw[hl.1,he]
  refine⟨λh=>?_,λh=>?_,λh=>?_,λh=>?_⟩
  .have:=p3 (.inl h);omega
  .have:=p3 (.inr (.inl h));omega
  .have:=p3 (.inr (.inr h));omega
  .have h1:=hl.2 (he▸h);have:=(p4 h).2;omega
 generalize c[j]=y at*
 by_cases Ae:y.op=10
 .rw[if_pos Ae]at fP;rw[Ae]at ahe Ct;have bA:¬(10:Int)=z.op:=λh=>(ai8 (Ae.trans h)).2.2.1 Ae;simp[aJ,ak,hw,cK,ao,Ae,hwn,US,hzj,Rm,aps];refine⟨_,ahe,?_⟩;simp[aJ];refine⟨_,abM,?_⟩;simp[aJ,Ct,bA]
  first|exact fP|exact⟨by omega,fP⟩
 .rw[if_neg Ae]at fP;simp[aJ,ak,hw,cK,ao,Ae,US,hzj,Rm,aps];refine⟨_,ahe,?_⟩;simp[aJ];refine⟨_,abM,?_⟩;by_cases he:y.op=z.op
  .obtain⟨a1,a2,_,a3⟩:=ai8 he;by_cases e6:y.op=6
   .have a3:=a3 e6;rw[e6]at he Ct;simp[aJ,Ct,e6,<-he,a3]
    first|exact fP|exact⟨by omega,by omega,fP⟩|exact⟨by omega,fP⟩
   .simp[aJ,Ct,he,he▸a1,he▸a2,he▸e6]
    first|exact fP|exact⟨by omega,fP⟩
  .simp[aJ,Ct,he]
   first|exact fP|exact⟨by omega,fP⟩
structure RgI(o:Oc)(c:List In)(t:Sf)(j:Nat)(q:List Int×List Int)(s:Sf):Prop where
 r:jF o s (c.drop j) t
 b:∀v,v∈q.1↔s.b v=ab
 f:∀v,v∈q.2↔v∈s.fr
 l:q.1.length<=j+1/\q.2.length<=j
def k57(o:Oc)(c:List In)(hc:c.length<=200)(t:Sf)(hr:jF o (I8 o.h) c t):CC 57 af [iG o c] (iB ab):=by
 refine CC.cZ arI kr (λ_=>kr) (dL (.agg _ aw)) (by rfl) ?_;have hB:iG o c=.agg [iI o.r,iI o.h,iB o.k,cn c]:=rfl;rw[hB];simp[amO,aJ,ao,aL];unfold adb;refine aB c.length (λj (q:List Int×List Int)=>[iI j,iL q.1,iL q.2]) (λj q=>∃s,RgI o c t j q s) ([o.h],[]) ?_ ⟨_,hr,by simp[I8],by simp[I8],by simp⟩ λj q hj hI=>?_
 .simp[aJ,cellsOf]
 obtain⟨bd,fs⟩:=q;obtain⟨s,hr,hb,hf,om,gb⟩:=hI;simp only at hb hf om gb⊢;by_cases ak:j<c.length
 rotate_left
 .simp[aJ,ak]
 have hw:=aH ak aj;have hd:=ay5 ak;rw[hd]at hr;obtain⟨u,bL,hr⟩:=hr;have cK:=N8 ak;have Jc:=λn=>ai7 bd n aj;have atx:=λn=>ai7 fs n aj;have apt:=λn=>atw bd n aj;have oq:∀v,s.b v=ab->decide (v∈bd)=ab:=λv h=>decide_eq_true ((hb v).2 h);have bX:∀n,(∀v,0<=v->v<n->s.b v=ab)->∀v,0<=v->v<n->v∈bd:=λn h v h0 h1=>(hb v).2 (h v h0 h1);generalize c[j]=y at*
 have Jd:RgI o c t (j+1) (bd,fs) u->qp c.length (λj (q:List Int×List Int)=>[iI j,iL q.1,iL q.2]) (λj q=>∃s,RgI o c t j q s) j [iI (j+1:Nat),iL bd,iL fs]:=λh=>.mk (bd,fs) rfl aj ⟨u,h⟩;cases bL with
 |rm e a0 a4 cd _ _=>
  have h:=Jc y.a;rw[oq _ cd]at h;simp[aJ,ak,hw,cK,ao,e];refine⟨_,h,?_⟩;simp[aJ];exact Jd ⟨hr,hb,hf,by simp;omega,by simp;omega⟩
 |kp e _=>
  simp[aJ,ak,hw,cK,ao,e];exact Jd ⟨hr,hb,hf,by simp;omega,by simp;omega⟩
 |nt e b1 b4 hv qc Dh _=>
  have h:=apt y.b b4 (bX _ hv);have h2:=atx y.b;rw[decide_eq_true ((hf _).2 qc)]at h2;simp[aJ,ak,hw,cK,ao,e];refine⟨_,h,?_⟩;simp[aJ,Dh];refine⟨_,h2,?_⟩;simp[aJ];exact Jd ⟨hr,hb,hf,by simp;omega,by simp;omega⟩
 |pu e _=>
  simp[aJ,ak,hw,cK,ao,e];exact Jd ⟨hr,hb,hf,by simp;omega,by simp;omega⟩
 |cm e Dh _=>
  simp[aJ,ak,hw,cK,ao,e,Dh];exact Jd ⟨hr,hb,hf,by simp;omega,by simp;omega⟩
 |mt e a0 a4 cd _=>
  have h:=Jc y.a;rw[oq _ cd]at h;simp[aJ,ak,hw,cK,ao,e];refine⟨_,h,?_⟩;simp[aJ];exact Jd ⟨hr,hb,hf,by simp;omega,by simp;omega⟩
 |ap e a0 a4 cd b0 b4 dw _=>
  have h:=Jc y.a;rw[oq _ cd]at h;have h2:=Jc y.b;rw[oq _ dw]at h2;simp[aJ,ak,hw,cK,ao,e];refine⟨_,h,?_⟩;simp[aJ];refine⟨_,h2,?_⟩;simp[aJ];exact Jd ⟨hr,hb,hf,by simp;omega,by simp;omega⟩
 |fd e a0 a4 cd _=>
  have h:=Jc y.a;rw[decide_eq_false (λhm=>by rw[(hb _).1 hm]at cd;cases cd)]at h;have je:=wS (a:=bd) (v:=y.a) aj;simp[aJ,ak,hw,cK,ao,e];refine⟨_,h,?_⟩;simp[aJ,aL,cellsOf];refine⟨_,je,.mk (bd++[y.a],fs) rfl aj ⟨_,hr,λv=>?_,hf,by simp;omega,by simp;omega⟩⟩;simp[hb v,or_comm]
 |fr e b1 b4 hv Dh _=>
  have h:=apt y.b b4 (bX _ hv);have je:=wS (a:=fs) (v:=y.b) aj;simp[aJ,ak,hw,cK,ao,e];refine⟨_,h,?_⟩;simp[aJ,aL,cellsOf,Dh];refine⟨_,je,.mk (bd,fs++[y.b]) rfl aj ⟨_,hr,hb,λv=>?_,by simp;omega,by simp;omega⟩⟩;simp[hf v,vv]
 |ts e _=>
  simp[aJ,ak,hw,cK,ao,e];exact Jd ⟨hr,hb,hf,by simp;omega,by simp;omega⟩
def vw.kr{o:Oc}{s u:Sf}{i:In}(h:vw o s i u):u.kept=(s.kept||decide (i.op=7))/\u.rem=(s.rem||(decide (i.op=6)&&decide (i.a=o.h))):=by
 cases h<;>simp_all[aCC]
def k58(o:Oc)(c:List In)(hc:c.length<=200)(s0 t:Sf)(h1:s0.kept=af)(h2:s0.rem=af)(hr:jF o s0 c t)(Bj:t.rem= !o.k)(hk:t.kept=ab->o.k=ab):CC 58 af [iG o c] (iB ab):=by
 refine CC.cZ arE kr (λ_=>kr) (dL (.agg _ aw)) (by rfl) ?_;have hB:iG o c=.agg [iI o.r,iI o.h,iB o.k,cn c]:=rfl;rw[hB];simp[amI,aJ,ao];unfold ac_;refine aB c.length (λj (q:Bool×Bool)=>[iI j,iB q.1,iB q.2]) (λj q=>∃s,jF o s (c.drop j) t/\q=(s.kept,s.rem)) (af,af) ?_ ⟨s0,hr,by rw[h1,h2]⟩ λj q hj hI=>?_
 .simp[aJ]
 obtain⟨s,hr,rfl⟩:=hI;by_cases ak:j<c.length
 rotate_left
 .rw[azf aj]at hr;obtain rfl:s=t:=hr;cases bf:o.k<;>cases oA:s.kept<;>simp_all[aJ]
 have hw:=aH ak aj;have hd:=ay5 ak;rw[hd]at hr;obtain⟨u,bL,hr⟩:=hr;obtain⟨e1,e2⟩:=bL.kr;have cK:=N8 ak;have fP:qp c.length (λj (q:Bool×Bool)=>[iI j,iB q.1,iB q.2]) (λj q=>∃s,jF o s (c.drop j) t/\q=(s.kept,s.rem)) j [iI (j+1:Nat),iB u.kept,iB u.rem]:=.mk _ rfl aj ⟨u,hr,rfl⟩;rw[e1,e2]at fP;generalize c[j]=y at*
 cases oA:s.kept<;>cases tn:s.rem<;>by_cases e6:y.op=6<;>by_cases e7:y.op=7<;>simp[oA,tn,e6,e7]at fP<;>simp[aJ,ak,hw,cK,ao,e6,e7]<;>first|exact fP|(rw[show(y.op==7)=af by simpa using e7];exact fP)
def k17(o:Oc)(c:List In)(h:WJ o c):CC 17 af [iG o c] (iI 0):=by
 refine CC.zN arz kr (λ_=>kr) (dL (.agg _ aw)) (by rfl) ?_;obtain⟨hl,⟨r0,r1⟩,⟨h0,h4⟩,hi,t,hf,hs,Bj,hk⟩:=h;have WO:=k53 o.r r0 r1;have N_:=Zh o.h h0 h4;have h56:=k56 o c hl _ t rfl hf hs;have h57:=k57 o c hl t hf;have h58:=k58 o c hl _ t rfl rfl hf Bj hk;have h55:=λi ct=>k55 i (hi i ct);have hE:∀i,dE i=.agg [iI i.op,iI i.a,iI i.b,iI i.g.op,iS i.g.s,iT i.g.ts,iT i.ts]:=λ_=>rfl;have hB:iG o c=.agg [iI o.r,iI o.h,iB o.k,cn c]:=rfl;have z1:¬(200:Int)<c.length:=aj;simp only[hE]at h55;rw[hB]at*
 simp[amw,aJ,ao,z1];refine⟨_,WO,?_⟩;simp[aJ];refine⟨_,N_,?_⟩;simp[aJ];unfold ac0;refine aB c.length (λi (_:Unit)=>[iI i]) (λ_ _=>True) () ?_ trivial λi _ hi _=>?_
 .simp[aJ]
 by_cases ak:i<c.length
 .have hw:=aH ak aj;simp[aJ,ak,hw,N8 ak,ao];refine⟨_,h55 _ (ayJ ak),?_⟩;simp[aJ];exact .mk () rfl aj trivial
 .simp[aJ,ak,ao];refine⟨_,h56,?_⟩;simp[aJ];refine⟨_,h57,?_⟩;simp[aJ];refine⟨_,h58,?_⟩;simp[aJ]
section
structure zO(cs:List (Int×IV)):Prop where
 n:(cs.map azU).Nodup
 v:∀q∈cs,∃n:Int,q.2=iI n
def zO.nil:zO []:=⟨by simp,by intro q hq;cases hq⟩
theorem zO.get{cs:List (Int×IV)}(h:zO cs)(k:Int):∃n:Int,nQ ayF 3 (iV iI cs) (iI k) (iI 0)=aa (iI n):=by
 obtain⟨h1,h2⟩:=ye.get h.n k (iI 0);by_cases hy:∃y,(k,y)∈cs
 .obtain⟨y,hy⟩:=hy;obtain⟨n,hn⟩:=h.v _ hy;simp only at hn;subst hn;exact⟨n,h1 _ hy⟩
 .exact⟨0,h2 hy⟩
theorem zO.ins{cs:List (Int×IV)}(h:zO cs)(k v:Int):∃bK,zO bK/\nP ayF 3 (iV iI cs) (iI k) (iI v)=aa (iV iI bK):=by
 obtain⟨bK,h1,h2,h3⟩:=ye.ins h.n k (iI v);refine⟨bK,⟨h1,λq hq=>?_⟩,h3⟩;rcases(h2 q).1 hq with rfl|⟨_,hq⟩
 .exact⟨v,rfl⟩
 .exact h.v q hq
section
variable{k0 k1:List IV->Prop}{x0 x1 x2 x3 x4 x5 x6 x7 x8 x9:IV}
def apu(a:At)(ef:a.ts.length<=8)(cs:List (Int×IV))(hc:zO cs):PZ.sat ayF CC I2 [k0,k1] [x0,x1,x2,dN a,x4,x5,x6,x7,iV iI cs]:=by
 have hA:dN a=.agg [iS a.s,iT a.ts]:=rfl;rw[hA];unfold PZ;refine aB a.ts.length (λi (q:List Int)=>[iI i,iL q]) (λi q=>q.length<=i) [] ?_ aw λi q hi hI=>?_
 .simp[aJ]
 by_cases ak:i<a.ts.length
 rotate_left
 .simp[aJ,ak,ao];exact Y9 _ _ _ _ aj
 have hw:=aH ak aj;obtain⟨g,hg⟩:=hc.get a.ts[i].n;obtain⟨b,_,hb⟩:=ye.has cs a.ts[i].n;have hq:=wS (a:=q) (v:=(i:Int)) aj;simp[aJ,ak,hw,ng ak,bG,ao,hg,hb,aL];cases b with
 |false=>simp[hw];exact .mk q rfl aj aj
 |true=>
  simp[hw,cellsOf];by_cases e:g=i
  .right;exact⟨e,_,hq,.mk (q++[(i:Int)]) rfl aj (by simp;omega)⟩
  .left;exact⟨e,nO⟩
def apv(a:At)(ef:a.ts.length<=8):PX.sat ayF CC I2 [k0] [x0,x1,x2,x3,dN a,x5,x6,x7]:=by
 have hA:dN a=.agg [iS a.s,iT a.ts]:=rfl;rw[hA];unfold PX;refine aB a.ts.length (λi (cs:List (Int×IV))=>[iI i,iS a.s,iV iI cs]) (λ_ cs=>zO cs) [] ?_ .nil λi cs hi hc=>?_
 .simp[aJ,iV]
 by_cases ak:i<a.ts.length
 rotate_left
 .simp[aJ,ak];exact nO
 have hw:=aH ak aj;obtain⟨g,hg⟩:=hc.get a.ts[i].n;obtain⟨b,_,hb⟩:=ye.has cs a.ts[i].n;obtain⟨bK,qd,ct⟩:=hc.ins a.ts[i].n i;simp[aJ,ak,hw,ng ak,bG,ao,hg,hb,ct,aL];by_cases e:a.ts[i].k=1
 rotate_left
 .left;exact⟨e,nO⟩
 right;refine⟨e,?_⟩;cases b with
 |true=>simp;exact nO
 |false=>simp;exact .mk bK rfl aj qd
def apw(a:At)(ef:a.ts.length<=8):PY.sat ayF CC I2 [k0] [x0,x1,x2,x3,dN a,x5,x6,x7,x8,x9]:=by
 have hA:dN a=.agg [iS a.s,iT a.ts]:=rfl;rw[hA];unfold PY;refine aB a.ts.length (λi (cs:List (Int×IV))=>[iI i,iS a.s,iV iI cs]) (λ_ cs=>zO cs) [] ?_ .nil λi cs hi hc=>?_
 .simp[aJ,iV]
 by_cases ak:i<a.ts.length
 rotate_left
 .simp[aJ,ak];exact nO
 have hw:=aH ak aj;obtain⟨g,hg⟩:=hc.get a.ts[i].n;obtain⟨b,_,hb⟩:=ye.has cs a.ts[i].n;obtain⟨bK,qd,ct⟩:=hc.ins a.ts[i].n i;simp[aJ,ak,hw,ng ak,bG,ao,hg,hb,ct,aL];by_cases e:a.ts[i].k=1
 rotate_left
 .left;exact⟨e,nO⟩
 right;refine⟨e,?_⟩;cases b with
 |true=>simp;exact nO
 |false=>simp;exact .mk bK rfl aj qd
def apx(b a:At)(Hu:b.ts.length<=8)(ef:a.ts.length<=8):P0.sat ayF CC I2 [k0] [x0,x1,x2,dN b,dN a,x5,x6]:=by
 have hy:=λk1 x7 cs hc=>apu (k0:=k0) (k1:=k1) (x0:=x0) (x1:=x1) (x2:=x2) (x4:=dN a) (x5:=x5) (x6:=x6) (x7:=x7) b Hu cs hc;have hA:∀a,dN a=.agg [iS a.s,iT a.ts]:=λ_=>rfl;rw[hA,hA]at*
 unfold P0;refine aB a.ts.length (λi (cs:List (Int×IV))=>[iI i,iV iI cs]) (λ_ cs=>zO cs) [] ?_ .nil λi cs hi hc=>?_
 .simp[aJ,iV]
 by_cases ak:i<a.ts.length
 rotate_left
 .simp[aJ,ak];exact hy _ _ _ hc
 have hw:=aH ak aj;obtain⟨g,hg⟩:=hc.get a.ts[i].n;obtain⟨b,_,hb⟩:=ye.has cs a.ts[i].n;obtain⟨bK,qd,ct⟩:=hc.ins a.ts[i].n i;simp[aJ,ak,hw,ng ak,bG,ao,hg,hb,ct,aL];by_cases e:a.ts[i].k=1
 rotate_left
 .left;exact⟨e,nO⟩
 right;refine⟨e,?_⟩;cases b with
 |true=>simp;exact nO
 |false=>simp;exact .mk bK rfl aj qd
def apy(b a:At)(Hu:b.ts.length<=8)(ef:a.ts.length<=8):P1.sat ayF CC I2 [] [x0,x1,x2,dN b,dN a]:=by
 have KE:=λk0 x5 x6=>apx (k0:=k0) (x0:=x0) (x1:=x1) (x2:=x2) (x5:=x5) (x6:=x6) b a Hu ef;have U5:=λk0 x5 x6 x7=>apv (k0:=k0) (x0:=x0) (x1:=x1) (x2:=x2) (x3:=dN b) (x5:=x5) (x6:=x6) (x7:=x7) a ef;have y9:=λk0 x5 x6 x7 x8 x9=>apw (k0:=k0) (x0:=x0) (x1:=x1) (x2:=x2) (x3:=dN b) (x5:=x5) (x6:=x6) (x7:=x7) (x8:=x8) (x9:=x9) a ef;have hA:∀a,dN a=.agg [iS a.s,iT a.ts]:=λ_=>rfl;rw[hA,hA]at*
 unfold P1;refine aB b.ts.length (λi (cs:List (Int×IV))=>[iI i,iV iI cs]) (λ_ cs=>zO cs) [] ?_ .nil λi cs hi hc=>?_
 .simp[aJ,iV]
 by_cases ak:i<b.ts.length
 rotate_left
 .simp[aJ,ak];exact KE _ _ _
 have hw:=aH ak aj;obtain⟨g,hg⟩:=hc.get b.ts[i].n;obtain⟨h,_,hb⟩:=ye.has cs b.ts[i].n;obtain⟨bK,qd,ct⟩:=hc.ins b.ts[i].n i;simp[aJ,ak,hw,ng ak,bG,ao,hg,hb,ct,aL];by_cases e:b.ts[i].k=1
 rotate_left
 .left;exact⟨e,U5 _ _ _ _⟩
 right;refine⟨e,?_⟩;cases h with
 |true=>simp;exact y9 _ _ _ _ _ _
 |false=>simp;exact .mk bK rfl aj qd
end
def aw7(r:Rl)(h:oB r):∃(k:Ac) (b:Bool),k.ps.length<=100/\CC 171 af [cN r] (.aF [tL k,iB b]):=by
 suffices hs:aby.sat ayF CC I2 [] [cN r] by
  obtain⟨z,⟨k,b,rfl,hk⟩,hz⟩:=CC.Ix (args:=[cN r]) aox kr (by rintro _ ⟨k,b,rfl,_⟩;exact kr) (dL (iQ r)) (by rintro _ ⟨k,b,rfl,_⟩;exact .aF _ (by simp[DB])) (by rfl) hs;exact⟨k,b,hk,hz⟩
 have hh:=h.h;have WE:=KV r aj;have D9:=awz r;have ef:=h.hs;have hy:=λx0 x1 x2 b a h1 h2=>apy (x0:=x0) (x1:=x1) (x2:=x2) b a h1 h2;rw[cu]at*
 generalize r.ax++r.az=hs at*
 simp[aby,SE.den,ao];refine⟨_,WE,?_⟩;simp;by_cases e1:hs.length=2
 rotate_left
 .left;exact⟨by omega,nO⟩
 right;refine⟨by omega,_,D9,?_⟩;by_cases e2:r.az=[]
 .simp[e2];exact nO
 simp[e2];by_cases e3:0<r.aG.length
 .left;exact⟨e3,nO⟩
 right;refine⟨by simpa using e3,?_⟩;obtain⟨a0,e0⟩:∃a,hs[0]?=aa a:=⟨_,ayG aj⟩;obtain⟨a1,cS⟩:∃a,hs[1]?=aa a:=⟨_,ayG aj⟩;have i0:cb 2 (dm hs) (iI 0)=aa (.agg [iS a0.s,iT a0.ts]):=cM (i:=0) (x:=dN a0) (by simp[e0]) rfl;have i1:cb 2 (dm hs) (iI 1)=aa (.agg [iS a1.s,iT a1.ts]):=cM (i:=1) (x:=dN a1) (by simp[cS]) rfl;have hA:∀a,dN a=.agg [iS a.s,iT a.ts]:=λ_=>rfl;have hy:=λx0 x1 x2=>hy x0 x1 x2 a0 a1 (ef _ (ayX e0)) (ef _ (ayX cS));rw[hA,hA]at hy;simp[i0,i1,ao];by_cases e4:a0.s=a1.s
 rotate_left
 .left;exact⟨e4,nO⟩
 right;refine⟨e4,?_⟩;by_cases e5:a0.ts.length=a1.ts.length
 rotate_left
 .left;exact⟨by omega,nO⟩
 right;refine⟨by omega,?_⟩;exact hy _ _ _
def aw8(p:Pg)(hp:m_ p):∃ks:List Ac,ks.length<=8/\(∀k∈ks,k.ps.length<=100)/\CC 113 af [bg p] (eP ks):=by
 suffices hs:abx.sat ayF CC awH [] [bg p] by
  obtain⟨z,⟨ks,rfl,h1,h2⟩,hz⟩:=CC.Ix (args:=[bg p]) aow kr (λ_ _=>kr) (dL (du p)) (by rintro _ ⟨ks,rfl,_⟩;simp) (by rfl) hs;exact⟨ks,h1,h2,hz⟩
 have hP:bg p=.agg [gj p.bM,mN p.aQ]:=rfl;have hr:=hp.r;rw[hP];simp[abx,SE.den,ao];unfold Y2;refine aB p.aQ.length (λi (ks:List Ac)=>[iI i,eP ks]) (λi ks=>ks.length<=i/\∀k∈ks,k.ps.length<=100) [] ?_ aw λi ks hi hI=>?_
 .simp[SE.den]
 obtain⟨fp,gY⟩:=hI;by_cases ak:i<p.aQ.length
 rotate_left
 .simp[SE.den,ak];exact⟨ks,rfl,by omega,gY⟩
 have hw:=aH ak aj;obtain⟨k,b,yV,apz⟩:=aw7 p.aQ[i] (hp.rs _ (ayJ ak));have apA:=λj (hj:j<ks.length)=>awP ks[j] k (by have:=gY _ (ayJ hj);unfold Sm;omega);have hC:∀a,tL a=.agg [iS a.s,iI a.n,iL a.ps]:=λ_=>rfl;rw[cu,hC]at apz;simp only[hC]at apA;simp[SE.den,ak,xY ak,ao];refine⟨_,apz,?_⟩
 have ago:∀x∈ks++[k],x.ps.length<=100:=λx hx=>by
  rcases ayS.1 hx with hx|hx
  .exact gY x hx
  .obtain rfl:=ayU.1 hx;exact yV
 cases b with
 |false=>
  simp[ao,hw];exact .mk ks rfl aj ⟨by omega,gY⟩
 |true=>
 simp[ao];unfold Y1;refine aB ks.length (λj (_:Unit)=>[iI j]) (λ_ _=>True) () ?_ trivial λj _ hj _=>?_
 .simp[SE.den]
 by_cases vd:j<ks.length
 .have TM:=aH vd aj;obtain⟨q,hq⟩:=apA j vd;simp[SE.den,vd,L_ vd,TM,ao,cellsOf];refine⟨_,hq,?_⟩;cases q with
  |true=>
   simp[hw];exact .mk ks rfl aj ⟨by omega,gY⟩
  |false=>
   simp;exact .mk () rfl aj trivial
 .simp[SE.den,vd,hw,cellsOf,ao,aiZ (show ks.length<=1000 by omega)];exact .mk (ks++[k]) rfl aj ⟨by simp;omega,ago⟩
end
def ak1:aq:=
 (OZ (gR bj qV qV) (mU .lss 6 0) (jG 95 (o8 cT 6) (.nt rh (rq 6 7 8) (jG 175 (tW (uQ rY pR pR oL (D0 oL bj 2)) bR (o8 cT 6)) (iu sM .gtr sM eo (zG 1 6 (o8 sM 6)) (rq 6 7 8))))) (lT fi (rX 1 8 cT (C4 1 8) (Ao 0 9))))
def ak2:aq:=
 (wx (D0 bj (tI 1 mW) 1) 7 (.len eg) eg 7 10 (jG 160 (gR (uQ rY pR pR oL (D0 oL bj 2)) fi sM) (eZ 11 (jI 1 24 9 1 mX (jI 1 8 8 1 sM (rq 7 13 12))))) (jG 161 (o8 (uQ rY pR pR oL (eI oL bj)) 8) (eZ 10 (.ret (FQ 2 0 2 1 (tW wi eg (eI ej sM)))))))
def ak3:aq:=
 (.loop (iC (tI 1 mW)) (yF sK sK ak1 (.bind (.sub 1 cT jn sK) (JG mW (.len eg) ak2))))
def ak4:aq:=
 (OZ (gR bj qV qV) (mU .lss 6 0) (jG 95 (o8 cT 6) (.nt rh (rq 6 7 8) (jG 175 (tW (uQ rY pR pR oL (D0 oL bj 2)) bR (o8 cT 6)) (iu sM .gtr sM eo (zG 1 6 (o8 sM 6)) (rq 6 7 8))))) (lT fi (rX 1 8 cT (C4 1 8) (Ao 0 9))))
def ak5:aq:=
 (wx (D0 bj (tI 1 mW) 1) 7 (.len eg) eg 7 10 (jG 160 (gR (uQ rY pR pR oL (D0 oL bj 2)) fi sM) (eZ 11 (jI 1 24 9 1 mX (jI 1 8 8 1 sM (rq 7 13 12))))) (jG 161 (o8 (uQ rY pR pR oL (eI oL bj)) 8) (eZ 10 (.ret (FQ 2 0 2 1 (tW wi eg (eI ej sM)))))))
def ak6:aq:=
 (.loop (iC (tI 1 mW)) (yF sK sK ak4 (.bind (.sub 1 cT jn sK) (JG mW (.len eg) ak5))))
def Qk:aq:=
 (FR (gR bj qV qV) 3 9 yB (jG 95 (FT 8 9) (.nt uo (rq 9 10 11) (jG 175 (wv (wh 5 5 5 5 (mG 5 4 5 5 gk)) bR 8 9) (iu Gg .gtr Gg wj (zG 1 9 (o8 Gg 9)) (rq 9 10 11))))) (lT (.var 11) (tG 1 8 8 (C4 1 11) (Ao 0 12))))
def Ql:aq:=
 (wx (D0 bj (tI 1 mW) 1) 10 (.len ej) ej 10 13 (jG 160 (gR (wh 5 5 5 5 (mG 5 4 5 5 gk)) (.var 11) Gg) (eZ 14 (jI 1 24 12 1 (jT 14) (jI 1 8 11 1 Gg (rq 10 16 15))))) (jG 161 (o8 (wy 5 5 5 5 5 4 5 5) 11) (eZ 13 (.ret (FQ 2 0 2 1 (tW wi ej (eI pP Gg)))))))
def Qm:aq:=
 (.loop (iC (tI 1 mW)) (.aC JN (iu yB .lss JN yB (.aC yB Qk) (.bind (.sub 1 fi jn JN) (JG mW (.len ej) Ql)))))
def abN:aq:=
 (rp 2 (Lw 3 2 (sQ 87 (eZ 3 (kA 86 cA (m4 2 2 2) (gQ da da (.ret (uQ bj bj fg F0 (eI F0 F0))) (mE .lss 2 0 0 (lT mW ak3) (wz eU pO eU (lT mW ak6) (lX 6 dp pO 6 5 (lX 6 dp pO 6 6 (fI 33 6 0 6 1 6 2 6 3 6 4 6 5 (eH gk (.rw mW) Qm))))))))))))
def apB:aI ayF (ah3 [⟨1,114065,4,[(1,(19,0))],[(12,3),(12,0),(11,1),(11,0),(10,4)],[(1,16)],[]⟩,⟨0,114,5,[],[(6,1),(6,0)],[(0,29)],[]⟩,⟨0,114,8,[(0,(10,0)),(0,(11,0)),(0,(39,0))],[(6,1)],[],[]⟩]) 400 af 114=abN:=by kernel_rfl
section
theorem Fh:∀(a b:List Int),a.Nodup->(∀v∈a,v∈b)->a.length<=b.length
 |[],_,_,_=>by simp
 |x::a,b,hn,hs=>by
  obtain⟨b1,b2,rfl⟩:=aCY (hs x aw);have oW:=azP.1 hn
  have ih:=Fh a (b1++b2) oW.2 λu hu=>by
   have:=hs u (azg _ hu);rw[ayS,ayW]at this;rw[ayS];rcases this with h|rfl|h
   .exact .inl h
   .exact absurd hu oW.1
   .exact .inr h
  simp at ih⊢;omega
def ak7{n:Nat}{done:List Int}(h:done.length<n):∃j:Nat,j<n/\(j:Int)∉done:=by
 apply azs;intro gx
 have:=Fh (jQ n) done (DC n) λv hv=>by
  obtain⟨h1,h2⟩:=qC.1 hv;apply azs;intro hv;exact gx ⟨v.toNat,by omega,by rwa[show((v.toNat:Nat):Int)=v by omega]⟩
 rw[pj]at this;omega
def ak8{n:Nat}{m:Int}{rest:List Int}(hn:(m::rest).Nodup)(hv:pZ n (m::rest))(hl:rest.length+1=n):rB n m rest=ab:=by
 have bX:=Fc (m::rest) (jQ n) hn (λv h=>qC.2 (hv v h)) (by rw[pj];simp;omega)
 have hs:∀v∈parts n m,v∈rest:=λv My=>by
  obtain⟨h1,h2⟩:=sx.1 My;rcases ayW.1 (bX v (qC.2 h1))with h|h
  .exact absurd h h2
  .exact h
 have gX:∀v∈rest,v∈parts n m:=λv My=>sx.2 ⟨hv v (azg _ My),λh=>by
  subst h;exact(azP.1 hn).1 My⟩
 have h1:=Fh _ _ (qD n m) hs;have h2:=Fh _ _ (azP.1 hn).2 gX;unfold rB;rw[ayI,decide_eq_true_eq,decide_eq_true_eq];exact⟨by omega,hs⟩
section
variable{Q:IV->Prop}{k0:List IV->Prop}{x0 x1 x2 x3 x4 x5 x6 x8:IV}
def apC(r:Rl)(hs:List At)(hl:hs.length<=3)(ef:∀a∈hs,a.ts.length<=8)(eO:∀a∈hs,qq a)(hf:∀a∈hs,∀t∈a.ts,WF t)(ks:List Ac)(hk:ks.length<=1000)(gY:∀k∈ks,k.ps.length<=100)(done:List Int)(hd:done.length<=50)
 (hex:∃j:Nat,j<hs.length/\(j:Int)∉done)(gu:∀b:Nat,b<hs.length->(b:Int)∉done->k0 [iL (done++[(b:Int)])]):
 Qk.sat ayF CC Q [k0] [x0,eP ks,x2,x3,x4,cN r,x6,dm hs,iL done]:=by
 have apD:=λj hj=>awQ r hs hl ef eO hf ks hk gY done aj j hj;simp only[uY]at apD;rw[cu];unfold Qk;refine aB hs.length (λh (q:Int×Int)=>[iI h,iI q.1,iI q.2]) (λh q=>(q=(-1, -1)/\∀j:Nat,j<h->(j:Int)∈done)\/(0<=q.1/\∃b:Nat,q.2=b/\b<hs.length/\(b:Int)∉done)) (-1, -1) ?_ (.inl ⟨rfl,by intro j hj;omega⟩) λh q hh hI=>?_
 .simp[aJ]
 obtain⟨ahf,apE⟩:=q;by_cases ak:h<hs.length
 .have hw:=aH ak aj;have h95:=SX done h (by unfold Sm;omega);obtain⟨m,zS,hm⟩:=apD h ak;simp[aJ,ak,hw,ao];refine⟨_,h95,?_⟩;by_cases e:(h:Int)∈done
  .simp[e];refine .mk (ahf,apE) rfl aj ?_;rcases hI with⟨h1,h2⟩|h1
   .exact .inl ⟨h1,λj hj=>by
     by_cases he:j=h
     .subst he;exact e
     .exact h2 j aj⟩
   .exact .inr h1
  .simp[e];refine⟨_,hm,?_⟩;simp;by_cases e2:ahf<m
   .left;exact⟨e2,.mk (m,h) rfl aj (.inr ⟨zS,h,rfl,ak,e⟩)⟩
   .right;refine⟨by omega,.mk (ahf,apE) rfl aj ?_⟩;rcases hI with⟨h1,h2⟩|h1
    .cases h1;omega
    .exact .inr h1
 .have hc:=λb:Nat=>wS (a:=done) (v:=(b:Int)) aj;rcases hI with⟨_,h2⟩|⟨_,b,h1,h2,h3⟩
  .obtain⟨j,hj1,Ce⟩:=hex;exact absurd (h2 j aj) Ce
  .simp only at h1;subst h1;simp[aJ,ak,aL,cellsOf,hc];exact gu b h2 h3
def apF(r:Rl)(h:oB r)(eO:rA r)(hf:mO r)(o:Oc)(order:List Int)(ho:order.length<=50)(hv:pZ (r.ax++r.az).length order)(hQ:Q (cB (pn r o order))):
 Ql.sat ayF CC Q [k0] [x0,x1,kg o,x3,x4,cN r,x6,dm (r.ax++r.az),x8,iL order]:=by
 have A8:=h.h;rw[<-ayP]at A8;have uV:=λdone (hd:done.length<=100) n a ha=>agL ab r (r.ax++r.az) A8 h.hs eO.hs hf.hs done hd n a ha;have zM:=aoE r h eO hf (o.h::order) (by simp;omega);have hO:kg o=.agg [iI o.r,iI o.h,iB o.k]:=rfl;simp only[uY]at uV;rw[hO,cu]at*
 unfold pn cB at hQ;simp only at hQ;generalize hS:r.ax++r.az=hs at*
 unfold Ql;refine aB order.length (λi (q:List (List Int))=>[iI i,iL (o.h::order.take i),dC q]) (λi q=>q++eQ hs (o.h::order.take i) (order.drop i)=eQ hs [o.h] order/\q.length<=i) [] ?_ aw λi q hi hI=>?_
 .simp[SE.den,ao,cellsOf]
 obtain⟨hI,hql⟩:=hI;by_cases ak:i<order.length
 .have pC:=aH ak aj;obtain⟨hv0,Rh⟩:=hv _ (ayJ ak);have x_:order[i]=((order[i].toNat:Nat):Int):=aj;have ek:order[i].toNat<hs.length:=aj;have yR:=uV (o.h::order.take i) (by simp;omega) order[i].toNat _ (ayG ek);rw[<-x_]at yR
  have th:kU hs order[i]=hs[order[i].toNat].ts:=by
   simp only[kU,if_pos hv0];rw[ayG ek]
  rw[ay5 ak,eQ,th]at hI;have bL:o.h::order.take (i+1)=(o.h::order.take i)++[order[i]]:=by rw[ayN ak];rfl
  have cU:=wS (a:=o.h::order.take i) (v:=order[i]) (by simp;omega);have qP:=PT (a:=q) (v:=qt hs (o.h::order.take i) hs[order[i].toNat].ts) aj;generalize hD:o.h::order.take i=D at*
  simp[SE.den,ak,pC,kS ak,ao];refine⟨_,yR,?_⟩;simp[ao,aL,cellsOf,cU,qP];refine .mk (q++[qt hs D hs[order[i].toNat].ts]) ?_ aj ⟨by rw[bL,<-hI];simp,by simp;omega⟩;rw[bL];rfl
 .rw[azf aj,eQ,ay2]at hI;subst hI;rw[ayV aj]at*
  generalize eQ hs [o.h] order=K at*
  generalize f_ hs r.aG (o.h::order)=T at*
  generalize o.h::order=D at*
  simp[SE.den,ak,ao];refine⟨_,zM,?_⟩;simpa[ao]using hQ
def apH(r:Rl)(h:oB r)(eO:rA r)(hf:mO r)(ks:List Ac)(hk:ks.length<=1000)(gY:∀k∈ks,k.ps.length<=100)(o:Oc)(m:Nat)(hm:o.h=m)(s6:m<(r.ax++r.az).length)
 (hQ:∀order,rB (r.ax++r.az).length m order=ab->Q (cB (pn r o order))):
 Qm.sat ayF CC Q [] [x0,eP ks,kg o,x3,x4,cN r,x6,dm (r.ax++r.az)]:=by
 have A8:=h.h;rw[<-ayP]at A8;have hy6:=λk0 done=>apC (Q:=Q) (k0:=k0) (x0:=x0) (x2:=kg o) (x3:=x3) (x4:=x4) (x6:=x6) r (r.ax++r.az) A8 h.hs eO.hs hf.hs ks hk gY done;have hy7:=λk0 x8 order=>apF (Q:=Q) (k0:=k0) (x0:=x0) (x1:=eP ks) (x3:=x3) (x4:=x4) (x6:=x6) (x8:=x8) r h eO hf o order;have hO:kg o=.agg [iI o.r,iI o.h,iB o.k]:=rfl;simp only[hO]at hy6 hy7;rw[hO];generalize hS:r.ax++r.az=hs at*
 unfold Qm;refine iv (λ(rest:List Int)=>[iL (o.h::rest)]) (λrest=>(o.h::rest).Nodup/\pZ hs.length (o.h::rest)/\rest.length+1<=hs.length) (λrest=>hs.length- rest.length) [] ?_ ⟨by simp,by intro v hv;obtain rfl:=ayU.1 hv;omega,by simp;omega⟩ λrest hI=>?_
 .simp[SE.den,ao,cellsOf]
 obtain⟨h1,h2,h3⟩:=hI;by_cases ak:rest.length+1<hs.length
 .have hy:=hy6 (GN (λ(rest:List Int)=>[iL (o.h::rest)]) (λrest=>(o.h::rest).Nodup/\pZ hs.length (o.h::rest)/\rest.length+1<=hs.length) (λrest=>hs.length- rest.length) rest) (o.h::rest) (by simp;omega) (ak7 (by simp;omega)) λb hb Du=>.mk (rest++[(b:Int)]) rfl ⟨by
   rw[<-azO];refine aBu.2 ⟨h1,by simp,λx hx y hy he=>?_⟩;obtain rfl:=ayU.1 hy;subst he;exact Du hx,by
   intro v hv;rw[<-azO]at hv;rcases ayS.1 hv with hv|hv
   .exact h2 v hv
   .obtain rfl:=ayU.1 hv;omega,by simp;omega⟩ (by simp;omega)
  have hz:((rest.length:Int)+1<(hs.length:Int)):=aj;simp[SE.den,hz,ao];simpa using hy
 .have hz:¬((rest.length:Int)+1<(hs.length:Int)):=aj;have s2:=aoZ (L:=o.h::rest) (a:=1) aw;have hy:=hy7 (GN (λ(rest:List Int)=>[iL (o.h::rest)]) (λrest=>(o.h::rest).Nodup/\pZ hs.length (o.h::rest)/\rest.length+1<=hs.length) (λrest=>hs.length- rest.length) rest) (iL (o.h::rest)) rest aj (λv hv=>h2 v (azg _ hv)) (hQ rest (ak8 (by rw[<-hm];exact h1) (by rw[<-hm];exact h2) aj));simp at s2;simp[SE.den,hz,ao,aL];exact⟨_,s2,⟨_,rfl⟩,hy⟩
end
def Zi(p:Pg)(o:Oc)(x:Pn):Prop:=x.o=o/\Fe p x=ab/\RM x/\x.aS.length<=3
def ai9(p:Pg)(o:Oc)(z:IV):Prop:=∃x,z=cB x/\Zi p o x
def abO(r:Rl)(h:oB r)(o:Oc)(order:List Int)(ho:order.length<=3):RM (pn r o order):=by
 have hk:=G5 (r.ax++r.az) order [o.h];have ht:=wT (r.ax++r.az) r.aG (o.h::order);have hg:=h.g;refine⟨?_,?_,?_,λl hl=>?_,λl hl=>?_⟩
 .show order.length<=_;omega
 .show(eQ _ _ _).length<=_;omega
 .show(f_ _ _ _).length<=_;rw[ht];simp;omega
 .have:=I1 h.hs _ _ l hl;unfold Sm;omega
 .have:=(R0 l hl).1;unfold Sm;omega
def aw9(p:Pg)(hp:m_ p)(hf:∀r∈p.aQ,mO r)(ks:List Ac)(hk:ks.length<=1000)(gY:∀k∈ks,k.ps.length<=100)(o:Oc)(hm:o∈occs p.aQ):
 ∃x,Zi p o x/\CC 114 af [bg p,eP ks,kg o] (cB x):=by
 suffices hs:abN.sat ayF CC (ai9 p o) [] [bg p,eP ks,kg o] by
  obtain⟨z,⟨x,rfl,hx⟩,hz⟩:=CC.Ix (args:=[bg p,eP ks,kg o]) apB kr (by rintro _ ⟨x,rfl,_⟩;exact kr) (by
   intro y hy;rcases ayW.1 hy with rfl|hy
   .exact du p
   .exact lC aw (IK o) _ hy) (by rintro _ ⟨x,rfl,_⟩;exact zp x) (by rfl) hs
  exact⟨x,hx,hz⟩
 have Hs:=k87 p hp;have Ey:=pW p.aQ hp.rs;have h86:=k86 (occs p.aQ) o (by have:=hp.r;omega);rw[decide_eq_true hm]at h86;obtain⟨i,m,r,h⟩:=sw.1 hm;obtain⟨ak,s8⟩:=ayH.1 h.ru;have dR:r∈p.aQ:=s8▸ayJ ak;have tn:=hp.rs r dR;have hR:=xY ak;rw[s8]at hR;have Dh:=h.or;have hR0:cb 6 (mN p.aQ) (iI o.r)=aa (.agg [iS r.name,dm r.ax,dm r.az,gO r.aG,gO r.bn,iI r.vars]):=by rw[Dh];exact hR
 have WE:=KV r (by have:=tn.h;omega)
 have hy:=λx0 x3 x4 x6=>apH (Q:=ai9 p o) (x0:=x0) (x3:=x3) (x4:=x4) (x6:=x6) r tn (hp.rn r dR) (hf r dR) ks hk gY o m h.oh h.lt λorder Hf=>by
  have hle:=Kf Hf;have A8:=tn.h;have Cj:=h.lt
  have yW:order.length<=3:=by
   have:=hle.2;rw[ayP]at this;omega
  refine⟨_,rfl,rfl,?_,abO r tn o order yW,yW⟩;rw[DD (x:=pn r o order) h];show(rB _ _ order&&decide (pn r o order=pn r o order))=ab;rw[Hf,decide_eq_true rfl];rfl
 have hP:bg p=.agg [gj p.bM,mN p.aQ]:=rfl;have hO:kg o=.agg [iI o.r,iI o.h,iB o.k]:=rfl;rw[cu]at*
 rw[hP,hO]at*
 generalize occs p.aQ=l at*
 generalize r.ax++r.az=hs at*
 have z1:¬(o.r<0):=aj;have z2:¬((p.aQ.length:Int)<=o.r):=aj;simp[abN,SE.den,ao];refine⟨_,Hs,?_⟩;simp;refine⟨_,h86,?_⟩;simp[z1,z2,hR0,ao];refine⟨by omega,by omega,_,WE,?_⟩;simp[aL];exact hy _ _ _ _
def k47(p:Pg)(hp:m_ p)(hf:∀r∈p.aQ,mO r):∃l:List Pn,(l.map Pn.o=occs p.aQ/\∀x∈l,Zi p x.o x)/\CC 47 af [bg p] (DI l):=by
 suffices hs:agP.sat ayF CC (λz=>∃l:List Pn,z=DI l/\l.map Pn.o=occs p.aQ/\∀x∈l,Zi p x.o x) [] [bg p] by
  obtain⟨z,⟨l,rfl,hl⟩,hz⟩:=CC.Ix (args:=[bg p]) asW kr (λ_ _=>kr) (dL (du p)) (by rintro _ ⟨l,rfl,_⟩;simp) (by rfl) hs;exact⟨l,hl,hz⟩
 obtain⟨ks,h1,h2,aw_⟩:=aw8 p hp;have Hs:=k87 p hp;have apI:=λo ho=>aw9 p hp hf ks aj h2 o ho;have Ey:=pW p.aQ hp.rs;have hr:=hp.r;generalize occs p.aQ=os at*
 have hP:bg p=.agg [gj p.bM,mN p.aQ]:=rfl;have hO:∀o,kg o=.agg [iI o.r,iI o.h,iB o.k]:=λ_=>rfl;rw[hP]at*
 simp only[hO]at apI;simp[agP,SE.den,ao];refine⟨_,aw_,?_⟩;simp;refine⟨_,Hs,?_⟩;simp;unfold aen;refine aB os.length (λi (l:List Pn)=>[iI i,DI l]) (λi l=>l.map Pn.o=os.take i/\∀x∈l,Zi p x.o x) [] ?_ aw λi l hi hI=>?_
 .simp[SE.den]
 obtain⟨NY,HW⟩:=hI
 have hlen:l.length=i:=by
  have:=congrArg azj NY;simp at this;omega
 by_cases ak:i<os.length
 .have hw:=aH ak aj;obtain⟨x,hx,hc⟩:=apI os[i] (ayJ ak);have je:=atj (a:=l) (x:=x) aj;have hN:cB x=.agg [iI x.o.r,iI x.o.h,iB x.o.k,iL x.aS,dC x.dU,dC x.dW]:=rfl;rw[hN]at hc je;generalize hz:DI (l++[x])=z at je;simp[SE.den,ak,hw,PM ak,ao];refine⟨_,hc,?_⟩;simp[ao,cellsOf,je]
  exact .mk (l++[x]) (by rw[hz];rfl) aj ⟨by rw[azQ,NY,ayN ak];simp[hx.1],λy hy=>by
   rcases ayS.1 hy with hy|hy
   .exact HW y hy
   .obtain rfl:=ayU.1 hy;rw[hx.1];exact hx⟩
 .simp[SE.den,ak];exact⟨l,rfl,by rw[NY,ayV aj],HW⟩
theorem Qn(a:Ac):∀(l:List Ac) (i:Nat),Ec a l i= -1/\a∉l\/∃j:Nat,Ec a l i=((i+j:Nat):Int)/\l[j]?=aa a
 |[],i=>.inl ⟨rfl,by simp⟩
 |x::l,i=>by
  rw[Ec];by_cases h:x=a
  .subst h;rw[if_pos rfl];exact .inr ⟨0,rfl,rfl⟩
  .rw[if_neg h];rcases Qn a l (i+1)with⟨h1,h2⟩|⟨j,h1,h2⟩
   .exact .inl ⟨h1,by simp[h2,Ne.symm h]⟩
   .exact .inr ⟨j+1,by rw[h1];congr 1;omega,by simpa using h2⟩
def ak9{l:List Ac}{a:Ac}(h:a∈l):∃j:Nat,tM l a=(j:Int)/\l[j]?=aa a:=by
 rcases Qn a l 0 with⟨_,h2⟩|⟨j,h1,h2⟩
 .exact absurd h h2
 .exact⟨j,by unfold tM;rw[h1,Nat.zero_add],h2⟩
def ak_{l:List Ac}{a:Ac}(h:¬tM l a<0):a∈l:=by
 rcases Qn a l 0 with⟨h1,_⟩|⟨j,_,h2⟩
 .unfold tM at h;omega
 .exact ayX h2
def WQ(hs:List At)(x:Pn)(k:Nat):Ac:=⟨(N3 hs x k).s,(N3 hs x k).ts.length,x.dU.getD k []⟩
def ahg(hs:List At)(acc:List Ac)(x:Pn)(k:Nat):DG hs acc x k=tM acc (WQ hs x k):=rfl
def w8(p:Pg)(x:Pn)(n:Nat)(acc:List Ac):Prop:=∀(i:Nat) (r:Rl),p.aQ[i]?=aa r->x.o.r=i->∀k<n,WQ (r.ax++r.az) x k∈acc
def w8.mono{p:Pg}{x:Pn}{n:Nat}{acc b:List Ac}(h:w8 p x n acc):w8 p x n (acc++b):=λi r h1 h2 k hk=>azw _ (h i r h1 h2 k hk)
def PlA(p:Pg)(P:Ac->Prop)(x:Pn):Prop:=x.aS.length<=3/\∀k<x.aS.length,∃i n r a ps,Part p x k i n r a ps/\ps.length<=8/\P ⟨a.s,a.ts.length,ps⟩
structure BX(P:Ac->Prop)(n:Nat)(acc:List Ac):Prop where
 l:acc.length<=n
 p:∀a∈acc,a.ps.length<=8/\P a
section
variable{Q:IV->Prop}{k0:List IV->Prop}{x1 x3:IV}
def aty(p:Pg)(hp:m_ p)(P:Ac->Prop)(x:Pn)(hx:PlA p P x)(i:Nat)(hi:i<300)(acc:List Ac)(hn:BX P (3*i) acc)
 (hk:∀b:List Ac,BX P (3*(i+1)) (acc++b)->w8 p x x.aS.length (acc++b)->k0 [iI (i+1:Nat),eP (acc++b)]):
 Wy.sat ayF CC Q [k0] [bg p,x1,iI i,eP acc,cB x]:=by
 obtain⟨ho,hpt⟩:=hx;have kI:=aH hi aj;have hP:bg p=.agg [gj p.bM,mN p.aQ]:=rfl;have hN:cB x=.agg [iI x.o.r,iI x.o.h,iB x.o.k,iL x.aS,dC x.dU,dC x.dW]:=rfl;rw[hP,hN];unfold Wy;refine aB x.aS.length (λk (b:List Ac)=>[iI k,eP (acc++b),iI x.o.r,iI x.o.h,iL x.aS]) (λk b=>BX P (3*i+k) (acc++b)/\w8 p x k (acc++b)) [] ?_ ⟨⟨by have:=hn.l;simp;omega,by simpa using hn.p⟩,λ_ _ _ _ k hk=>by omega⟩ λk b fp hI=>?_
 .simp[SE.den,ao]
 obtain⟨fZ,jE⟩:=hI;by_cases ak:k<x.aS.length
 rotate_left
 .have Dm:k=x.aS.length:=aj;subst Dm;simp[SE.den,ak,kI];exact hk b ⟨by have:=fZ.l;omega,fZ.p⟩ jE
 have hw:=aH ak aj;obtain⟨ri,n,r,a,ps,h,ou,hPa⟩:=hpt k ak;have PO:=agC hp h;have Cj:=fZ.l;have abj:=(aob (acc++b) a ps ⟨by omega,λa ha=>(fZ.p a ha).1⟩).Ke (EZ rfl)
 have hac:∀(i:Nat) (r:Rl),p.aQ[i]?=aa r->x.o.r=i->WQ (r.ax++r.az) x k=⟨a.s,a.ts.length,ps⟩:=λi' r' h1 h2=>by
  have he:i'=ri:=by have:=h.oc;omega
  subst he;obtain rfl:r'=r:=aAK (h1.symm.trans h.ru);have h1:=h.od;have h2:=h.hd;have h3:=h.kn
  have e1:N3 (r'.ax++r'.az) x k=a:=by
   unfold N3;rw[h1,Option.bind_some,show((n:Int)).toNat=n from rfl,h2];rfl
  have e2:x.dU.getD k []=ps:=by rw[azu,h3];rfl
  unfold WQ;rw[e1,e2]
 have hA:dN a=.agg [iS a.s,iT a.ts]:=rfl;have je:=aiZ (a:=acc++b) (k:=⟨a.s,a.ts.length,ps⟩) aj;simp only at je;rw[hP,hN,hA]at PO;rw[hA]at abj;generalize hz:eP (acc++b)=z at*
 simp[SE.den,ak,ao];refine⟨_,PO,?_⟩;simp[ao];refine⟨_,abj,?_⟩;simp;by_cases e:tM (acc++b) ⟨a.s,a.ts.length,ps⟩<0
 .left;refine⟨e,_,je,?_⟩;simp[hw];refine .mk (b++[⟨a.s,a.ts.length,ps⟩]) (by simp[SE.den]) aj ⟨⟨by simp at Cj⊢;omega,λc hc=>?_⟩,λi' r' h1 h2 k' c8=>?_⟩
  .rw[<-ay3]at hc;rcases ayS.1 hc with hc|hc
   .exact fZ.p c hc
   .obtain rfl:=ayU.1 hc;exact⟨ou,hPa⟩
  .rw[<-ay3];by_cases e2:k'=k
   .subst e2;rw[hac i' r' h1 h2];simp
   .exact azw _ (jE i' r' h1 h2 k' aj)
 .right;refine⟨by omega,?_⟩;simp[hw];refine .mk b (by rw[hz];rfl) aj ⟨⟨by omega,fZ.p⟩,λi' r' h1 h2 k' c8=>?_⟩;by_cases e2:k'=k
  .subst e2;rw[hac i' r' h1 h2];exact ak_ e
  .exact jE i' r' h1 h2 k' aj
end
def ai_(p:Pg)(P:Ac->Prop)(l:List Pn)(z:IV):Prop:=∃acc,z=eP acc/\BX P (3*l.length) acc/\∀x∈l,w8 p x x.aS.length acc
def k48(p:Pg)(hp:m_ p)(P:Ac->Prop)(l:List Pn)(hl:l.length<=100)(hx:∀x∈l,PlA p P x):
 ∃acc,BX P (3*l.length) acc/\(∀x∈l,w8 p x x.aS.length acc)/\CC 48 af [bg p,DI l] (eP acc):=by
 suffices hs:agQ.sat ayF CC (ai_ p P l) [] [bg p,DI l] by
  obtain⟨z,⟨acc,rfl,h1,h2⟩,hz⟩:=CC.Ix (args:=[bg p,DI l]) asX kr (λ_ _=>kr) (lC (du p) aw) (by rintro _ ⟨ks,rfl,_⟩;simp) (by rfl) hs;exact⟨acc,h1,h2,hz⟩
 have hy:=λQ k0 x hx i hi acc hn hk=>aty (Q:=Q) (k0:=k0) (x1:=DI l) p hp P x hx i hi acc hn hk;have hP:bg p=.agg [gj p.bM,mN p.aQ]:=rfl;rw[hP]at*
 simp[agQ,SE.den,ao];unfold aeo;refine aB l.length (λi (acc:List Ac)=>[iI i,eP acc]) (λi acc=>BX P (3*i) acc/\∀x∈l.take i,w8 p x x.aS.length acc) [] ?_ ⟨⟨by simp,by intro a ha;cases ha⟩,by simp⟩ λi acc hi hI=>?_
 .simp[SE.den]
 obtain⟨fZ,jE⟩:=hI;by_cases ak:i<l.length
 .have kY:=hx _ (ayJ ak)
  have hy:=hy (ai_ p P l) (qp l.length (λi (acc:List Ac)=>[iI i,eP acc]) (λi acc=>BX P (3*i) acc/\∀x∈l.take i,w8 p x x.aS.length acc) i) l[i] kY i aj acc fZ λb cd dw=>.mk (acc++b) rfl aj ⟨cd,λx hx=>by
   rw[ayN ak]at hx;rcases ayS.1 hx with hx|hx
   .exact(jE x hx).mono
   .obtain rfl:=ayU.1 hx;exact dw⟩
  have hN:∀x,cB x=.agg [iI x.o.r,iI x.o.h,iB x.o.k,iL x.aS,dC x.dU,dC x.dW]:=λ_=>rfl;rw[hN]at hy;simp[SE.den,ak,ao0 ak,hN,ao];exact hy
 .rw[ayV aj]at jE;have zT:i=l.length:=aj;subst zT;simp[SE.den,ak];exact⟨acc,rfl,fZ,jE⟩
def rG(hs:List At)(s:List UInt8)(n:Int)(o:Oc):Bool:=match hs[o.h.toNat]? with
 |some a=>a.s==s&&(a.ts.length:Int)==n
 |none=>af
def Oa(s:List UInt8)(n:Int)(i:Nat)(r:Rl):List Oc:=(wR i r).filter (rG (r.ax++r.az) s n)
def jZ(s:List UInt8)(n:Int)(l:List Rl):List Oc:=l.zipIdx.flatMap λq=>Oa s n q.2 q.1
def ahh(s:List UInt8)(n:Int)(l:List Rl)(r:Rl):jZ s n (l++[r])=jZ s n l++Oa s n l.length r:=by simp[jZ,List.zipIdx_append]
def ahi{s:List UInt8}{n:Int}{l:List Rl}{i:Nat}(h:i<l.length):jZ s n (l.take (i+1))=jZ s n (l.take i)++Oa s n i l[i]:=by
 rw[ayN h,ahh,azS,Nat.min_eq_left aj]
def yf(s:List UInt8)(n:Int)(l:List Rl)(h:∀r∈l,oB r):(jZ s n l).length<=3*l.length:=by
 refine ay6 ?_ (pW l h);unfold jZ occs;rw[aCO,aCO];generalize l.zipIdx=z;induction z with
 |nil=>simp
 |cons q z ih=>
  have:=aBD (rG (q.1.ax++q.1.az) s n) (wR q.2 q.1);simp only[azr,aBr];unfold Oa;unfold Oa at ih;omega
def Qo{p:Pg}{s:List UInt8}{n:Int}{o:Oc}:o∈jZ s n p.aQ↔∃i m r a,Ef p o i m r/\(r.ax++r.az)[m]?=aa a/\a.s=s/\(a.ts.length:Int)=n:=by
 unfold jZ Oa;rw[az1];constructor
 .rintro⟨⟨r,i⟩,h1,h2⟩;rw[azB]at h2;rw[aAG]at h1;obtain⟨m,hm,rfl⟩:=BQ.1 h2.1;have hk:=h2.2;simp only[rG]at hk;split at hk
  .rename_i a ha;simp at hk;exact⟨i,m,r,a,⟨h1,rfl,rfl,by simpa using hm,rfl⟩,by simpa using ha,hk⟩
  .cases hk
 .rintro⟨i,m,r,a,h,ha,h1,h2⟩;refine⟨(r,i),by rw[aAG];exact h.ru,azB.2 ⟨BQ.2 ⟨m,by simpa using h.lt,?_⟩,?_⟩⟩
  .obtain⟨a,b,c⟩:=o;have:=h.or;have:=h.oh;have:=h.ok
   simp_all
  .simp only[rG,h.oh,aAM,ha];simp[h1,h2]
def ahj{p:Pg}{s:List UInt8}{n:Int}{o:Oc}(h:o∈jZ s n p.aQ):o∈occs p.aQ:=by
 obtain⟨i,m,r,a,h,_⟩:=Qo.1 h;exact sw.2 ⟨i,m,r,h⟩
section
variable{Q:IV->Prop}{k0:List IV->Prop}{x0:IV}
def atz(s:List UInt8)(n:Int)(i:Nat)(r:Rl)(acc:List Oc)(hi:i<1000)(IM:acc.length<=500)(hr:r.ax.length+r.az.length<=3)(ef:∀a∈r.ax++r.az,a.ts.length<=8)(hk:k0 [iI (i+1:Nat),ju (acc++Oa s n i r)]):
 WA.sat ayF CC Q [k0] [x0,iS s,iI n,iI i,ju acc,cN r,dm (r.ax++r.az)]:=by
 obtain⟨rn,rk,rr,rg,rb,rv⟩:=r;unfold Oa wR at hk;simp only[cN]at*
 rw[<-ayP]at hr hk;generalize V8:rk++rr=hs at hr hk ef⊢;generalize hn:hs.length=q at hr hk;unfold WA;refine iv (λ(m:Nat)=>[iI ((m:Int) - 1),ju (acc++((pf i rk.length q).take (q- m)).filter (rG hs s n)),iS rn]) (λm=>m<=q) (λm=>m) q ?_ (ayL _) λm hm=>?_
 .simp[SE.den,hn,GY (show q<=1000 by omega),ao]
 cases m with
 |zero=>
  have hw:=aH hi aj;simp[SE.den,hw,ao];rw[ayV aw];exact hk
 |succ m=>
  have hw:azc.wrap ((m:Int) - 1)=(m:Int) - 1:=GY aj;have ak:m<hs.length:=aj;have hfl:(((pf i rk.length q).take (q-(m+1))).filter (rG hs s n)).length<=3:=ay6 (aBD ..) (by simp;omega);have hc:cX 3 24 (ju (acc++((pf i rk.length q).take (q-(m+1))).filter (rG hs s n))) (.tree 3 [.agg [iI i,iI m,iB (decide (m<rk.length))]])=aa (ju (acc++((pf i rk.length q).take (q-(m+1))).filter (rG hs s n)++[⟨i,(m:Int),decide (m<rk.length)⟩])):=SY (b:=[⟨i,(m:Int),decide (m<rk.length)⟩]) (by simp;omega);have bL:=IL (i:=i) (kl:=rk.length) (n:=q) (m:=m) aj;rw[show q-(m+1)+1=q- m by omega]at bL
  have k_:rG hs s n ⟨i,(m:Int),decide (m<rk.length)⟩=(hs[m].s==s&&(hs[m].ts.length:Int)==n):=by
   simp only[rG,aAM,ayG ak]
  have xc:((m+1:Nat):Int) - 1=(m:Int):=aj;simp only[xc];generalize hF:((pf i rk.length q).take (q-(m+1))).filter (rG hs s n)=F at*
  simp[SE.den,ao,aL,cellsOf,hc,hw,pe ak];by_cases e1:hs[m].s=s
  rotate_left
  .right;refine⟨e1,.mk m ?_ aj aj⟩;rw[bL,aAZ,hF,aCt (by rw[k_];simp[e1])];simp
  left;refine⟨e1,?_⟩;by_cases e2:(hs[m].ts.length:Int)=n
  rotate_left
  .right;refine⟨e2,.mk m ?_ aj aj⟩;rw[bL,aAZ,hF,aCt (by rw[k_];simp[e2])];simp
  left;refine⟨e2,.mk m ?_ aj aj⟩;rw[bL,aAZ,hF,List.filter_cons_of_pos (by rw[k_];simp[e1,e2])];simp
end
def k51(p:Pg)(h:m_ p)(s:List UInt8)(n:Int):CC 51 af [bg p,iS s,iI n] (ju (jZ s n p.aQ)):=by
 refine CC.of as0 kr kr (by
  intro y hy;rcases ayW.1 hy with rfl|hy
  .exact du p
  .exact lC aw aw _ hy) aw ?_
 obtain⟨ds,rs⟩:=p;have hr:=h.r;have hs:=h.rs;simp only at hr hs⊢;simp[aov,bg,SE.den,ao];unfold aer;refine aB rs.length (λi (acc:List Oc)=>[iI i,ju acc]) (λi acc=>acc=jZ s n (rs.take i)) [] ?_ (by simp[jZ]) λi acc hi hI=>?_
 .simp[SE.den]
 by_cases ak:i<rs.length
 .have RL:=hs _ (ayJ ak);have hl:=yf s n (rs.take i) λr hr=>hs r (azM hr);rw[<-hI]at hl;simp only[azS]at hl;have Aa:=KV rs[i] (by have:=RL.h;omega);rw[cu]at Aa;have hh:=RL.h;have hwd:azc.wrap ((rs[i].ax.length:Int)+rs[i].az.length- 1)=(rs[i].ax.length:Int)+rs[i].az.length- 1:=eN aj aj;simp[SE.den,ak,xY ak,ao];refine⟨_,Aa,?_⟩;simp[hwd];refine atz s n i rs[i] acc aj aj RL.h RL.hs ?_;exact .mk _ rfl aj (by rw[ahi ak,<-hI])
 .simp[SE.den,ak];rw[hI,ayV aj]
def Mn(q:Oc×Rl):IV:=.agg [iI q.1.r,iI q.1.h,iB q.1.k,iS q.2.name,dm q.2.ax,dm q.2.az,gO q.2.aG,gO q.2.bn,iI q.2.vars]
abbrev WR(l:List (Oc×Rl)):IV:=.tree 9 (l.map Mn)
@[simp] theorem axa(l:List (Oc×Rl)):Pure (WR l):=jD 9 Mn (λa=>⟨_,rfl,by simp⟩) l
def apJ{l:List (Oc×Rl)}{i:Nat}(h:i<l.length):cb 9 (WR l) (iI (i:Nat))=aa (.agg [iI l[i].1.r,iI l[i].1.h,iB l[i].1.k,iS l[i].2.name,dm l[i].2.ax,dm l[i].2.az,gO l[i].2.aG,gO l[i].2.bn,iI l[i].2.vars]):=cM (by simp[h,Mn]) rfl
def atA{a:List (Oc×Rl)}{q:Oc×Rl}(h:a.length<=1000):cX 9 144 (WR a) (.tree 9 [.agg [iI q.1.r,iI q.1.h,iB q.1.k,iS q.2.name,dm q.2.ax,dm q.2.az,gO q.2.aG,gO q.2.bn,iI q.2.vars]])=aa (WR (a++[q])):=by
 have h2:fM 9 [.agg [iI q.1.r,iI q.1.h,iB q.1.k,iS q.2.name,dm q.2.ax,dm q.2.az,gO q.2.aG,gO q.2.bn,iI q.2.vars]]=ab:=rfl;simp[cX,h2,Mn];omega
def ahk(p:Pg)(L:List (Oc×Rl)):Prop:=∀q∈L,q.2∈p.aQ
def apM(p:Pg)(s:List UInt8)(n:Int)(z:IV):Prop:=∃L:List (Oc×Rl),z=WR L/\L.map azU=jZ s n p.aQ/\ahk p L
def apO(p:Pg)(h:m_ p)(s:List UInt8)(n:Int):∃L:List (Oc×Rl),L.map azU=jZ s n p.aQ/\ahk p L/\CC 117 af [bg p,iS s,iI n] (WR L):=by
 suffices hs:abw.sat ayF CC (apM p s n) [] [bg p,iS s,iI n] by
  obtain⟨z,⟨L,rfl,h1,h2⟩,hz⟩:=CC.Ix (args:=[bg p,iS s,iI n]) aou kr (λ_ _=>kr) (by
   intro y hy;rcases ayW.1 hy with rfl|hy
   .exact du p
   .exact lC aw aw _ hy) (by rintro _ ⟨ks,rfl,_⟩;simp) (by rfl) hs
  exact⟨L,h1,h2,hz⟩
 have h51:=k51 p h s n;have hl:=yf s n p.aQ h.rs;have hr:=h.r
 have hm:∀o∈jZ s n p.aQ,∃(i:Nat) (hi:i<p.aQ.length),o.r=(i:Int):=λo ho=>by
  obtain⟨i,m,r,a,h,_⟩:=Qo.1 ho;exact⟨i,(ayH.1 h.ru).1,h.or⟩
 unfold apM;have hP:bg p=.agg [gj p.bM,mN p.aQ]:=rfl;rw[hP]at*
 generalize jZ s n p.aQ=os at*
 simp[abw,SE.den,ao];refine⟨_,h51,?_⟩;simp;unfold Y0;refine aB os.length (λi (L:List (Oc×Rl))=>[iI i,WR L]) (λi L=>L.map azU=os.take i/\ahk p L) [] ?_ ⟨by simp,by intro q hq;cases hq⟩ λi L hi hI=>?_
 .simp[SE.den]
 obtain⟨fZ,jE⟩:=hI
 have hLl:L.length=i:=by
  have:=congrArg azj fZ;simp at this;omega
 by_cases ak:i<os.length
 .have hw:=aH ak aj;obtain⟨j,hj,Dh⟩:=hm _ (ayJ ak);have hR:=xY hj;rw[<-Dh]at hR;have hc:=atA (a:=L) (q:=(os[i],p.aQ[j])) aj;simp only at hc;simp[SE.den,ak,hw,PM ak,hR,ao,cellsOf];refine⟨_,hc,.mk (L++[(os[i],p.aQ[j])]) rfl aj ⟨by simp[fZ],λq hq=>?_⟩⟩;rcases ayS.1 hq with hq|hq
  .exact jE q hq
  .obtain rfl:=ayU.1 hq;exact ayJ hj
 .rw[ayV aj]at fZ;simp[SE.den,ak];exact⟨L,rfl,fZ,jE⟩
end
theorem aeC:∀(a b:List Int),a.Nodup->(∀v∈a,v∈b)->b.length=a.length->b.Nodup
 |[],b,_,_,hl=>by rw[List.eq_nil_of_length_eq_zero hl];simp
 |x::a,b,hn,hs,hl=>by
  obtain⟨b1,b2,rfl⟩:=aCY (hs x aw);have oW:=azP.1 hn
  have bu:∀u∈a,u∈b1++b2:=λu hu=>by
   have:=hs u (azg _ hu);rw[ayS,ayW]at this;rw[ayS];rcases this with h|rfl|h
   .exact .inl h
   .exact absurd hu oW.1
   .exact .inr h
  have cJ:(b1++b2).length=a.length:=by simp at hl⊢;omega
  have ih:=aeC a (b1++b2) oW.2 bu cJ;have hx:x∉b1++b2:=λhx=>oW.1 (Fc a (b1++b2) oW.2 bu cJ x hx);rw[aBu]at ih⊢;rw[ayS]at hx;refine⟨ih.1,azP.2 ⟨λh=>hx (.inr h),ih.2.1⟩,λu hu v hv he=>?_⟩;rcases ayW.1 hv with rfl|hv
  .exact hx (.inl (he▸hu))
  .exact ih.2.2 u hu v hv he
def ahl{n m:Nat}{order:List Int}(hm:m<n)(h:rB n m order=ab):((m:Int)::order).Nodup/\order.length+1=n/\pZ n ((m:Int)::order)/\∀v:Int,0<=v->v<n->v=m\/v∈order:=by
 have bf:=(Kf h).1;unfold rB at h;rw[ayI,decide_eq_true_eq,decide_eq_true_eq]at h;obtain⟨h1,h2⟩:=h;have jA:=aeC _ _ (qD n m) h2 h1.symm
 have dR:∀v,v∈order↔(0<=v/\v<n)/\v≠m:=λv=>by
  rw[<-sx];exact⟨λhv=>Fc _ _ (qD n m) h2 h1.symm v hv,h2 v⟩
 have apP:((m:Int)::order).Nodup:=azP.2 ⟨λhx=>((dR _).1 hx).2 rfl,jA⟩
 have bX:∀v:Int,0<=v->v<n->v=m\/v∈order:=λv h0 hl=>by
  by_cases e:v=m
  .exact .inl e
  .exact .inr ((dR v).2 ⟨⟨h0,hl⟩,e⟩)
 have apQ:pZ n ((m:Int)::order):=λv hv=>by
  rcases ayW.1 hv with rfl|hv
  .omega
  .exact bf v hv
 have l1:=Fh _ (jQ n) apP λv hv=>by
  rw[qC];exact apQ v hv
 have l2:=Fh (jQ n) ((m:Int)::order) (DC n) λv hv=>by
  rw[qC]at hv;rcases bX v hv.1 hv.2 with h|h
  .simp[h]
  .simp[h]
 rw[pj]at l1 l2;simp at l1 l2;exact⟨apP,by omega,apQ,bX⟩
theorem Zj(vs:List Int):∀(ts:List Tm) (i:Nat),(su vs ts i).Pairwise (·<·)/\∀v∈su vs ts i,(i:Int)<=v/\v<i+ts.length
 |[],_=>by simp[su]
 |t::ts,i=>by
  obtain⟨h1,h2⟩:=Zj vs ts (i+1)
  have xh:∀v∈su vs ts (i+1),(i:Int)<v/\v<i+(t::ts).length:=λv hv=>by
   have:=h2 v hv;simp;omega
  rw[su];unfold YX;split
  .refine⟨List.pairwise_append.2 ⟨by simp,h1,λa ha b hb=>?_⟩,λv hv=>?_⟩
   .obtain rfl:=ayU.1 ha;exact(xh b hb).1
   .rcases ayS.1 hv with hv|hv
    .obtain rfl:=ayU.1 hv;simp;omega
    .have:=xh v hv;omega
  .exact⟨by simpa using h1,λv hv=>by have:=xh v (by simpa using hv);omega⟩
theorem R5(hs:List At):∀(vs done:List Int) (k:Nat) (ps:List Int),(eQ hs done vs)[k]?=aa ps->∃v d,vs[k]?=aa v/\ps=qt hs d (kU hs v)
 |[],_,k,_,h=>by simp[eQ]at h
 |v::vs,done,0,ps,h=>by
  rw[eQ]at h;simp at h;exact⟨v,done,rfl,h.symm⟩
 |v::vs,done,k+1,ps,h=>by
  rw[eQ]at h;exact R5 hs vs _ k ps (by simpa using h)
theorem Je{ts:List Tm}:∀{ps:List Int},(∀v∈ps,0<=v/\v<ts.length)->(oi ts ps).length=ps.length
 |[],_=>rfl
 |v::ps,h=>by
  have ih:=Je (ps:=ps) λu hu=>h u (azg _ hu);obtain⟨h0,h1⟩:=h v aw
  have e:Ed ts v=[ts[v.toNat]]:=by
   unfold Ed;rw[if_pos h0,ayG aj]
  unfold oi at*
  rw[aAa,e,ayP,ih];simp;omega
def Zk{hs:List At}{n:Nat}{a:At}(h:hs[n]?=aa a):kU hs n=a.ts:=by
 unfold kU;rw[if_pos aj,show((n:Int)).toNat=n from rfl,h]
theorem p_{h:Int}{kn:List Int}:∀{ts:List Tm} {i:Nat} {x:In},x∈dT h kn ts i->∃(j:Nat) (t:Tm),t∈ts/\i<=j/\j<i+ts.length/\x=⟨1,h,(j:Int),dZ,[t]⟩
 |[],_,_,hx=>by simp[dT]at hx
 |t::ts,i,x,hx=>by
  rw[dT]at hx;rcases ayS.1 hx with hx|hx
  .split at hx
   .cases hx
   .obtain rfl:=ayU.1 hx;exact⟨i,t,by simp,by omega,by simp,rfl⟩
  .obtain⟨j,u,h1,h2,h3,rfl⟩:=p_ hx;exact⟨j,u,by simp[h1],by omega,by simp;omega,rfl⟩
def aeD{gs:List Gl}{l:List Int}(hl:wX gs.length l){x:In}(hx:x∈dV gs l):∃g∈gs,x=⟨2,0,0,g,[]⟩:=by
 obtain⟨v,hv,rfl⟩:=ay8.1 hx;obtain⟨h0,h1⟩:=hl v hv;have ak:v.toNat<gs.length:=aj;exact⟨gs[v.toNat],ayJ ak,by rw[ayG ak];rfl⟩
def Od{hs:List At}{n:Int}{a:At}{es:List Int}{x:In}(hx:x∈ik hs n a es):∃e∈es,x=⟨4,n,e,dZ,[]⟩:=by
 obtain⟨e,he,hx⟩:=az1.1 hx;unfold nN at hx;split at hx
 .split at hx
  .obtain rfl:=ayU.1 hx;exact⟨e,he,rfl⟩
  .cases hx
 .cases hx
def ala(l:List Int):(BJ l).length<=l.length:=by
 unfold BJ
 have key:∀(l acc:List Int),(l.foldl (λacc x=>if x∈acc then acc else acc++[x]) acc).length<=acc.length+l.length:=by
  intro l;induction l with
  |nil=>intro acc;simp
  |cons x l ih=>
   intro acc;rw[List.foldl_cons];refine ay6 (ih _) ?_;split<;>simp<;>omega
 have:=key l [];simpa using this
def Zl(l:List Tm)(h:∀t∈l,(gJ t).length<=jW t):(eT l).length<=cV l:=by
 induction l with
 |nil=>simp[eT]
 |cons t l ih=>
  have h1:=h t aw;have h2:=ih λu hu=>h u (by simp[hu]);unfold eT at*
  simp[cV]at*;omega
theorem Zm:∀t:Tm,(gJ t).length<=jW t
 |.mk k n s ts=>by
  have h:=Zl (bZ (.mk k n s ts)) λu hu=>Zm u;by_cases e:k=1
  .subst e;have:=YI (.mk 1 n s ts);simp[gJ];omega
  .rw[RH (by simpa[Tm.k]using e),tY];omega
 decreasing_by have:=sc hu;simp[Tm.ts]at this;have:=List.sizeOf_lt_of_mem this;simp;omega
theorem Jf{α:Type}(f:α->List Tm)(b:Nat):∀(l:List α),(∀a∈l,cV (f a)<=b)->cV (l.map f).flatten<=b*l.length
 |[],_=>by simp[cV]
 |a::l,h=>by
  have h1:=h a aw;have h2:=Jf f b l λu hu=>h u (by simp[hu]);rw[azr,List.flatten_cons,yM,azh,Nat.mul_add];omega
section
structure Pl(p:Pg)(x:Pn)(i m:Nat)(r:Rl):Prop where
 sp:m_ p
 ok:DA p
 oc:Ef p x.o i m r
 rt:Fe p x=ab
section
variable{p:Pg}{x:Pn}{i m:Nat}{r:Rl}
def Pl.mem(h:Pl p x i m r):r∈p.aQ:=ayX h.oc.ru
def Pl.Hw(h:Pl p x i m r):Ad p.bM r:=h.ok.r r h.mem
def Pl.sm(h:Pl p x i m r):oB r:=h.sp.rs r h.mem
def Pl.nm(h:Pl p x i m r):rA r:=h.sp.rn r h.mem
theorem Pl.len(h:Pl p x i m r):(r.ax++r.az).length<=3:=by rw[ayP];exact h.sm.h
def Pl.right(h:Pl p x i m r):rB (r.ax++r.az).length m x.aS=ab/\x=pn r x.o x.aS:=by
 have:=h.rt;rw[DD h.oc,ayI,decide_eq_true_eq]at this;exact this
def Pl.all(h:Pl p x i m r):(x.o.h::x.aS).Nodup/\x.aS.length+1=(r.ax++r.az).length/\pZ (r.ax++r.az).length (x.o.h::x.aS)/\∀v:Int,0<=v->v<(r.ax++r.az).length->v=x.o.h\/v∈x.aS:=by
 rw[h.oc.oh];exact ahl h.oc.lt h.right.1
theorem Pl.dU(h:Pl p x i m r):x.dU=eQ (r.ax++r.az) [x.o.h] x.aS:=congrArg Pn.dU h.right.2
def Pl.abP(h:Pl p x i m r):Good p x i m r:=Y7 h.sp h.oc h.rt
def Pl.head(h:Pl p x i m r):∃a,(r.ax++r.az)[m]?=aa a/\kU (r.ax++r.az) x.o.h=a.ts:=by
 have he:=ayG h.oc.lt;exact⟨_,he,by rw[h.oc.oh];exact Zk he⟩
def Pl.at_(h:Pl p x i m r){k:Nat}(hk:k<x.aS.length):∃n a ps te,Kg p x k i n r a ps te/\n<(r.ax++r.az).length/\ps.Pairwise (·<·)/\(∀v∈ps,0<=v/\v<a.ts.length)/\ps.length<=a.ts.length/\a.ts.length<=8/\te.length<=6:=by
 obtain⟨n,a,ps,te,hp,ha,ht⟩:=h.abP.part k hk;have yR:=hp.h.kn;rw[h.dU]at yR;obtain⟨v,d,hv,rfl⟩:=R5 _ _ _ _ _ yR;obtain rfl:v=(n:Int):=aAK (hv.symm.trans hp.h.od);rw[Zk hp.h.hd]at hp;obtain⟨h1,h2⟩:=Zj (varsOf (m5 (r.ax++r.az) d)) a.ts 0;refine⟨n,a,_,te,hp,(ayH.1 hp.h.hd).1,h1,λv hv=>?_,G8 _ _ _,ha,ht⟩;have:=h2 v hv;omega
def Pl.axb(h:Pl p x i m r){a:At}(ha:a∈r.ax++r.az){ps:List Int}(h1:ps.Pairwise (·<·))(h2:∀v∈ps,0<=v/\v<a.ts.length):BW ⟨a.s,a.ts.length,ps⟩:=by
 have hr:=h.Hw.hs a ha;simp only[kR,ayI,decide_eq_true_eq]at hr;exact⟨hr.1.1,⟨by simp only;omega,by simp only;omega⟩,h1,h2⟩
def Pl.plA(h:Pl p x i m r):PlA p BW x:=by
 refine⟨by have:=h.all.2.1;have:=h.len;omega,λk hk=>?_⟩;obtain⟨n,a,ps,te,hp,_,h1,h2,h3,h4,_⟩:=h.at_ hk;exact⟨i,n,r,a,ps,hp.h,by omega,h.axb (ayX hp.h.hd) h1 h2⟩
variable{acc:List Ac}
def Pl.pick(h:Pl p x i m r)(hc:w8 p x x.aS.length acc){k:Nat}(hk:k<x.aS.length):∃j:Nat,DG (r.ax++r.az) acc x k=j/\acc[j]?=aa (WQ (r.ax++r.az) x k):=by
 rw[ahg];exact ak9 (hc i r h.oc.ru h.oc.or k hk)
def Pl.axc(h:Pl p x i m r)(hc:w8 p x x.aS.length acc):∀k<x.aS.length,0<=DG (r.ax++r.az) acc x k:=λk hk=>by
 obtain⟨j,hj,_⟩:=h.pick hc hk;omega
theorem R6{hs:List At}{gs:List Gl}{base:List In}{a:In}:∀{k:Nat},a∈iz hs gs acc x base k->a∈base\/∃j,j<k/\a∈DH hs gs acc x j
 |0,h=>.inl h
 |k+1,h=>by
  rw[iz]at h;rcases ayS.1 h with h|h
  .rcases R6 h with h|⟨j,h1,h2⟩
   .exact .inl h
   .exact .inr ⟨j,by omega,h2⟩
  .exact .inr ⟨k,by omega,h⟩
def Pl.code(h:Pl p x i m r)(hc:w8 p x x.aS.length acc){P:In->Prop}
 (hmt:∀(n:Nat) (a:At) (j:Nat) (t:Tm),(r.ax++r.az)[n]?=aa a->t∈a.ts->j<a.ts.length->P ⟨1,n,j,dZ,[t]⟩)
 (xo:∀g∈r.aG,P ⟨2,0,0,g,[]⟩)
 (hfd:∀(n:Nat) (a:At) (j:Nat) (ts:List Tm),(r.ax++r.az)[n]?=aa a->(∀t∈ts,t∈a.ts)->ts.length<=a.ts.length->P ⟨3,n,j,dZ,ts⟩)
 (hap:∀(n e:Int),0<=n->n<(r.ax++r.az).length->0<=e->e<(r.ax++r.az).length->n≠e->P ⟨4,n,e,dZ,[]⟩)
 (qc:P (po x.o.r (r.ax++r.az).length))(Bj:∀n:Nat,n<(r.ax++r.az).length->P (wY n))(gY:P yN)(bV:P (uB x.o.r (r.ax++r.az).length))(hpu:∀g∈r.bn,P (N2 g))(hcm:P (Eg x.o.r r.vars)):
 ∀a∈oS r acc x,P a:=by
 intro y hy;obtain⟨jA,hl,apR,bX⟩:=h.all;obtain⟨a0,ha0,Ng⟩:=h.head;obtain⟨t0,t1,e0,e1,_,_,to0,to1⟩:=h.abP.t
 have ahm:∀l,wX r.aG.length l->∀y∈dV r.aG l,P y:=λl hl y hy=>by
  obtain⟨g,hg,rfl⟩:=aeD hl hy;exact xo g hg
 unfold oS oR at hy;rcases ayS.1 hy with hy|hy
 rotate_left
 .obtain rfl:=ayU.1 hy;exact hcm
 rcases ayS.1 hy with hy|hy
 rotate_left
 .unfold p6 at hy;rw[aB9,ay8]at hy;obtain⟨g,hg,rfl⟩:=hy;exact hpu g hg
 rcases ayS.1 hy with hy|hy
 rotate_left
 .unfold sW at hy;split at hy
  .obtain rfl:=ayU.1 hy;exact bV
  .cases hy
 rcases ayS.1 hy with hy|hy
 rotate_left
 .unfold sV at hy;split at hy
  .obtain rfl:=ayU.1 hy;exact gY
  .cases hy
 rcases ayS.1 hy with hy|hy
 rotate_left
 .unfold oj at hy;obtain⟨j,hj,rfl⟩:=ay8.1 hy;rw[List.mem_range]at hj;exact Bj _ aj
 have hy:y∈iz (r.ax++r.az) r.aG acc x (m6 r x) x.aS.length\/y=po x.o.r (r.ax++r.az).length:=by
  unfold wZ at hy;split at hy
  .rcases ayS.1 hy with hy|hy
   .exact .inl hy
   .exact .inr (ayU.1 hy)
  .exact .inl hy
 rcases hy with hy|rfl
 rotate_left
 .exact qc
 rcases R6 hy with hy|⟨k,hk,hy⟩
 .unfold m6 at hy;rw[azu,azu,e0,e1]at hy;rcases ayS.1 hy with hy|hy
  .rcases ayS.1 hy with hy|hy
   .obtain⟨j,t,h1,_,h3,rfl⟩:=p_ hy;rw[Ng]at h1 h3;rw[h.oc.oh];exact hmt m a0 j t ha0 h1 aj
   .exact ahm _ to0 y hy
  .exact ahm _ to1 y hy
 .obtain⟨n,a,ps,te,hp,hn,h1,h2,h3,h4,h5⟩:=h.at_ hk;rw[zr hp acc]at hy;unfold sU at hy;have hod:=hp.h.od;obtain⟨fp,bf⟩:=ayH.1 hod;rcases ayW.1 hy with rfl|hy
  .obtain⟨j,hj,_⟩:=h.pick hc hk;rw[IZ hp acc]at hj;rw[hj];exact hfd n a j _ hp.h.hd (λt ht=>ag8 ht) (by rw[Je h2];exact h3)
  rcases ayS.1 hy with hy|hy
  .rcases ayS.1 hy with hy|hy
   .obtain⟨e,he,rfl⟩:=Od hy
    have XX:e∈x.o.h::x.aS:=by
     rcases ayW.1 he with rfl|he
     .simp
     .exact azg _ (azM he)
    obtain⟨e1,e2⟩:=apR e XX;refine hap n e aj aj e1 e2 λbA=>?_;subst bA;rw[azP]at jA;rcases ayW.1 he with he|he
    .exact jA.1 (he▸bf▸ayJ fp)
    .obtain⟨q,hq,hqe⟩:=aBm.1 he;have TS:=aAd.1 jA.2 q k aj fp aj;exact TS (hqe.trans bf.symm)
   .obtain⟨j,t,g1,_,g3,rfl⟩:=p_ hy;exact hmt n a j t hp.h.hd g1 aj
  .exact ahm _ hp.tv y hy
def aeE{l:List Tm}(h:jt l=ab):∀t∈l,jX t=ab:=λt ht=>by
 simp only[jt,jX,ayI,decide_eq_true_eq,List.all_eq_true]at*
 have h1:=GR ht;have h2:=LY ht;exact⟨⟨h.1.1 t ht,by omega⟩,by omega⟩
def DL{a:At}(h:kR a=ab):a.ts.length<=6/\cV a.ts<=200/\∀t∈a.ts,jX t=ab:=by
 have h':=h;simp only[kR,ayI,decide_eq_true_eq]at h';have h2:=h'.2;simp only[jt,ayI,decide_eq_true_eq]at h2;exact⟨h'.1.2,h2.1.2,aeE h'.2⟩
def R7{g:Gl}(h:eF g=ab):cV g.ts<=200/\(g.op≠0->jV g.op=g.ts.length):=by
 unfold eF at h;split at h
 .rename_i h0;exact⟨(DL h).2.1,λh1=>absurd h0 h1⟩
 .simp only[ayI,decide_eq_true_eq,jt]at h;exact⟨h.2.1.2,λ_=>h.1.2⟩
def alb{g:Gl}(h:eF g=ab)(hb:uW g.op=af):g.op<=4:=by
 by_cases h0:g.op=0
 .omega
 have h1:=(R7 h).2 h0;unfold jV at h1;simp only[uW,Bool.and_eq_false_iff,decide_eq_false_iff_not]at hb;apply azs;intro h5;have h13:12<g.op:=aj;rw[if_neg aj,if_neg aj,if_neg aj]at h1;omega
theorem Pl.vars(h:Pl p x i m r):0<=r.vars/\r.vars<=1048576:=by
 have hv:=h.Hw.v.2;have h1:(varsOf (pY r)).length<=(eT (pY r)).length:=ala _;have h2:=Zl (pY r) λt _=>Zm t
 have h3:cV (pY r)<=200*(r.ax++r.az).length+200*(r.aG++r.bn).length:=by
  unfold pY fL nJ;rw[yM];have a1:=Jf At.ts 200 (r.ax++r.az) λa ha=>(DL (h.Hw.hs a ha)).2.1;have a2:=Jf Gl.ts 200 (r.aG++r.bn) λg hg=>(R7 (h.Hw.gs g hg)).1;omega
 have h4:=h.len;have h5:=h.sm.g;have h6:=h.sm.b;have h7:(r.aG++r.bn).length=r.aG.length+r.bn.length:=ayP;omega
def Pl.rule(h:Pl p x i m r):0<=x.o.r/\x.o.r<40/\x.o.r<p.aQ.length:=by
 have h1:=(ayH.1 h.oc.ru).1;have h2:=h.sp.r;rw[h.oc.or];omega
def Pl.ins(h:Pl p x i m r)(hc:w8 p x x.aS.length acc):∀a∈oS r acc x,nR a:=by
 have hl:=h.len;obtain⟨v0,v1⟩:=h.vars;obtain⟨r0,r1,_⟩:=h.rule;have hN:1<=(r.ax++r.az).length:=by have:=h.all.2.1;omega
 have eO:=h.nm.hs;refine h.code hc (λn a j t hn ht hj=>?_) (λg hg=>?_) (λn a j ts hn ht cJ=>?_) (λn e n0 n1 e0 e1 bA=>?_) ?_ (λn hn=>?_) .kp ?_ (λg hg=>?_) ?_
 .have hm:=ayX hn;have ak:=(ayH.1 hn).1;have hra:=DL (h.Hw.hs a hm);exact .mt n j t aj aj aj aj ((eO a hm).2.2 t ht) (hra.2.2 t ht)
 .have xm:=azw r.bn hg;refine .ts g (h.nm.gs g xm) (h.Hw.gs g xm) ?_;rcases h.Hw.m.g g hg with h1|h1
  .simp only[uW,ayI,decide_eq_true_eq]at h1;exact .inr h1.1
  .exact .inl h1
 .have hm:=ayX hn;have ak:=(ayH.1 hn).1;have hra:=DL (h.Hw.hs a hm);exact .fd n j ts aj aj aj aj λt xo=>⟨(eO a hm).2.2 t (ht t xo),hra.2.2 t (ht t xo)⟩
 .exact .ap n e n0 aj e0 aj bA
 .exact .fr _ _ r0 r1 aj aj
 .exact .rm n aj aj
 .exact .nt _ _ r0 r1 aj aj
 .have xm:=azH r.aG hg;exact .pu g (h.nm.gs g xm) (h.Hw.gs g xm) (alb (h.Hw.gs g xm) (h.Hw.m.b g hg))
 .exact .cm _ _ r0 r1 v0 v1
end
end
def WS{s:List UInt8}(h:gZ s=ab):Sm s:=by
 simp[gZ,wO]at h;omega
def atB{L:List Un}{l:Nat}(h1:l<=L.length):nD 5 (qu L) (iI 0) (iI (l:Nat))=aa (qu (L.take l)):=by
 simp[nD,gW,h1,List.map_take]
def apS(us:List Un)(s:List UInt8)(n:Int)(hl:us.length<=1000):CC 133 af [qu us,iS s,iI n] (iB (decide (⟨s,n⟩∈us.map pq))):=by
 refine CC.cZ amA kr (λ_=>kr) (w7 aw aw aw) (by rfl) ?_;simp[ah5,aJ,ao];unfold Yt;refine aB us.length (λi (_:Unit)=>[iI i]) (λi _=>∀u∈us.take i,pq u≠⟨s,n⟩) () ?_ aw λi _ hi hI=>?_
 .simp[aJ]
 by_cases ak:i<us.length
 .have hw:=aH ak aj;have hm:=ayJ ak;have cK:=I9 ak;have bL:=λh=>cy ak hI h;have hd:pq us[i]=⟨us[i].s,us[i].n⟩:=rfl;rw[hd]at bL;simp[aJ,ak,hw,cK,ao];by_cases h1:us[i].s=s
  .by_cases h2:us[i].n=n
   .left;refine⟨h1,.inl ⟨h2,_,hm,?_⟩⟩;rw[hd,h1,h2]
   .left;exact⟨h1,.inr ⟨h2,.mk () rfl aj (bL (by simp[h2]))⟩⟩
  .right;exact⟨h1,.mk () rfl aj (bL (by simp[h1]))⟩
 .have:=dj ak hI;simp[aJ,ak];exactλu hu h=>this u hu h
def axd(c:List In)(hc:c.length<=200)(a b:Int)(h:∃i∈c,i.op=4/\(i.a=a/\i.b=b\/i.a=b/\i.b=a)):CC 134 af [cn c,iI a,iI b] (iB ab):=by
 refine CC.cZ amC kr (λ_=>kr) (w7 aw aw aw) (by rfl) ?_;simp[ah6,aJ,ao];unfold Yu;refine aB c.length (λi (_:Unit)=>[iI i]) (λj _=>∃i∈c.drop j,i.op=4/\(i.a=a/\i.b=b\/i.a=b/\i.b=a)) () ?_ (by simpa using h) λj _ hj hI=>?_
 .simp[aJ]
 by_cases ak:j<c.length
 .have hw:=aH ak aj;have hd:=ay5 ak;have cK:=N8 ak;rw[hd]at hI
  have bL:(¬(c[j].op=4/\(c[j].a=a/\c[j].b=b\/c[j].a=b/\c[j].b=a)))->qp c.length (λi (_:Unit)=>[iI i]) (λj _=>∃i∈c.drop j,i.op=4/\(i.a=a/\i.b=b\/i.a=b/\i.b=a)) j [iI (j+1:Nat)]:=λhn=>by
   refine .mk () rfl aj ?_;obtain⟨i,hi,hp⟩:=hI;rcases ayW.1 hi with rfl|hi
   .exact absurd hp hn
   .exact⟨i,hi,hp⟩
  generalize c[j]=y at*
  simp[aJ,ak,hw,cK,ao];simp[hw]at bL
  grind
 .rw[azf aj]at hI;obtain⟨i,hi,_⟩:=hI;cases hi
def k59(l:List Ac)(hl:l.length<=480)(h:∀a∈l,BW a/\a.ps.length<=8):CC 59 af [eP l] (iI 0):=by
 refine CC.zN arC kr (λ_=>kr) (dL aw) (by rfl) ?_;simp[amB,aJ,ao];unfold ac5;refine aB l.length (λi (_:Unit)=>[iI i]) (λ_ _=>True) () ?_ trivial λi _ hi _=>?_
 .simp[aJ]
 by_cases ak:i<l.length
 rotate_left
 .simp[aJ,ak]
 have hw:=aH ak aj;obtain⟨⟨h1,h2,h3,h4⟩,h5⟩:=h _ (ayJ ak);have cK:=L_ ak;have h26:=YE l[i].s (WS h1);rw[h1]at h26;have fP:qp l.length (λi (_:Unit)=>[iI i]) (λ_ _=>True) i [iI (i+1:Nat)]:=.mk () rfl aj trivial;generalize l[i]=a at*
 have z1:¬a.n<0:=aj;have z2:¬6<a.n:=aj;simp[aJ,ak,cK,ao];refine⟨_,h26,?_⟩;simp[aJ,z1,z2];unfold ac4;refine⟨by omega,by omega,?_⟩;refine aB a.ps.length (λi (_:Unit)=>[iI i]) (λ_ _=>True) () ?_ trivial λk _ hk _=>?_
 .simp[aJ]
 by_cases k_:k<a.ps.length
 rotate_left
 .simp[aJ,k_,hw];exact fP
 have IX:=aH k_ aj;have hv:=h4 _ (ayJ k_);have y1:¬a.ps[k]<0:=aj;have y2:¬a.n<=a.ps[k]:=aj;have A_:qp a.ps.length (λi (_:Unit)=>[iI i]) (λ_ _=>True) k [iI (k+1:Nat)]:=.mk () rfl aj trivial;by_cases gu:k=0
 .subst gu;have hL:=kS k_;simp only[Int.natCast_zero]at hL;simp[aJ,k_,hL,ao,y1,y2]
  first|exact A_|exact⟨by omega,by omega,A_⟩
 .have hp:a.ps[k- 1]<a.ps[k]:=aAd.1 h3 (k- 1) k aj k_ aj;have y3:¬a.ps[k]<=a.ps[k- 1]:=aj;have Rm:azc.wrap ((k:Int) - 1)=(k:Int) - 1:=eN aj aj;have Zn:=kS (l:=a.ps) (i:=k- 1) aj;rw[show((k- 1:Nat):Int)=(k:Int) - 1 by omega]at Zn;have y4:0<k:=aj;simp[aJ,k_,kS k_,Zn,Rm,IX,ao,y1,y2,y3,y4]
  first|exact A_|exact⟨by omega,by omega,A_⟩
def k60(us:List Un)(acc:List Ac)(rl:Int)(h:Eh us acc rl):CC 60 af [qu us] (iI 0):=by
 refine CC.zN arJ kr (λ_=>kr) (dL aw) (by rfl) ?_;have Ca:=h.ul;simp[amQ,aJ,ao];unfold ade;refine aB us.length (λi (_:Unit)=>[iI i]) (λ_ _=>True) () ?_ trivial λi _ hi _=>?_
 .simp[aJ]
 by_cases ak:i<us.length
 rotate_left
 .simp[aJ,ak]
 have hw:=aH ak aj;have hu:=h.u _ (ayJ ak);have eO:=K5 h.nd ak;have cK:=I9 ak;have h26:=YE us[i].s (WS hu.s);rw[hu.s]at h26;have Mo:=(apS (us.take i) us[i].s us[i].n (by simp;omega)).Ke (EZ rfl);rw[decide_eq_false (show¬(⟨us[i].s,us[i].n⟩:De)∈(us.take i).map pq from eO)]at Mo;have ic:=atB (L:=us) (l:=i) aj;have z1:¬us[i].la<0:=by have:=hu.la.1;omega
 have z2:¬(us[i].bs.length:Int)<us[i].la:=by have:=hu.la.2;omega
 have z3:¬us[i].n<0:=by have:=hu.n.1;omega
 have z4:¬6<us[i].n:=by have:=hu.n.2;omega
 have fP:qp us.length (λi (_:Unit)=>[iI i]) (λ_ _=>True) i [iI (i+1:Nat)]:=.mk () rfl aj trivial;generalize us[i]=u at*
 simp[aJ,ak,hw,cK,ao];refine⟨_,h26,?_⟩;simp[aJ,z3,z4,ic];refine⟨by omega,by omega,_,Mo,?_⟩;simp[aJ,z1,z2];exact⟨by omega,by omega,fP⟩
abbrev Hl:=Int×De
def abQ(q:Hl):IV:=.agg [iI q.1,iS q.2.s,iI q.2.n]
abbrev Zo(l:List Hl):IV:=.tree 3 (l.map abQ)
def ahn{l:List Hl}{i:Nat}(h:i<l.length):cb 3 (Zo l) (iI (i:Nat))=aa (.agg [iI l[i].1,iS l[i].2.s,iI l[i].2.n]):=cM (by simp[h,abQ]) rfl
def atC{a:List Hl}{q:Hl}(h:a.length<=1000):cX 3 32 (Zo a) (.tree 3 [.agg [iI q.1,iS q.2.s,iI q.2.n]])=aa (Zo (a++[q])):=by
 have h2:fM 3 [.agg [iI q.1,iS q.2.s,iI q.2.n]]=ab:=rfl;simp[cX,h2,abQ];omega
theorem lI.ap{acc:List Ac}{U:List De}{p:Int×Int}:∀{c:List In} {s t:Sb},lI acc U s c t->t.A p=ab->s.A p=ab\/∃i∈c,i.op=4/\(p=(i.a,i.b)\/p=(i.b,i.a))
 |[],_,_,h,ha=>by cases h;exact .inl ha
 |i::c,s,t,⟨u,bL,hr⟩,ha=>by
  rcases hr.ap ha with h|⟨j,hj,h⟩
  .cases bL with
   |ap e=>
    simp only[azp,decide_eq_true_eq]at h;rcases h with h|h|h
    .exact .inr ⟨i,by simp,e,.inr h⟩
    .exact .inr ⟨i,by simp,e,.inl h⟩
    .exact .inl h
   |_=>exact .inl h
  .exact .inr ⟨j,by simp[hj],h⟩
structure BkI(acc:List Ac)(U:List De)(o:Oc)(c:List In)(t:Sb)(tf:Sf)(j:Nat)(l:List Hl)(s:Sb)(sf:Sf):Prop where
 r:lI acc U s (c.drop j) t
 rf:jF o sf (c.drop j) tf
 h:∀q∈l,s.H q.1=aa q.2/\sf.b q.1=ab
 nd:(l.map azU).Nodup
 n:l.length<=j+1
def k61(us:List Un)(acc:List Ac)(rl:Int)(Ca:us.length<=30)(ef:acc.length<=480)(u:Un)(b:Bk)(h:aph acc (us.map pq) u rl b):CC 61 af [mR us acc rl,rF u,uD b] (iI 0):=by
 refine CC.zN arD kr (λ_=>kr) (w7 (.agg _ aw) (.agg _ aw) (.agg _ aw)) (by rfl) ?_;have h17:=k17 b.o b.c h.k;obtain⟨hk,hr,t,hrn,Ba⟩:=h;have jy:=hk.len;obtain⟨tf,hf,_⟩:=hk.f;have hM:mR us acc rl=.agg [qu us,eP acc,iI rl]:=rfl;have hE:rF u=.agg [iS u.s,iI u.n,zu u.bs,iB u.nv,iI u.la]:=rfl;have hB:uD b=.agg [iI b.o.r,iI b.o.h,iB b.o.k,cn b.c]:=rfl;have hBB:iG b.o b.c=.agg [iI b.o.r,iI b.o.h,iB b.o.k,cn b.c]:=rfl;rw[hBB]at h17;rw[hM,hE,hB];have z1:¬rl<=b.o.r:=aj;have Mo:=λs n=>apS us s n aj;simp[amD,aJ,ao];refine⟨_,h17,?_⟩;simp[aJ,z1,aL];refine⟨by omega,?_⟩
 have UJ:∀x y d,x≠y->t.H x=aa d->t.H y=aa d->∃i∈b.c,i.op=4/\(i.a=x/\i.b=y\/i.a=y/\i.b=x):=by
  have key:∀x y d,x<y->t.H x=aa d->t.H y=aa d->∃i∈b.c,i.op=4/\(i.a=x/\i.b=y\/i.a=y/\i.b=x):=λx y d ak hx hy=>by
   rcases hrn.ap (Ba x y d ak hx hy)with h|⟨i,hi,h4,h⟩
   .cases h
   .refine⟨i,hi,h4,?_⟩;simp only[aAt]at h;omega
  intro x y d bA hx hy;rcases Int.lt_or_gt_of_ne bA with h|h
  .exact key x y d h hx hy
  .obtain⟨i,hi,h4,h⟩:=key y x d h hy hx;exact⟨i,hi,h4,h.symm⟩
 have axe:=λx y h=>(axd b.c jy x y h).Ke (EZ rfl);unfold ac9;refine aB b.c.length (λj (l:List Hl)=>[iI j,Zo l]) (λj l=>∃s sf,BkI acc (us.map pq) b.o b.c t tf j l s sf) [(b.o.h,⟨u.s,u.n⟩)] ?_ ⟨_,_,hrn,hf,by simp[I8],by simp,by simp⟩ λj l hj hI=>?_
 .simp[aJ,abQ,cellsOf]
 obtain⟨s,sf,hr,hrf,hh,jA,Hc⟩:=hI;by_cases ak:j<b.c.length
 .have hw:=aH ak aj;have hd:=ay5 ak;rw[hd]at hr hrf;obtain⟨v,bL,hr⟩:=hr;obtain⟨vf,hsf,hrf⟩:=hrf;have cK:=N8 ak;have Ai:(∀x,sf.b x=ab->vf.b x=ab):=λx hx=>by cases hsf<;>simp_all
  have fP:(∀q∈l,v.H q.1=aa q.2)->qp b.c.length (λj (l:List Hl)=>[iI j,Zo l]) (λj l=>∃s sf,BkI acc (us.map pq) b.o b.c t tf j l s sf) j [iI (j+1:Nat),Zo l]:=λh=>.mk l rfl aj ⟨v,vf,hr,hrf,λq hq=>⟨h q hq,Ai _ (hh q hq).2⟩,jA,by omega⟩;generalize b.c[j]=i at*
  cases bL with
  |fd n a e eb ea el=>
   obtain⟨hn,Ti⟩:=ayH.1 ea;have hC:=L_ hn;rw[Ti]at hC;have z1:¬acc.length<=n:=aj;have je:=atC (a:=l) (q:=(i.a,⟨a.s,a.n⟩)) aj;have hfb:sf.b i.a=af/\vf.b i.a=ab:=by cases hsf<;>simp_all
   have aeF:∀q∈l,q.1≠i.a:=λq hq he=>by
    have:=(hh q hq).2;rw[he,hfb.1]at this;cases this
   simp[aJ,ak,cK,hw,ao,e,eb,hC,el,z1,aL,cellsOf];refine⟨_,je,.mk (l++[(i.a,⟨a.s,a.n⟩)]) rfl aj ⟨_,vf,hr,hrf,λq hq=>?_,?_,by simp;omega⟩⟩
   .rcases ayS.1 hq with hq|hq
    .simp only[if_neg (aeF q hq)];exact⟨(hh q hq).1,Ai _ (hh q hq).2⟩
    .obtain rfl:=ayU.1 hq;simp only[if_true];exact⟨by simp,hfb.2⟩
   .rw[azQ,aBu];refine⟨jA,by simp,λx hx y hy he=>?_⟩;obtain⟨q,hq,rfl⟩:=ay8.1 hx;simp at hy;exact aeF q hq (he.trans hy)
  |mt d e vH gB=>
   have fP:=fP λq hq=>(hh q hq).1;simp[aJ,ak,cK,hw,ao,e];unfold ac6;refine aB l.length (λk (_:Unit)=>[iI k]) (λ_ _=>True) () ?_ trivial λk _ hk _=>?_
   .simp[aJ]
   by_cases k_:k<l.length
   .have IX:=aH k_ aj;have hq:=(hh _ (ayJ k_)).1;have hL:=ahn k_;have A_:qp l.length (λk (_:Unit)=>[iI k]) (λ_ _=>True) k [iI (k+1:Nat)]:=.mk () rfl aj trivial;simp[aJ,k_,hL,IX,ao,cellsOf];by_cases he:l[k].1=i.a
    .rw[he,vH]at hq;have:¬l[k].2.n<=i.b:=by rw[<-aAK hq];omega
     left;exact⟨he,by omega,A_⟩
    .right;exact⟨he,A_⟩
   .simp[aJ,k_,hw];exact fP
  |ap e=>
   have fP:=fP λq hq=>(hh q hq).1;simp[aJ,ak,cK,hw,ao,e];exact fP
  |pu e hu=>
   have fP:=fP λq hq=>(hh q hq).1;by_cases e2:i.g.op=0
   .have Mo:=Mo i.g.s i.g.ts.length;rw[decide_eq_true (hu e2)]at Mo;simp[aJ,ak,cK,hw,ao,e,e2];refine⟨_,Mo,?_⟩;simp[aJ];exact fP
   .simp[aJ,ak,cK,hw,ao,e,e2];exact fP
  |no e3 e1 e4 e9=>
   have fP:=fP λq hq=>(hh q hq).1;simp[aJ,ak,cK,hw,ao,e3,e1,e9];exact fP
 rw[azf aj]at hr;obtain rfl:s=t:=hr;simp[aJ,ak];unfold ac8;refine aB l.length (λk (_:Unit)=>[iI k]) (λ_ _=>True) () ?_ trivial λk _ hk _=>?_
 .simp[aJ]
 by_cases k_:k<l.length
 rotate_left
 .simp[aJ,k_]
 have IX:=aH k_ aj;simp[aJ,k_];unfold ac7;refine aB k (λm (_:Unit)=>[iI m]) (λ_ _=>True) () ?_ trivial λm _ hm _=>?_
 .simp[aJ]
 by_cases s6:m<k
 rotate_left
 .simp[aJ,s6,IX];exact .mk () rfl aj trivial
 have abR:m<l.length:=aj;have hwm:=aH abR aj;have A_:qp k (λm (_:Unit)=>[iI m]) (λ_ _=>True) m [iI (m+1:Nat)]:=.mk () rfl aj trivial;have q1:=(hh _ (ayJ k_)).1;have q2:=(hh _ (ayJ abR)).1
 have bA:l[k].1≠l[m].1:=λhe=>by
  have:=aAd.1 jA m k (by simpa using abR) (by simpa using k_) s6;simp at this;exact this he.symm
 simp[aJ,s6,hwm,ahn k_,ahn abR,ao,cellsOf];by_cases e1:l[k].2.s=l[m].2.s
 rotate_left
 .right;exact⟨e1,A_⟩
 left;refine⟨e1,?_⟩;by_cases e2:l[k].2.n=l[m].2.n
 rotate_left
 .right;exact⟨e2,A_⟩
 left;refine⟨e2,?_⟩
 have Yf:l[k].2=l[m].2:=by
  generalize l[k].2=x at*;generalize l[m].2=y at*
  obtain⟨a,b⟩:=x;obtain⟨c,d⟩:=y;simp only at e1 e2;rw[e1,e2]
 rw[Yf]at q1;refine⟨_,axe _ _ (UJ _ _ _ bA q1 q2),?_⟩;simp[aJ];exact A_
def k19(us:List Un)(acc:List Ac)(rl:Int)(h:Eh us acc rl):CC 19 af [mR us acc rl] (iI 0):=by
 refine CC.zN arA kr (λ_=>kr) (dL (.agg _ aw)) (by rfl) ?_;have Ca:=h.ul;have ef:=h.al;have h59:=k59 acc ef h.a;have h60:=k60 us acc rl h;have Zp:=λu hu b hb=>k61 us acc rl Ca ef u b ((h.u u hu).b b hb);have hM:mR us acc rl=.agg [qu us,eP acc,iI rl]:=rfl;have hE:∀u,rF u=.agg [iS u.s,iI u.n,zu u.bs,iB u.nv,iI u.la]:=λ_=>rfl;have hB:∀b,uD b=.agg [iI b.o.r,iI b.o.h,iB b.o.k,cn b.c]:=λ_=>rfl;have z1:¬rl<0:=by have:=h.rr.1;omega
 have z2:¬40<rl:=by have:=h.rr.2;omega
 have z3:¬(30:Int)<us.length:=aj;have z4:¬(480:Int)<acc.length:=aj;simp only[hE,hB]at Zp;rw[hM]at*
 simp[amz,aJ,ao,z1,z2,z3,z4];unfold ac3;refine aB us.length (λk (_:Unit)=>[iI k]) (λ_ _=>True) () ?_ trivial λk _ fp _=>?_
 .simp[aJ]
 by_cases ak:k<us.length
 .have hw:=aH ak aj;have hu:=(h.u _ (ayJ ak)).l;have z5:¬(160:Int)<us[k].bs.length:=aj;simp[aJ,ak,hw,I9 ak,ao,z5];exact .mk () rfl aj trivial
 simp[aJ,ak];refine⟨_,h59,?_⟩;simp[aJ];refine⟨_,h60,?_⟩;simp[aJ];unfold ac2;refine aB us.length (λk (_:Unit)=>[iI k,iI 0]) (λ_ _=>True) () ?_ trivial λk _ fp _=>?_
 .simp[aJ]
 by_cases ak:k<us.length
 rotate_left
 .simp[aJ,ak]
 have hw:=aH ak aj;have hm:=ayJ ak;have hu:=(h.u _ hm).l;have cK:=I9 ak;have Zp:=Zp _ hm;have fP:qp us.length (λk (_:Unit)=>[iI k,iI 0]) (λ_ _=>True) k [iI (k+1:Nat),iI 0]:=.mk () rfl aj trivial;simp[aJ,ak];unfold ac1;refine aB us[k].bs.length (λm (_:Unit)=>[iI m,iI 0]) (λ_ _=>True) () ?_ trivial λm _ Cc _=>?_
 .simp[aJ]
 by_cases s6:m<us[k].bs.length
 .have hwm:=aH s6 aj;have Zp:=Zp _ (ayJ s6);simp[aJ,cK,s6,hwm,ahb s6,ao];refine⟨_,Zp,?_⟩;simp[aJ];exact .mk () rfl aj trivial
 .simp[aJ,cK,s6,hw,ao];exact fP
section
theorem jF.stay{o:Oc}{s:Sf}:∀{c:List In},(∀i∈c,vw o s i s)->jF o s c s
 |[],_=>rfl
 |i::_,h=>⟨s,h i aw,jF.stay λj hj=>h j (azg _ hj)⟩
def gU(x:Pn)(k:Nat)(v:Int):Bool:=decide (v=x.o.h\/v∈x.aS.take k)
def BY(x:Pn)(k:Nat):Sf:=⟨-1,0,af,af,gU x k,[]⟩
def Ki{x:Pn}{k:Nat}{v:Int}(h:v=x.o.h\/v∈x.aS.take k):gU x k v=ab:=decide_eq_true h
def apT(x:Pn):I8 x.o.h=BY x 0:=by
 unfold I8 BY
 congr 1
 funext v;unfold gU;simp[aCC]
def apU(x:Pn){k:Nat}(hk:k<x.aS.length):({BY x k with b:=λv=>v==x.aS[k]||(BY x k).b v}:Sf)=BY x (k+1):=by
 unfold BY;simp only
 congr 1
 funext v;unfold gU;rw[ayN hk,aAH];simp only[azp,beq_iff_eq,decide_eq_true_eq,ayS,ayU];constructor
 .rintro(h|h|h)
  .exact .inr (.inr h)
  .exact .inl h
  .exact .inr (.inl h)
 .rintro(h|h|h)
  .exact .inr (.inl h)
  .exact .inr (.inr h)
  .exact .inl h
section
variable{p:Pg}{x:Pn}{i m:Nat}{r:Rl}{acc:List Ac}
def Pl.E_(h:Pl p x i m r){v:Int}(hv:v∈x.o.h::x.aS):0<=v/\v<4:=by
 have h1:=h.all.2.2.1 v hv;have h2:=h.len;omega
def Mp{o:Oc}{s:Sf}{gs:List Gl}{l:List Int}(hs:s.cP=0):∀y∈dV gs l,vw o s y s:=λy hy=>by
 obtain⟨v,_,rfl⟩:=ay8.1 hy;exact .ts s _ rfl hs
def Pl.apV(h:Pl p x i m r):jF x.o (BY x 0) (m6 r x) (BY x 0):=by
 refine jF.stay λy hy=>?_;unfold m6 at hy;rcases ayS.1 hy with hy|hy
 .rcases ayS.1 hy with hy|hy
  .obtain⟨j,t,_,_,_,rfl⟩:=p_ hy;have:=h.E_ (v:=x.o.h) aw;exact .mt _ _ rfl this.1 this.2 (Ki (.inl rfl)) rfl
  .exact Mp rfl y hy
 .exact Mp rfl y hy
def Pl.apW(h:Pl p x i m r){k:Nat}(hk:k<x.aS.length):jF x.o (BY x k) (DH (r.ax++r.az) r.aG acc x k) (BY x (k+1)):=by
 obtain⟨jA,hl,apR,bX⟩:=h.all;obtain⟨n,a,ps,te,hp,hn,_⟩:=h.at_ hk;rw[zr hp acc];unfold sU;obtain⟨fp,bf⟩:=ayH.1 hp.h.od;have dR:(n:Int)∈x.aS:=bf▸ayJ fp;have Qp:=h.E_ (azg _ dR)
 have lO:gU x k n=af:=by
  unfold gU;rw[decide_eq_false_iff_not];rw[azP]at jA;rintro(he|he)
  .exact jA.1 (he▸dR)
  .obtain⟨q,hq,hqe⟩:=aBm.1 he;have TS:=aAd.1 jA.2 q k aj fp aj;exact TS (hqe.trans bf.symm)
 have Du:gU x (k+1) n=ab:=Ki (.inr (by rw[ayN fp,bf];simp));refine⟨BY x (k+1),?_,jF.stay λy hy=>?_⟩
 .have:=vw.fd (o:=x.o) (BY x k) ⟨3,n,tM acc ⟨a.s,a.ts.length,ps⟩,dZ,oi a.ts ps⟩ rfl Qp.1 Qp.2 lO rfl;have he:=apU x fp;rw[bf]at he;simp only at this;rw[he]at this;exact this
 .rcases ayS.1 hy with hy|hy
  .rcases ayS.1 hy with hy|hy
   .obtain⟨e,he,rfl⟩:=Od hy
    have XX:e∈x.o.h::x.aS/\gU x (k+1) e=ab:=by
     rcases ayW.1 he with rfl|he
     .exact⟨by simp,Ki (.inl rfl)⟩
     .exact⟨azg _ (azM he),Ki (.inr (by rw[ayN fp];exact azw _ he))⟩
    have hre:=h.E_ XX.1;exact .ap _ _ rfl Qp.1 Qp.2 Du hre.1 hre.2 XX.2 rfl
   .obtain⟨j,t,_,_,_,rfl⟩:=p_ hy;exact .mt _ _ rfl Qp.1 Qp.2 Du rfl
  .exact Mp rfl y hy
theorem Pl.aja(h:Pl p x i m r):∀k,k<=x.aS.length->jF x.o (BY x 0) (iz (r.ax++r.az) r.aG acc x (m6 r x) k) (BY x k)
 |0,_=>h.apV
 |k+1,hk=>by
  rw[iz];exact(h.aja k aj).app (h.apW hk)
def Pl.bound(h:Pl p x i m r){v:Int}(h0:0<=v)(h1:v<(r.ax++r.az).length):gU x x.aS.length v=ab:=by
 rcases h.all.2.2.2 v h0 h1 with e|e
 .exact Ki (.inl e)
 .exact Ki (.inr (by rw[ayV (ayL _)];exact e))
structure Tl(x:Pn)(r:Rl)(rm:Bool)(s:Sf):Prop where
 b:s.b=gU x x.aS.length
 fr:r.az=[]->((r.ax++r.az).length:Int)∈s.fr
 rm:s.rem=rm
def Pl.alc(h:Pl p x i m r):∃s,jF x.o (BY x 0) (wZ x r (iz (r.ax++r.az) r.aG acc x (m6 r x) x.aS.length)) s/\Tl x r af s/\s.last= -1/\s.cP=0/\s.kept=af:=by
 have h1:=h.aja (acc:=acc) _ (ayL _);have hN:=h.all.2.1;have hl:=h.len;unfold wZ;split
 .rename_i he;refine⟨_,h1.app (jF.one (.fr _ _ rfl (by simp only[po];omega) (by simp only[po];omega) (λv h0 hv=>h.bound h0 hv) rfl rfl)),⟨rfl,λ_=>?_,rfl⟩,rfl,rfl,rfl⟩;simp only[po];exact vv.2 (.inr rfl)
 .rename_i he;exact⟨_,h1,⟨rfl,λh=>absurd h he,rfl⟩,rfl,rfl,rfl⟩
theorem Pl.ajb(h:Pl p x i m r){s:Sf}(hs:Tl x r af s)(hl:s.last= -1)(hg:s.cP=0)(hk:s.kept=af):∀d,r.ax.length+d<=(r.ax++r.az).length->
 ∃t,jF x.o s (oj r.ax.length (r.ax.length+d)) t/\Tl x r (decide (r.ax.length<=m/\m<r.ax.length+d)) t/\t.last<(r.ax.length+d:Nat)/\t.cP<=1/\t.kept=af
 |0,_=>⟨s,by rw[Nat.add_zero,WD];rfl,⟨hs.b,hs.fr,by rw[hs.rm,decide_eq_false aj]⟩,by omega,by omega,hk⟩
 |d+1,hd=>by
  obtain⟨t,h1,h2,h3,h4,h5⟩:=h.ajb hs hl hg hk d aj;have hlen:=h.len;have hb:t.b ((r.ax.length+d:Nat):Int)=ab:=by rw[h2.b];exact h.bound aj aj
  rw[<-aAr,IY aj];refine⟨_,h1.app (jF.one (.rm t (wY (r.ax.length+d:Nat)) rfl (by simp only[wY];omega) (by simp only[wY];omega) hb h3 h4)),⟨h2.b,h2.fr,?_⟩,by simp only[wY];omega,by simp only;omega,h5⟩;simp only[wY];rw[h2.rm,h.oc.oh,aAH];simp only[azp,decide_eq_true_eq,beq_iff_eq];omega
theorem aeG{o:Oc}:∀(gs:List In) (s:Sf),(∀y∈gs,y.op=9)->s.cP<=4->∃t,jF o s gs t/\t.cP<=4/\t.rem=s.rem/\t.kept=s.kept
 |[],s,_,hs=>⟨s,rfl,hs,rfl,rfl⟩
 |y::gs,s,hy,hs=>by
  obtain⟨t,h1,h2,h3,h4⟩:=aeG (o:=o) gs {s with cP:=4} (λz hz=>hy z (azg _ hz)) aw;exact⟨t,⟨_,.pu s y (hy y aw) hs,h1⟩,h2,h3,h4⟩
def Pl.formed(h:Pl p x i m r):∃t,jF x.o (I8 x.o.h) (oS r acc x) t/\t.cP=5/\t.rem=(!x.o.k)/\(t.kept=ab->x.o.k=ab):=by
 rw[apT];obtain⟨s,h1,h2,h3,h4,h5⟩:=h.alc (acc:=acc);have hle:r.ax.length+r.az.length=(r.ax++r.az).length:=ayP.symm;obtain⟨t,g1,g2,g3,g4,g5⟩:=h.ajb h2 h3 h4 h5 r.az.length aj;rw[hle]at g1 g2 g3
 have apX:t.rem= !x.o.k:=by
  rw[g2.rm,h.oc.ok,aAH];have:=h.oc.lt;simp only[Bool.not_eq_true',decide_eq_false_iff_not,decide_eq_true_eq];omega
 have hN:=h.all.2.1;have hlen:=h.len
 obtain⟨u,k1,k2,k3,k4⟩:∃u,jF x.o t (sV (x.o.k&& !jw (ss r) r.bn)) u/\Tl x r (!x.o.k) u/\u.cP<=2/\(u.kept=ab->x.o.k=ab):=by
  unfold sV;split
  .rename_i hk;rw[ayI]at hk;exact⟨_,jF.one (.kp t yN rfl aj),⟨g2.b,g2.fr,apX⟩,by simp,λ_=>hk.1⟩
  .exact⟨t,rfl,⟨g2.b,g2.fr,apX⟩,by omega,λhk=>by rw[g5]at hk;cases hk⟩
 obtain⟨w,n1,n2,n3,n4⟩:∃w,jF x.o u (sW (decide (r.az=[])) x.o.r (r.ax++r.az).length) w/\w.cP<=3/\w.rem=(!x.o.k)/\(w.kept=ab->x.o.k=ab):=by
  unfold sW;split
  .rename_i hk;rw[decide_eq_true_eq]at hk;exact⟨_,jF.one (.nt u (uB x.o.r (r.ax++r.az).length) rfl (by simp only[uB];omega) (by simp only[uB];omega) (λv h0 hv=>by rw[k2.b];exact h.bound h0 hv) (k2.fr hk) rfl aj),by simp,k2.rm,k4⟩
  .exact⟨u,rfl,by omega,k2.rm,k4⟩
 obtain⟨z,p1,p2,p3,p4⟩:=aeG (o:=x.o) (p6 r.bn) w (λy hy=>by
  unfold p6 at hy;rw[aB9,ay8]at hy;obtain⟨g,_,rfl⟩:=hy;rfl) aj
 refine⟨_,((((h1.app g1).app k1).app n1).app p1).app (jF.one (.cm z (Eg x.o.r r.vars) rfl rfl aj)),rfl,?_,?_⟩
 .rw[<-n3,<-p3]
 .rw[p4];exact n4
def Pl.axf(h:Pl p x i m r)(hc:w8 p x x.aS.length acc)(hl:(oS r acc x).length<=200):WJ x.o (oS r acc x):=by
 obtain⟨r0,r1,_⟩:=h.rule;exact⟨hl,⟨r0,r1⟩,h.E_ aw,h.ins hc,h.formed⟩
end
theorem lI.stay{acc:List Ac}{U:List De}{s:Sb}:∀{c:List In},(∀i∈c,I_ acc U s i s)->lI acc U s c s
 |[],_=>rfl
 |i::_,h=>⟨s,h i aw,lI.stay λj hj=>h j (azg _ hj)⟩
def dA(a:At):De:=⟨a.s,a.ts.length⟩
structure PB(hs:List At)(x:Pn)(k:Nat)(s:Sb):Prop where
 H:∀v d,s.H v=aa d↔(v=x.o.h\/v∈x.aS.take k)/\∃a,hs[v.toNat]?=aa a/\d=dA a
 A:∀v w d,s.H v=aa d->s.H w=aa d->v≠w->s.A (v,w)=ab
def Jg{acc:List Ac}{U:List De}{s:Sb}{gs:List Gl}{l:List Int}:∀y∈dV gs l,I_ acc U s y s:=λy hy=>by
 obtain⟨v,_,rfl⟩:=ay8.1 hy;exact .no s _ aw aw aw aw
theorem Qq{acc:List Ac}{U:List De}{hs:List At}{n:Int}{a:At}:∀(es:List Int) (s:Sb),∃t,lI acc U s (ik hs n a es) t/\t.H=s.H/\(∀p,s.A p=ab->t.A p=ab)/\
 ∀e∈es,∀b,hs[e.toNat]?=aa b->dA b=dA a->t.A (n,e)=ab/\t.A (e,n)=ab
 |[],s=>⟨s,rfl,rfl,λ_ h=>h,by intro e he;cases he⟩
 |e::es,s=>by
  by_cases ef:∃b,hs[e.toNat]?=aa b/\dA b=dA a
  .obtain⟨b,hb,hd⟩:=ef
   have h1:nN hs n a e=[⟨4,n,e,dZ,[]⟩]:=by
    unfold nN;rw[hb];simp only;unfold dA at hd;have e1:=congrArg De.s hd;have e2:=congrArg De.n hd;simp only at e1 e2;rw[if_pos ⟨e1,by omega⟩]
   obtain⟨t,g1,g2,g3,g4⟩:=Qq es ⟨s.H,λp=>decide (p=(e,n))||(decide (p=(n,e))||s.A p)⟩;refine⟨t,?_,g2,λp hp=>g3 p (by simp[hp]),λe' gw b' u7 vH=>?_⟩
   .show lI acc U s ((e::es).flatMap (nN hs n a)) t;rw[aAa,h1];exact⟨_,.ap s ⟨4,n,e,dZ,[]⟩ rfl,g1⟩
   .rcases ayW.1 gw with rfl|gw
    .exact⟨g3 _ aw,g3 _ aw⟩
    .exact g4 e' gw b' u7 vH
  .have h1:nN hs n a e=[]:=by
    unfold nN;split
    .rename_i b hb;rw[if_neg];rintro⟨e1,e2⟩;exact ef ⟨b,hb,by unfold dA;rw[e1,e2]⟩
    .rfl
   obtain⟨t,g1,g2,g3,g4⟩:=Qq es s;refine⟨t,?_,g2,g3,λe' gw b' u7 vH=>?_⟩
   .show lI acc U s ((e::es).flatMap (nN hs n a)) t;rw[aAa,h1];exact g1
   .rcases ayW.1 gw with rfl|gw
    .exact absurd ⟨b',u7,vH⟩ ef
    .exact g4 e' gw b' u7 vH
section
variable{p:Pg}{x:Pn}{i m:Nat}{r:Rl}{acc:List Ac}{U:List De}
def Pl.apY(h:Pl p x i m r){s:Sb}(hs:PB (r.ax++r.az) x 0 s):lI acc U s (m6 r x) s:=by
 obtain⟨a0,ha0,Ng⟩:=h.head;refine lI.stay λy hy=>?_;unfold m6 at hy;rcases ayS.1 hy with hy|hy
 .rcases ayS.1 hy with hy|hy
  .obtain⟨j,t,_,_,h3,rfl⟩:=p_ hy;rw[Ng]at h3;refine .mt s _ (dA a0) rfl ((hs.H _ _).2 ⟨.inl rfl,a0,by simp only;rw[h.oc.oh];exact ha0,rfl⟩) ?_;simp only[dA];omega
  .exact Jg y hy
 .exact Jg y hy
def Pl.ap0(h:Pl p x i m r)(hc:w8 p x x.aS.length acc){k:Nat}(hk:k<x.aS.length){s:Sb}(hs:PB (r.ax++r.az) x k s):
 ∃t,lI acc U s (DH (r.ax++r.az) r.aG acc x k) t/\PB (r.ax++r.az) x (k+1) t:=by
 obtain⟨n,a,ps,te,hp,hn,np,hp2,_⟩:=h.at_ hk;obtain⟨fp,bf⟩:=ayH.1 hp.h.od;obtain⟨j,hj,hja⟩:=h.pick hc hk;have Hr:=IZ hp acc
 have axg:WQ (r.ax++r.az) x k=⟨a.s,a.ts.length,ps⟩:=by
  obtain⟨e1,_,e3,_⟩:=Qa hp;unfold WQ;rw[e1,e3]
 rw[Hr]at hj;rw[axg]at hja
 have dR:∀v,v∈x.aS.take (k+1)↔v∈x.aS.take k\/v=n:=λv=>by
  rw[ayN fp,bf,ayS,ayU]
 have axh:∀v d,(if v=(n:Int)then aa (dA a)else s.H v)=aa d↔(v=x.o.h\/v∈x.aS.take (k+1))/\∃a,(r.ax++r.az)[v.toNat]?=aa a/\d=dA a:=λv d=>by
  by_cases e:v=(n:Int)
  .subst e;simp only[if_true,ayO,aAM];constructor
   .rintro rfl;exact⟨.inr ((dR _).2 (.inr rfl)),a,hp.h.hd,rfl⟩
   .rintro⟨_,b,hb,rfl⟩;rw[hp.h.hd]at hb;cases hb;rfl
  .rw[if_neg e,hs.H,dR];constructor
   .rintro⟨h1,h2⟩;exact⟨h1.imp id .inl,h2⟩
   .rintro⟨h1,h2⟩;refine⟨?_,h2⟩;rcases h1 with h1|h1|h1
    .exact .inl h1
    .exact .inr h1
    .exact absurd h1 e
 obtain⟨t,g1,g2,g3,g4⟩:=Qq (acc:=acc) (U:=U) (hs:=r.ax++r.az) (n:=n) (a:=a) (x.o.h::x.aS.take k) ⟨λv=>if v=(n:Int)then aa (dA a)else s.H v,s.A⟩;have htH:∀v,t.H v=if v=(n:Int)then aa (dA a)else s.H v:=λv=>by rw[g2]
 refine⟨t,?_,λv d=>by rw[htH];exact axh v d,λv w d hv hw bA=>?_⟩
 .rw[zr hp acc];unfold sU;refine⟨_,I_.fd s ⟨3,n,tM acc ⟨a.s,a.ts.length,ps⟩,dZ,oi a.ts ps⟩ j ⟨a.s,a.ts.length,ps⟩ rfl hj hja (Je hp2),(g1.app (lI.stay λy hy=>?_)).app (lI.stay Jg)⟩;obtain⟨q,u,_,_,h3,rfl⟩:=p_ hy;refine .mt t _ (dA a) rfl ?_ ?_
  .rw[htH];simp
  .simp only[dA];omega
 .rw[htH]at hv hw;by_cases e1:v=(n:Int)
  .subst e1;rw[if_pos rfl]at hv;rw[if_neg (Ne.symm bA)]at hw;obtain⟨cd,b,dw,dQ⟩:=(hs.H w d).1 hw;cases hv;exact(g4 w (by simpa using cd) b dw dQ.symm).1
  .rw[if_neg e1]at hv;by_cases e2:w=(n:Int)
   .subst e2;rw[if_pos rfl]at hw;obtain⟨cd,b,dw,dQ⟩:=(hs.H v d).1 hv;cases hw;exact(g4 v (by simpa using cd) b dw dQ.symm).2
   .rw[if_neg e2]at hw;exact g3 _ (hs.A v w d hv hw bA)
theorem Pl.ajc(h:Pl p x i m r)(hc:w8 p x x.aS.length acc){s:Sb}(hs:PB (r.ax++r.az) x 0 s):∀k,k<=x.aS.length->∃t,lI acc U s (iz (r.ax++r.az) r.aG acc x (m6 r x) k) t/\PB (r.ax++r.az) x k t
 |0,_=>⟨s,h.apY hs,hs⟩
 |k+1,hk=>by
  obtain⟨t,h1,h2⟩:=h.ajc hc hs k aj;obtain⟨u,h3,h4⟩:=h.ap0 (U:=U) hc aj h2;exact⟨u,h1.app h3,h4⟩
def Pl.axi(h:Pl p x i m r)(hc:w8 p x x.aS.length acc){a0:At}(ha:(r.ax++r.az)[m]?=aa a0):
 ∃t,lI acc p.bM ⟨λv=>if v=x.o.h then aa (dA a0)else ah,λ_=>af⟩ (oS r acc x) t/\WM t:=by
 have h0:PB (r.ax++r.az) x 0 ⟨λv=>if v=x.o.h then aa (dA a0)else ah,λ_=>af⟩:=by
  refine⟨λv d=>?_,λv w d hv hw bA=>?_⟩
  .simp only[List.take_zero,List.not_mem_nil,or_false];by_cases e:v=x.o.h
   .subst e;rw[if_pos rfl,h.oc.oh,aAM,ha];constructor
    .intro hd;cases hd;exact⟨rfl,a0,rfl,rfl⟩
    .rintro⟨_,b,hb,rfl⟩;cases hb;rfl
   .rw[if_neg e];constructor
    .intro hd;cases hd
    .rintro⟨hd,_⟩;exact absurd hd e
  .simp only at hv hw;by_cases e1:v=x.o.h
   .by_cases e2:w=x.o.h
    .exact absurd (e1.trans e2.symm) bA
    .rw[if_neg e2]at hw;cases hw
   .rw[if_neg e1]at hv;cases hv
 obtain⟨t,h1,h2⟩:=h.ajc (U:=p.bM) hc h0 _ (ayL _);refine⟨t,?_,λv w d hvw hv hw=>h2.A v w d hv hw aj⟩;have Pe:∀y:In,y.op≠3->y.op≠1->y.op≠4->y.op≠9->I_ acc p.bM t y t:=λy a b c d=>.no t y a b c d;unfold oS oR;refine(((((?_:lI acc p.bM _ _ t).app (lI.stay λy hy=>?_)).app (lI.stay λy hy=>?_)).app (lI.stay λy hy=>?_)).app (lI.stay λy hy=>?_)).app (lI.stay λy hy=>?_)
 .unfold wZ;split
  .exact h1.app (lI.one (Pe _ (by simp[po]) (by simp[po]) (by simp[po]) (by simp[po])))
  .exact h1
 .unfold oj at hy;obtain⟨j,_,rfl⟩:=ay8.1 hy;exact Pe _ (by simp[wY]) (by simp[wY]) (by simp[wY]) (by simp[wY])
 .unfold sV at hy;split at hy
  .obtain rfl:=ayU.1 hy;exact Pe _ (by simp[yN]) (by simp[yN]) (by simp[yN]) (by simp[yN])
  .cases hy
 .unfold sW at hy;split at hy
  .obtain rfl:=ayU.1 hy;exact Pe _ (by simp[uB]) (by simp[uB]) (by simp[uB]) (by simp[uB])
  .cases hy
 .unfold p6 at hy;rw[aB9,ay8]at hy;obtain⟨g,hg,rfl⟩:=hy;refine .pu t _ rfl λfk=>?_;have:=h.Hw.m.c g (azH _ hg) fk;rw[vu]at this;obtain⟨d,hd,e1,e2⟩:=this;simp only[N2];obtain⟨ds,dn⟩:=d;simp only at e1 e2;rw[<-e1,<-e2];exact hd
 .obtain rfl:=ayU.1 hy;exact Pe _ (by simp[Eg]) (by simp[Eg]) (by simp[Eg]) (by simp[Eg])
def Pl.ap1(h:Pl p x i m r):(oS r acc x).length<=200:=by
 obtain⟨a0,ha0,Ng⟩:=h.head;obtain⟨t0,t1,e0,e1,l0,l1,_⟩:=h.abP.t;have ef:=h.sm.hs a0 (ayX ha0)
 have hb:(m6 r x).length<=20:=by
  unfold m6;rw[azu,azu,e0,e1,Ng];have:=wW x.o.h [] a0.ts 0;simp[dV];omega
 have h1:=I0 h.abP acc (m6 r x) x.aS.length (ayL _);have h2:=h.all.2.1;have h3:=h.len;have h4:=h.sm.b
 have h5:(wZ x r (iz (r.ax++r.az) r.aG acc x (m6 r x) x.aS.length)).length<=111:=by
  unfold wZ;split
  .simp;omega
  .omega
 have hk:∀b,(sV b).length<=1:=λb=>by unfold sV;split<;>simp
 have hn:∀b q w,(sW b q w).length<=1:=λb q w=>by unfold sW;split<;>simp
 have c8:=hk (x.o.k&& !jw (ss r) r.bn);have oW:=hn (decide (r.az=[])) x.o.r (r.ax++r.az).length;have hr:=Mh r.ax.length (r.ax++r.az).length;have hpu:(p6 r.bn).length=r.bn.length:=by simp[p6]
 unfold oS oR;rw[ayP,ayP,ayP,ayP,ayP];simp only[azh,List.length_nil];omega
end
structure Jh(cs:List (Int×IV)):Prop where
 n:(cs.map azU).Nodup
 v:∀q∈cs,q.2=.agg []
def Jh.nil:Jh []:=⟨by simp,by intro q hq;cases hq⟩
theorem Jh.get{cs:List (Int×IV)}(h:Jh cs)(k:Int):nQ ayF 3 (iV iI cs) (iI k) (.agg [])=aa (.agg []):=by
 obtain⟨h1,h2⟩:=ye.get h.n k (.agg []);by_cases hy:∃y,(k,y)∈cs
 .obtain⟨y,hy⟩:=hy;have hn:=h.v _ hy;simp only at hn;subst hn;exact h1 _ hy
 .exact h2 hy
theorem Jh.ins{cs:List (Int×IV)}(h:Jh cs)(k:Int):∃bK,Jh bK/\nP ayF 3 (iV iI cs) (iI k) (.agg [])=aa (iV iI bK):=by
 obtain⟨bK,h1,h2,h3⟩:=ye.ins h.n k (.agg []);refine⟨bK,⟨h1,λq hq=>?_⟩,h3⟩;rcases(h2 q).1 hq with rfl|⟨_,hq⟩
 .rfl
 .exact h.v q hq
section
variable{Q:IV->Prop}{k0:List IV->Prop}{x0 x1 x2 x3 x6:IV}
def atD(i:Nat)(hi:i<1000)(o:Oc)(r:Rl)(h:oB r)(hn:rA r)(hf:mO r)(a:At)(ha:a.ts.length<=8)(hQ:∀b,Q (iB b))(hk:k0 [iI (i+1:Nat)]):
 Wz.sat ayF CC Q [k0] [x0,x1,x2,x3,iI i,Mn (o,r),x6,dN a]:=by
 have kI:=aH hi aj;have Mq:=Wn r h hn hf;have hA:dN a=.agg [iS a.s,iT a.ts]:=rfl;have hE:Mn (o,r)=.agg [iI o.r,iI o.h,iB o.k,iS r.name,dm r.ax,dm r.az,gO r.aG,gO r.bn,iI r.vars]:=rfl;rw[cu]at Mq;rw[hA,hE];generalize jw (ss r) r.bn=b at*
 unfold Wz;refine aB a.ts.length (λj (cs:List (Int×IV))=>[iI j,iV iI cs]) (λ_ cs=>Jh cs) [] ?_ .nil λj cs hj hc=>?_
 .simp[aJ,iV]
 by_cases ak:j<a.ts.length
 rotate_left
 .simp[aJ,ak];exact hQ _
 have hw:=aH ak aj;have hg:=hc.get a.ts[j].n;obtain⟨d,_,hb⟩:=ye.has cs a.ts[j].n;obtain⟨bK,qd,ct⟩:=hc.ins a.ts[j].n;simp[aJ,ak,hw,kI,ng ak,bG,ao,hg,hb,ct,aL];by_cases e:a.ts[j].k=1
 .right;refine⟨e,?_⟩;cases d with
  |false=>simp;exact .mk bK rfl aj qd
  |true=>
   cases hk:o.k with
   |false=>simp;assumption
   |true=>
    simp;refine⟨_,Mq,?_⟩;cases b with
    |false=>simp;exact hQ _
    |true=>simp;assumption
 .left;refine⟨e,?_⟩;cases hk:o.k with
  |false=>simp;assumption
  |true=>
   simp;refine⟨_,Mq,?_⟩;cases b with
   |false=>simp;exact hQ _
   |true=>simp;assumption
end
def k49(p:Pg)(hp:m_ p)(hf:∀r∈p.aQ,mO r)(s:List UInt8)(n:Int):∃b,CC 49 af [bg p,iS s,iI n] (iB b):=by
 refine(CC.GO (args:=[bg p,iS s,iI n]) (λ_=>True) asY kr (λ_=>kr) (by
  intro y hy;rcases ayW.1 hy with rfl|hy
  .exact du p
  .exact lC aw aw _ hy) (by rfl) ?_).imp λ_ h=>h.2
 obtain⟨L,Zn,hL2,aho⟩:=apO p hp s n;have hl:=yf s n p.aQ hp.rs;have hr:=hp.r
 have hLl:L.length<=24:=by
  have:=congrArg azj Zn;simp at this;omega
 have hP:bg p=.agg [gj p.bM,mN p.aQ]:=rfl;rw[hP]at*
 simp[aos,SE.den,ao];refine⟨_,aho,?_⟩;simp;unfold aep;refine aB L.length (λi (_:Unit)=>[iI i]) (λ_ _=>True) () ?_ trivial λi _ hi _=>?_
 .simp[SE.den]
 by_cases ak:i<L.length
 rotate_left
 .simp[SE.den,ak]
 have hw:=aH ak aj;have hm:=hL2 _ (ayJ ak);have tn:=hp.rs _ hm;have hh:=tn.h;have Mq:=Wn _ tn (hp.rn _ hm) (hf _ hm);have WE:=KV L[i].2 aj;have ef:=tn.hs;have hy:=λQ k0 x0 x1 x2 x3 x6 a ha hQ hk=>atD (Q:=Q) (k0:=k0) (x0:=x0) (x1:=x1) (x2:=x2) (x3:=x3) (x6:=x6) i aj L[i].1 L[i].2 tn (hp.rn _ hm) (hf _ hm) a ha hQ hk;have hE:Mn (L[i].1,L[i].2)=.agg [iI L[i].1.r,iI L[i].1.h,iB L[i].1.k,iS L[i].2.name,dm L[i].2.ax,dm L[i].2.az,gO L[i].2.aG,gO L[i].2.bn,iI L[i].2.vars]:=rfl;have cK:=apJ ak;rw[cu]at*
 simp only[hE]at hy;generalize jw (ss L[i].2) L[i].2.bn=b at*
 generalize L[i].2.ax++L[i].2.az=hs at*
 generalize L[i].1.r=o1 at*
 generalize L[i].1.h=o2 at*
 generalize L[i].1.k=o3 at*
 cases o3 with
 |true=>
  simp[SE.den,ak,hw,cK,ao];refine⟨_,Mq,?_⟩;cases b with
  |false=>simp
  |true=>simp;exact .mk () rfl aj trivial
 |false=>
  simp[SE.den,ak,hw,cK,ao];by_cases e1:0<L[i].2.aG.length
  .left;exact⟨e1,.mk () rfl aj trivial⟩
  right;refine⟨by simpa using e1,_,WE,?_⟩;simp;by_cases e2:hs.length=1
  rotate_left
  .left;exact⟨by omega,.mk () rfl aj trivial⟩
  right;refine⟨by omega,?_⟩;obtain⟨a0,e0⟩:∃a,hs[0]?=aa a:=⟨_,ayG aj⟩;have i0:cb 2 (dm hs) (iI 0)=aa (.agg [iS a0.s,iT a0.ts]):=cM (i:=0) (x:=dN a0) (by simp[e0]) rfl;simp[i0,ao];have hA:dN a0=.agg [iS a0.s,iT a0.ts]:=rfl;simp only[<-hA];exact hy _ _ _ _ _ _ _ a0 (ef _ (ayX e0)) (λb=>by simp) (.mk () rfl aj trivial)
def k50(p:Pg)(hp:m_ p)(hf:∀r∈p.aQ,mO r)(s:List UInt8)(n:Int):∃m:Int,(0<=m/\m<=(jZ s n p.aQ).length)/\CC 50 af [bg p,iS s,iI n] (iI m):=by
 refine CC.IG (args:=[bg p,iS s,iI n]) (λm=>0<=m/\m<=(jZ s n p.aQ).length) asZ kr (λ_=>kr) (by
  intro y hy;rcases ayW.1 hy with rfl|hy
  .exact du p
  .exact lC aw aw _ hy) (by rfl) ?_
 obtain⟨L,Zn,hL2,aho⟩:=apO p hp s n;have hl:=yf s n p.aQ hp.rs;have hr:=hp.r
 have hLl:L.length=(jZ s n p.aQ).length:=by
  have:=congrArg azj Zn;simp at this;omega
 rw[<-hLl]at hl⊢;have hP:bg p=.agg [gj p.bM,mN p.aQ]:=rfl;rw[hP]at*
 simp[aot,SE.den,ao];refine⟨_,aho,?_⟩;simp;unfold aeq;refine aB L.length (λi (_:Unit)=>[iI i]) (λ_ _=>True) () ?_ trivial λi _ hi _=>?_
 .simp[SE.den]
 by_cases ak:i<L.length
 rotate_left
 .simp[SE.den,ak]
 have hw:=aH ak aj;have hm:=hL2 _ (ayJ ak);have Mq:=Wn _ (hp.rs _ hm) (hp.rn _ hm) (hf _ hm);have cK:=apJ ak;rw[cu]at*
 generalize jw (ss L[i].2) L[i].2.bn=b at*
 generalize L[i].1.k=o3 at*
 cases o3 with
 |false=>
  simp[SE.den,ak,hw,cK,ao];exact .mk () rfl aj trivial
 |true=>
  simp[SE.den,ak,hw,cK,ao];refine⟨_,Mq,?_⟩;cases b with
  |false=>
   simp;omega
  |true=>simp;exact .mk () rfl aj trivial
def BkP(p:Pg)(acc:List Ac)(b:Bk):Prop:=∃x i m r,Pl p x i m r/\w8 p x x.aS.length acc/\b=⟨x.o,oS r acc x⟩
structure UnP(p:Pg)(acc:List Ac)(u:Un):Prop where
 o:u.bs.map Bk.o=jZ u.s u.n p.aQ
 b:∀b∈u.bs,BkP p acc b
 la:0<=u.la/\u.la<=(jZ u.s u.n p.aQ).length
def ajd{p:Pg}(h:DA p):p.bM.Nodup:=by
 rw[List.nodup_iff_pairwise_ne,aAd];intro i j hi hj qN he;have:=h.u j hj;have hb:jN (p.bM.take j) p.bM[j].s p.bM[j].n=ab:=(vu _ _ _).2 ⟨p.bM[i],aBm.2 ⟨i,by omega,rfl⟩,by rw[he],by rw[he]⟩;rw[this]at hb;cases hb
def aje{p:Pg}(hp:m_ p)(bf:DA p){us:List Un}{acc:List Ac}(ha:BX BW 100 acc)(hd:us.map pq=p.bM)(hu:∀u∈us,UnP p acc u):Eh us acc p.aQ.length:=by
 have hr:=hp.r;have hdl:=hp.d;have Ca:us.length=p.bM.length:=by rw[<-hd,azq]
 refine⟨by omega,by omega,by have:=ha.l;omega,λa h=>⟨(ha.p a h).2,(ha.p a h).1⟩,λu hm=>?_,by rw[hd];exact ajd bf⟩;obtain⟨ho,hb,hla⟩:=hu u hm;have Qr:=yf u.s u.n p.aQ hp.rs;have Hu:u.bs.length=(jZ u.s u.n p.aQ).length:=by rw[<-ho,azq]
 have hdm:pq u∈p.bM:=hd▸ay8.2 ⟨u,hm,rfl⟩;have hdo:=bf.d _ hdm;refine⟨by omega,hdo.1,hdo.2,by omega,λb A4=>?_⟩;obtain⟨x,i,m,r,gd,hc,rfl⟩:=hb b A4;have dR:x.o∈jZ u.s u.n p.aQ:=by rw[<-ho];exact ay8.2 ⟨_,A4,rfl⟩
 obtain⟨i',m',r',a,hoc,aT,hs,hn⟩:=Qo.1 dR;have hi:i'=i:=by have:=hoc.or;have:=gd.oc.or;omega
 have hmm:m'=m:=by have:=hoc.oh;have:=gd.oc.oh;omega
 subst hi;subst hmm;obtain rfl:r'=r:=aAK (hoc.ru.symm.trans gd.oc.ru);have hrr:=gd.rule;have hda:dA a=⟨u.s,u.n⟩:=by unfold dA;rw[hs,hn]
 refine⟨gd.axf hc gd.ap1,hrr.2.2,?_⟩;rw[hd,<-hda];exact gd.axi hc aT
def atE{a:List Bk}{b:Bk}(h:a.length<=1000):cX 4 48 (zu a) (.tree 4 [.agg [iI b.o.r,iI b.o.h,iB b.o.k,cn b.c]])=aa (zu (a++[b])):=by
 have h2:fM 4 [.agg [iI b.o.r,iI b.o.h,iB b.o.k,cn b.c]]=ab:=rfl;simp[cX,h2,uD];omega
def atG{a:List Un}{u:Un}(h:a.length<=1000):cX 5 64 (qu a) (.tree 5 [.agg [iS u.s,iI u.n,zu u.bs,iB u.nv,iI u.la]])=aa (qu (a++[u])):=by
 have h2:fM 5 [.agg [iS u.s,iI u.n,zu u.bs,iB u.nv,iI u.la]]=ab:=rfl;simp[cX,h2,rF];omega
def MpB(p:Pg)(acc:List Ac)(l:List Pn)(cs:List (Oc×IV)):Prop:=∃F,ma cs F/\∀x∈l,∃b,BkP p acc b/\b.o=x.o/\F x.o=aa (uD b)
theorem MpB.get{p:Pg}{acc:List Ac}{l:List Pn}{cs:List (Oc×IV)}(h:MpB p acc l cs){o:Oc}(ho:o∈l.map Pn.o):∃b,BkP p acc b/\b.o=o/\nQ ayF 28 (iV kg cs) (.agg [iI o.r,iI o.h,iB o.k]) (.agg [iI 0,iI 0,iB af,.tree 7 []])=aa (.agg [iI b.o.r,iI b.o.h,iB b.o.k,cn b.c]):=by
 obtain⟨F,hm,hx⟩:=h;obtain⟨x,yS,rfl⟩:=ay8.1 ho;obtain⟨b,h1,h2,h3⟩:=hx x yS;refine⟨b,h1,h2,?_⟩;have:=hm.get ai1 x.o (.agg [iI 0,iI 0,iB af,.tree 7 []]);rw[h3]at this;exact this
def WT(p:Pg)(acc:List Ac)(us:List Un):Prop:=∀u∈us,UnP p acc u
def BsP(p:Pg)(acc:List Ac)(bs:List Bk):Prop:=∀b∈bs,BkP p acc b
section
variable{Q:IV->Prop}{k0 k1:List IV->Prop}{x0 x1 x2 x3 x4:IV}
def atH(p:Pg)(acc:List Ac)(l:List Pn)(cs:List (Oc×IV))(bH:MpB p acc l cs)(i:Nat)(hi:i<1000)(us:List Un)(yX:us.length<=1000)(d:De)(nv:Bool)(la:Int)(os:List Oc)(Ey:os.length<=100)(u6:∀o∈os,o∈l.map Pn.o)
 (hk:∀bs:List Bk,bs.map Bk.o=os->BsP p acc bs->k1 [iI (i+1:Nat),qu (us++[⟨d.s,d.n,bs,nv,la⟩])]):
 Wv.sat ayF CC Q [k0,k1] [x0,x1,x2,x3,x4,iV kg cs,iI i,qu us,xW d,iB nv,iI la,ju os]:=by
 have kI:=aH hi aj;have hD:xW d=.agg [iS d.s,iI d.n]:=rfl;rw[hD];unfold Wv;refine aB os.length (λj (bs:List Bk)=>[iI j,zu bs]) (λj bs=>bs.map Bk.o=os.take j/\BsP p acc bs) [] ?_ ⟨by simp,by intro b hb;cases hb⟩ λj bs hj hI=>?_
 .simp[aJ]
 obtain⟨fZ,jE⟩:=hI
 have Hu:bs.length=j:=by
  have:=congrArg azj fZ;simp at this;omega
 by_cases ak:j<os.length
 .have hw:=aH ak aj;obtain⟨b,cd,dw,hg⟩:=bH.get (u6 _ (ayJ ak));have je:=atE (a:=bs) (b:=b) aj
  have fP:qp os.length (λj (bs:List Bk)=>[iI j,zu bs]) (λj bs=>bs.map Bk.o=os.take j/\BsP p acc bs) j [iI (j+1:Nat),zu (bs++[b])]:=.mk (bs++[b]) rfl aj ⟨by rw[azQ,fZ,ayN ak];simp[dw],λy hy=>by
   rcases ayS.1 hy with hy|hy
   .exact jE y hy
   .obtain rfl:=ayU.1 hy;exact cd⟩
  simp[aJ,ak,hw,PM ak,ao,hg,cellsOf];exact⟨_,je,fP⟩
 .rw[ayV aj]at fZ;have je:=atG (a:=us) (u:=⟨d.s,d.n,bs,nv,la⟩) aj;have hk:=hk bs fZ jE;simp only at je;generalize qu (us++[⟨d.s,d.n,bs,nv,la⟩])=z at*
  simp[aJ,ak,kI,ao,cellsOf];exact⟨_,je,hk⟩
def atI(p:Pg)(hp:m_ p)(bf:DA p)(hf:∀r∈p.aQ,mO r)(acc:List Ac)(IM:BX BW 100 acc)(l:List Pn)(hl:l.map Pn.o=occs p.aQ)(cs:List (Oc×IV))(bH:MpB p acc l cs)
 (hQ:∀us:List Un,us.map pq=p.bM->WT p acc us->Q (.aF [mR us acc p.aQ.length,iI 0])):
 Ww.sat ayF CC Q [k0] [bg p,x1,x2,eP acc,x4,iV kg cs]:=by
 have hdl:=hp.d;have qM:=hp.r;have h49:=λs n=>k49 p hp hf s n;have h50:=λs n=>k50 p hp hf s n;have h51:=λs n=>k51 p hp s n;have Qr:=λs n=>yf s n p.aQ hp.rs;have ahp:∀s n,∀o∈jZ s n p.aQ,o∈l.map Pn.o:=λs n o ho=>by rw[hl];exact ahj ho
 have hy:=λk1 i hi us yX d nv la os Ey u6 hk=>atH (Q:=Q) (k0:=k0) (k1:=k1) (x0:=bg p) (x1:=x1) (x2:=x2) (x3:=eP acc) (x4:=x4) p acc l cs bH i hi us yX d nv la os Ey u6 hk;have h52:=λus h1 h2=>k52 us acc p.aQ.length (aje hp bf IM h1 h2);have hP:bg p=.agg [gj p.bM,mN p.aQ]:=rfl;rw[hP]at*
 unfold Ww;refine aB p.bM.length (λi (us:List Un)=>[iI i,qu us]) (λi us=>us.map pq=p.bM.take i/\WT p acc us) [] ?_ ⟨by simp,by intro b hb;cases hb⟩ λi us hi hI=>?_
 .simp[aJ]
 obtain⟨fZ,jE⟩:=hI
 have Hu:us.length=i:=by
  have:=congrArg azj fZ;simp at this;omega
 by_cases ak:i<p.bM.length
 .obtain⟨nv,hnv⟩:=h49 p.bM[i].s p.bM[i].n;obtain⟨la,hla,axj⟩:=h50 p.bM[i].s p.bM[i].n;have h51:=h51 p.bM[i].s p.bM[i].n;have Qr:=Qr p.bM[i].s p.bM[i].n;have ahp:=ahp p.bM[i].s p.bM[i].n
  have hy:=hy (qp p.bM.length (λi (us:List Un)=>[iI i,qu us]) (λi us=>us.map pq=p.bM.take i/\WT p acc us) i) i aj us aj p.bM[i] nv la (jZ p.bM[i].s p.bM[i].n p.aQ) aj ahp λbs cd dw=>.mk (us++[⟨p.bM[i].s,p.bM[i].n,bs,nv,la⟩]) rfl aj ⟨by rw[azQ,fZ,ayN ak];rfl,λu hu=>by
   rcases ayS.1 hu with hu|hu
   .exact jE u hu
   .obtain rfl:=ayU.1 hu;exact⟨cd,dw,hla⟩⟩
  have cK:cb 2 (gj p.bM) (iI i)=aa (.agg [iS p.bM[i].s,iI p.bM[i].n]):=cM (by simp[ak,xW]) rfl;have hD:xW p.bM[i]=.agg [iS p.bM[i].s,iI p.bM[i].n]:=rfl;rw[hD]at hy;generalize jZ p.bM[i].s p.bM[i].n p.aQ=os at*
  simp[aJ,ak,cK,ao];refine⟨_,hnv,?_⟩;simp[aJ];refine⟨_,axj,?_⟩;simp[aJ];refine⟨_,h51,?_⟩;simp[aJ];exact hy
 .rw[ayV aj]at fZ;have h52:=h52 us fZ jE;have hQ:=hQ us fZ jE;have hM:mR us acc p.aQ.length=.agg [qu us,eP acc,iI p.aQ.length]:=rfl;rw[hM]at h52 hQ;simp[aJ,ak,ao];refine⟨_,h52,?_⟩;simp[aJ];exact hQ
def atJ(p:Pg)(hp:m_ p)(bf:DA p)(hz:∀r∈p.aQ,IP r)(hf:∀r∈p.aQ,mO r)(acc:List Ac)(IM:BX BW 100 acc)(l:List Pn)(hl:l.map Pn.o=occs p.aQ)(gd:∀x∈l,Zi p x.o x)(ap2:∀x∈l,w8 p x x.aS.length acc)
 (hQ:∀us:List Un,us.map pq=p.bM->WT p acc us->Q (.aF [mR us acc p.aQ.length,iI 0])):
 Wx.sat ayF CC Q [] [bg p,x1,DI l,eP acc]:=by
 have NY:l.length<=24:=by
  have h1:=congrArg azj hl;have h2:=pW p.aQ hp.rs;have h3:=hp.r;rw[azq]at h1;omega
 have hac:YW acc:=⟨by have:=IM.l;omega,λa ha=>(IM.p a ha).1⟩
 have BE:∀x∈l,∃i m r,Pl p x i m r:=λx hx=>by
  obtain⟨_,h2,_⟩:=gd x hx;have hm:x.o∈occs p.aQ:=by rw[<-hl];exact ay8.2 ⟨x,hx,rfl⟩
  obtain⟨i,m,r,h⟩:=sw.1 hm;exact⟨i,m,r,hp,bf,h,h2⟩
 have TQ:∀x∈l,∃b,BkP p acc b/\b.o=x.o/\CC 11 af [bg p,eP acc,cB x] (.aF [.agg [iI b.o.r,iI b.o.h,iB b.o.k,cn b.c],iI 0]):=λx hx=>by
  obtain⟨i,m,r,h⟩:=BE x hx;obtain⟨_,_,h3,h4⟩:=gd x hx;have hb:=NS p hp hz bf acc hac x h3 aj h.oc h.rt (h.axc (ap2 x hx)) h.ap1;exact⟨⟨x.o,oS r acc x⟩,⟨x,i,m,r,h,ap2 x hx,rfl⟩,rfl,hb⟩
 have hy:=λk0 x4 cs bH=>atI (Q:=Q) (k0:=k0) (x1:=x1) (x2:=DI l) (x4:=x4) p hp bf hf acc IM l hl cs bH hQ;have hP:bg p=.agg [gj p.bM,mN p.aQ]:=rfl;rw[hP]at*
 unfold Wx;refine aB l.length (λi (cs:List (Oc×IV))=>[iI i,iV kg cs]) (λi cs=>MpB p acc (l.take i) cs) [] ?_ ⟨_,ma.nil,by simp⟩ λi cs hi hI=>?_
 .simp[aJ,iV]
 by_cases ak:i<l.length
 .have hw:=aH ak aj;obtain⟨b,cd,dw,TQ⟩:=TQ _ (ayJ ak);obtain⟨F,hF1,KR⟩:=hI;obtain⟨bK,bH,iF⟩:=hF1.ins ai1 l[i].o (uD b);have iF:nP ayF 28 (iV kg cs) (.agg [iI l[i].o.r,iI l[i].o.h,iB l[i].o.k]) (.agg [iI b.o.r,iI b.o.h,iB b.o.k,cn b.c])=aa (iV kg bK):=iF;have hN:cB l[i]=.agg [iI l[i].o.r,iI l[i].o.h,iB l[i].o.k,iL l[i].aS,dC l[i].dU,dC l[i].dW]:=rfl;have cK:=ao0 ak;rw[hN]at TQ cK;simp[aJ,ak,hw,cK,ao];refine⟨_,TQ,?_⟩;simp[aJ,ao,iF];refine .mk bK rfl aj ⟨_,bH,λx hx=>?_⟩;rw[ayN ak]at hx;by_cases e:x.o=l[i].o
  .exact⟨b,cd,by rw[e,dw],by rw[if_pos e]⟩
  .rcases ayS.1 hx with hx|hx
   .obtain⟨c,h1,h2,h3⟩:=KR x hx;exact⟨c,h1,h2,by rw[if_neg e];exact h3⟩
   .obtain rfl:=ayU.1 hx;exact absurd rfl e
 .rw[ayV aj]at hI;simp[aJ,ak];exact hy _ _ _ hI
end
def k15(p:Pg)(hp:m_ p)(hz:∀r∈p.aQ,IP r)(bf:DA p):∃us acc,(us.map pq=p.bM/\WT p acc us)/\Eh us acc p.aQ.length/\CC 15 af [bg p] (.aF [mR us acc p.aQ.length,iI 0]):=by
 have hf:∀r∈p.aQ,mO r:=λr hr=>(bf.r r hr).form (hp.rn r hr)
 suffices hs:agO.sat ayF CC (λz=>∃us acc,z=.aF [mR us acc p.aQ.length,iI 0]/\us.map pq=p.bM/\WT p acc us/\Eh us acc p.aQ.length) [] [bg p] by
  obtain⟨z,⟨us,acc,rfl,h1,h2,h3⟩,hz⟩:=CC.Ix (args:=[bg p]) asV kr (by rintro _ ⟨us,acc,rfl,_⟩;exact kr) (dL (du p)) (by rintro _ ⟨us,acc,rfl,_⟩;exact .aF _ (by simp;exact .agg _ aw)) (by rfl) hs;exact⟨us,acc,⟨h1,h2⟩,h3,hz⟩
 have h31:=k31 p hp bf;obtain⟨l,⟨om,gb⟩,h47⟩:=k47 p hp hf
 have NY:l.length<=24:=by
  have h1:=congrArg azj om;have h2:=pW p.aQ hp.rs;have h3:=hp.r;rw[azq]at h1;omega
 have o9:∀x∈l,PlA p BW x:=λx hx=>by
  obtain⟨_,h2,_⟩:=gb x hx;have hm:x.o∈occs p.aQ:=by rw[<-om];exact ay8.2 ⟨x,hx,rfl⟩
  obtain⟨i,m,r,h⟩:=sw.1 hm;exact(⟨hp,bf,h,h2⟩:Pl p x i m r).plA
 obtain⟨acc,th,wM,h48⟩:=k48 p hp BW l aj o9;have ha3:BX BW 100 acc:=⟨by have:=th.l;omega,th.p⟩;have hy:=λx1=>atJ (Q:=λz=>∃us acc,z=.aF [mR us acc p.aQ.length,iI 0]/\us.map pq=p.bM/\WT p acc us/\Eh us acc p.aQ.length) (x1:=x1) p hp bf hz hf acc ha3 l om gb wM λus h1 h2=>⟨us,acc,rfl,h1,h2,aje hp bf ha3 h1 h2⟩;have hP:bg p=.agg [gj p.bM,mN p.aQ]:=rfl;rw[hP]at*
 simp[agO,aJ,ao];refine⟨_,h31,?_⟩;simp[aJ];refine⟨_,h47,?_⟩;simp[aJ];refine⟨_,h48,?_⟩;simp[aJ];exact hy _
theorem R8{α β:Type}(f:α->List β)(P:α->β->Bool)(R:β->Bool):∀l:List α,(∀q∈l,∀o∈f q,P q o=R o)->(l.flatMap λq=>(f q).filter (P q))=(l.flatMap f).filter R
 |[],_=>rfl
 |q::l,h=>by
  rw[aAa,aAa,aAZ,R8 f P R l λx hx=>h x (azg _ hx),List.filter_congr λo ho=>h q aw o ho]
def Fi(p:Pg)(s:List UInt8)(n:Int)(o:Oc):Bool:=match p.aQ[o.r.toNat]? with
 |some r=>rG (r.ax++r.az) s n o
 |none=>af
def Oe(p:Pg)(s:List UInt8)(n:Int):jZ s n p.aQ=(occs p.aQ).filter (Fi p s n):=by
 unfold jZ occs Oa;refine R8 (λq:Rl×Nat=>wR q.2 q.1) (λq=>rG (q.1.ax++q.1.az) s n) (Fi p s n) _ λ⟨r,i⟩ hq o ho=>?_;rw[aAG]at hq;obtain⟨m,hm,rfl⟩:=BQ.1 ho;simp only[Fi,aAM,hq]
def aeH{p:Pg}{o:Oc}{i m:Nat}{r:Rl}(h:Ef p o i m r)(s:List UInt8)(n:Int):Fi p s n o=(((r.ax++r.az)[m]'h.lt).s==s&&(((r.ax++r.az)[m]'h.lt).ts.length:Int)==n):=by
 simp only[Fi,rG,h.or,h.oh,aAM,h.ru,ayG h.lt]
def k16(p:Pg)(h:m_ p)(s:List UInt8)(n:Int):CC 16 af [bg p,iS s,iI n] (ju (jZ s n p.aQ)):=by
 refine CC.of ary kr kr (w7 (du p) aw aw) aw ?_;have h18:=k18 p h;have hl:=pW p.aQ h.rs;have hr:=h.r;have hm:∀o∈occs p.aQ,∃i m r,Ef p o i m r:=λo ho=>sw.1 ho;have vt:∀r∈p.aQ,r.ax.length+r.az.length<=3:=λr hr=>(h.rs r hr).h;rw[Oe];have hP:bg p=.agg [gj p.bM,mN p.aQ]:=rfl;rw[hP]at*
 generalize hO:occs p.aQ=os at*
 simp[amv,aJ,ao];refine⟨_,h18,?_⟩;simp[aJ];unfold acZ;refine aB os.length (λi (l:List Oc)=>[iI i,ju l]) (λi l=>l=(os.take i).filter (Fi p s n)) [] ?_ aw λi l hi hI=>?_
 .simp[aJ]
 by_cases ak:i<os.length
 rotate_left
 .simp[aJ,ak];rw[hI,ayV aj]
 have hw:=aH ak aj;obtain⟨j,m,r,ho⟩:=hm _ (ayJ ak);obtain⟨hj,hjr⟩:=ayH.1 ho.ru;have hR:=xY hj;rw[hjr,<-ho.or]at hR;have h39:=c91 r (by have:=vt r (ayX ho.ru);omega);rw[cu]at h39;have hA:=pe ho.lt;rw[<-ho.oh]at hA;have k_:=aeH ho s n;have NY:l.length<=i:=by rw[hI];exact ay6 (aBD ..) (by simp;omega)
 have bL:(os.take (i+1)).filter (Fi p s n)=l++if Fi p s n os[i]=ab then[os[i]]else[]:=by
  rw[ayN ak,aAZ,<-hI]
  congr 1
  cases h:Fi p s n os[i]<;>simp[h]
 have je:=SY (a:=l) (b:=[os[i]]) (by simp;omega);have fP:qp os.length (λi (l:List Oc)=>[iI i,ju l]) (λi l=>l=(os.take i).filter (Fi p s n)) i [iI (i+1:Nat),ju (l++if Fi p s n os[i]=ab then[os[i]]else[])]:=.mk _ rfl aj bL.symm;have cK:=PM ak;have je:cX 3 24 (ju l) (.tree 3 [.agg [iI os[i].r,iI os[i].h,iB os[i].k]])=aa (ju (l++[os[i]])):=je;rw[k_]at fP;generalize os[i]=o at*
 generalize(r.ax++r.az)[m]'ho.lt=a at*
 generalize r.ax++r.az=hs at*
 simp[aJ,ak,cK,hw,hR,ao];refine⟨_,h39,?_⟩;simp[aJ,hA,ao,aL,cellsOf,je,hw];by_cases e1:a.s=s
 .by_cases e2:(a.ts.length:Int)=n
  .simp[e1,e2]at fP⊢;exact fP
  .simp[e1,e2]at fP⊢;exact fP
 .simp[e1]at fP⊢;exact fP
theorem sum_add{α:Type}(Q:α->Bool)(f:α->Nat):∀ds:List α,(ds.map λd=>(if Q d=ab then 1 else 0)+f d).sum=ds.countP Q+(ds.map f).sum
 |[]=>rfl
 |d::ds=>by
  rw[azr,azr,aBr,aBr,sum_add Q f ds,aDp];omega
theorem WU{α:Type}:∀ds:List α,(ds.map λ_=>0).sum=0
 |[]=>rfl
 |d::ds=>by rw[azr,aBr,WU ds]
theorem Of{α β:Type}(ds:List α)(P:α->β->Bool):∀L:List β,(∀o∈L,ds.countP (λd=>P d o)=1)->(ds.map λd=>(L.filter (P d)).length).sum=L.length
 |[],_=>WU ds
 |o::L,h=>by
  have e:(λd=>((o::L).filter (P d)).length)=λd=>(if P d o=ab then 1 else 0)+(L.filter (P d)).length:=by
   funext d;rw[List.filter_cons];split<;>simp;omega
  rw[e,sum_add (λd=>P d o),h o aw,Of ds P L λx hx=>h x (azg _ hx),azh];omega
theorem aeI{α:Type}(P:α->Bool)(d0:α)(hP:∀d,P d=ab↔d=d0):∀ds:List α,ds.Nodup->d0∈ds->ds.countP P=1
 |d::ds,hn,hm=>by
  have hn:=azP.1 hn;rw[aDp];by_cases h:P d=ab
  .have:=(hP d).1 h;subst this;have h0:ds.countP P=0:=List.countP_eq_zero.2 λx hx hxp=>hn.1 ((hP x).1 hxp▸hx);rw[h0,if_pos h]
  .rw[if_neg h];rcases ayW.1 hm with rfl|hm
   .exact absurd ((hP _).2 rfl) h
   .exact aeI P d0 hP ds hn.2 hm
def ald{p:Pg}(bf:DA p):(p.bM.map λd=>(jZ d.s d.n p.aQ).length).sum=(occs p.aQ).length:=by
 have e:(λd:De=>(jZ d.s d.n p.aQ).length)=λd=>((occs p.aQ).filter (Fi p d.s d.n)).length:=funext λd=>by rw[Oe]
 rw[e];refine Of p.bM (λd=>Fi p d.s d.n) _ λo ho=>?_;obtain⟨i,m,r,h⟩:=sw.1 ho;have hr:=bf.r r (ayX h.ru);have ha:=hr.m.h _ (ayJ h.lt);obtain⟨d,hd,h1,h2⟩:=(vu _ _ _).1 ha;refine aeI _ d (λx=>?_) _ (ajd bf) hd;rw[aeH h];obtain⟨xs,xn⟩:=x;obtain⟨ds,dn⟩:=d;simp only at h1 h2;simp[<-h1,<-h2]
 grind
section
variable{Q:IV->Prop}{k0:List IV->Prop}{x0 x1 x2 x3:IV}
def axk(u:Un)(os:List Oc)(u6:u.bs.map Bk.o=os)(Ey:os.length<=100)(hb:∀b∈u.bs,WJ b.o b.c)(i n:Nat)(hi:i<1000)(hn:n<=100000)(hk:k0 [iI (i+1:Nat),iI (n+os.length:Nat)]):
 aa0.sat ayF CC Q [k0] [x0,x1,x2,x3,iI i,iI n,rF u,ju os]:=by
 have hE:rF u=.agg [iS u.s,iI u.n,zu u.bs,iB u.nv,iI u.la]:=rfl;have kI:=aH hi aj;have hwn:azc.wrap ((n:Int)+os.length)=((n+os.length:Nat):Int):=by rw[eN aj aj];simp
 rw[hE];unfold aa0;refine aB os.length (λk (_:Unit)=>[iI k]) (λ_ _=>True) () ?_ trivial λk _ fp _=>?_
 .simp[aJ]
 by_cases ak:k<os.length
 rotate_left
 .simp[aJ,ak,kI,hwn];simpa using hk
 have hw:=aH ak aj;have Mu:k<u.bs.length:=by rw[<-u6]at ak;simpa using ak
 have hbo:os[k]=u.bs[k].o:=by subst u6;simp
 have hK:=ahb Mu;have hO:=PM ak;rw[hbo]at hO;have h17:=k17 _ _ (hb _ (ayJ Mu));have hBB:∀o c,iG o c=.agg [iI o.r,iI o.h,iB o.k,cn c]:=λ_ _=>rfl;rw[hBB]at h17;generalize u.bs[k]=b at*
 simp[aJ,ak,hK,hO,hw,ao];refine⟨_,h17,?_⟩;simp[aJ];exact .mk () rfl aj trivial
end
def k4(p:Pg)(hp:NmP p)(hz:∀r∈p.aQ,IP r):CC 4 af [bg p] (iB ab):=by
 refine CC.cZ avm kr (λ_=>kr) (dL (du p)) (by rfl) ?_;obtain⟨b7,f7,h7⟩:=e30 p hp;have hP:bg p=.agg [gj p.bM,mN p.aQ]:=rfl;cases b7 with
 |false=>
  rw[hP]at*
  simp[cr4,aJ,ao];refine⟨_,h7,?_⟩;simp[aJ]
 |true=>
 have Hv:=f7 rfl;obtain⟨a9,n9,f9,h9⟩:=v34 p Hv hz;by_cases e9:n9=0
 rotate_left
 .rw[hP]at*
  simp[cr4,aJ,ao];refine⟨_,h7,?_⟩;simp[aJ];refine⟨_,h9,?_⟩;simp[aJ,e9]
 have bf:=f9 e9;obtain⟨us,acc,⟨xg,y6⟩,him,h15⟩:=k15 p Hv hz bf;have h14:=k14;have h18:=k18 p Hv;have h16:=λs n=>k16 p Hv s n;have h19:=k19 us acc _ him;have Ca:us.length<=12:=by have:=congrArg azj xg;have:=Hv.d;rw[azq]at*;omega
 have Qr:=λs n=>yf s n p.aQ Hv.rs;have qM:=Hv.r
 have af4:(us.map λu=>(jZ u.s u.n p.aQ).length).sum=(occs p.aQ).length:=by
  rw[<-ald bf,<-xg,List.map_map];rfl
 have hy:=λk0 x1 x2 x3 u=>axk (Q:=xV (·=ab)) (k0:=k0) (x0:=bg p) (x1:=x1) (x2:=x2) (x3:=x3) u;have hM:mR us acc p.aQ.length=.agg [qu us,eP acc,iI p.aQ.length]:=rfl;rw[hM]at h15 h19;rw[hP]at*
 generalize hO:(occs p.aQ).length=ol at*
 simp[cr4,aJ,ao];refine⟨_,h7,?_⟩;simp[aJ];refine⟨_,h9,?_⟩;simp[aJ,e9];refine⟨_,h15,?_⟩;simp[aJ,ao];unfold ah4;refine aB us.length (λi (n:Nat)=>[iI i,iI n]) (λi n=>n=((us.map λu=>(jZ u.s u.n p.aQ).length).take i).sum/\n<=100*i) 0 ?_ aw λi n hi hI=>?_
 .simp[aJ]
 obtain⟨hI,hIn⟩:=hI;by_cases ak:i<us.length
 .have hu:=y6 _ (ayJ ak);have hbo:=(him.u _ (ayJ ak)).b;have h16:=h16 us[i].s us[i].n;have Qr:=Qr us[i].s us[i].n;have Hu:=congrArg azj hu.o;rw[azq]at Hu
  have bL:n+(jZ us[i].s us[i].n p.aQ).length=((us.map λu=>(jZ u.s u.n p.aQ).length).take (i+1)).sum:=by
   rw[ayN (by simpa using ak),List.sum_append,<-hI];simp
  have cK:=I9 ak;have hyy:=λx1 x2 x3=>hy (qp us.length (λi (n:Nat)=>[iI i,iI n]) (λi n=>n=((us.map λu=>(jZ u.s u.n p.aQ).length).take i).sum/\n<=100*i) i) x1 x2 x3 us[i] _ hu.o aj (λb hb=>(hbo b hb).k) i n aj aj (.mk _ rfl aj ⟨bL,by omega⟩);have hE:rF us[i]=.agg [iS us[i].s,iI us[i].n,zu us[i].bs,iB us[i].nv,iI us[i].la]:=rfl;rw[hE]at hyy;generalize us[i]=u at*
  simp[aJ,ak,cK,ao];refine⟨_,h16,?_⟩;simp[aJ,Hu];exact hyy _ _ _
 .rw[ayV (by simp;omega),af4]at hI;simp[aJ,ak,ao];refine⟨_,h18,?_⟩;simp[aJ,hO,hI];refine⟨_,h19,?_⟩;simp[aJ];refine⟨_,h14,?_⟩;simp[aJ]
end
end Go.Proofs.YtabefplkfkfdfaaGreat
namespace Go.Ev
open Go
variable{H:Type}{enc:TypeId×Value->H}{P:Program}{w:World}{sp:Nat->Bool}{held:Bool}
def mv{a:Addr}{n:Nat}{us:List Value}(h:w.cells? 0 a n=aa us):us.length=n/\∀j,j<n->w.cell? (a.add j)=us[j]? :=by
 unfold World.cells? at h;rw[if_pos (azz _)]at h;exact⟨by simpa using mapM_some_length h,λj hj=>mapM_some_get h j j (by simp[hj])⟩
def Og{b off:Nat}{v:Value}(h:w.cell? ⟨b,off,ah⟩=aa v):qJ (allM w) b off=aa v:=by
 unfold World.cell? at h;simp only at h;split at h
 .rename_i c e f hb;rw[if_neg aw]at h;unfold qJ allM;rw[hb];exact h
 .cases h
def G_(b off n:Nat):(⟨b,off,ah⟩:Addr).add n=⟨b,off+n,ah⟩:=by
 unfold aDL;split
 .rename_i h;subst h;rfl
 .rfl
def abS{α:Type}(f:α->IV){s:Nat}(hs:0<s)(bH:∀a,(cellsOf (f a)).length=s)(Ok:α->Prop){t e:TypeId}(ht:P.underlying t=aa (.slice e))(hP:P.cellsOf e=s){fuel:Nat}{u:Value}{x:DataW H×List MemPlace}
 (py:∀n us x,n<fuel->azZ enc P w 0 sp held n e us=aa x->us.length=s->∃a,Ok a/\aN (jf (allM w)) (cellsOf (f a)) us)
 (h:azZ enc P w 0 sp held fuel t [u]=aa x):∃l:List α,l.length<=9223372036854775807/\(∀a∈l,Ok a)/\Rv (jf (allM w)) (.tree s (l.map f)) u:=by
 rcases aDd ht h with⟨h1,_⟩|⟨a,len,cap,elems,rest,n,hfu,h1,_,_,w_,hcm,hlen,aT,_,_⟩
 .obtain rfl:=(aA1 h1).1;exact⟨[],by simp,by simp,.eJ s ah 0 hs (λ_=>rfl)⟩
 .obtain rfl:=(aA1 h1).1;by_cases mc:len=0
  .subst mc;exact⟨[],by simp,by simp,.eJ s (aa a) cap hs aw⟩
  .have key:∀i:Fin len,∃p:List Value×α,w.cells? 0 (a.add (i.1*s)) s=aa p.1/\Ok p.2/\aN (jf (allM w)) (cellsOf (f p.2)) p.1:=λi=>by
    have hi:=aT i.1 i.2;rw[hP]at hi;have zb:elems[i.1]?=aa elems[i.1]:=ayG aj;rw[zb]at hi;obtain⟨us,xg,y6⟩:=ay4.1 hi;obtain⟨b,cd,dw⟩:=py n us _ aj y6 (mv xg).1;exact⟨(us,b),xg,cd,dw⟩
   obtain⟨g,hg⟩:=aCf key
   have Oh:a.spot=ah:=by
    obtain⟨Hb,_,_⟩:=hg ⟨0,by omega⟩;obtain⟨om,gb⟩:=mv Hb;have h0:=gb 0 hs;rw[ayG aj]at h0;have:=aDe h0;simpa[aDL]using this
   obtain⟨b,off,spot⟩:=a;simp only at Oh;subst Oh
   have jH:∀i (hi:i<len) j,j<s->w.cell? ⟨b,off+(i*s+j),ah⟩=(g ⟨i,hi⟩).1[j]? :=λi hi j hj=>by
    have:=(mv (hg ⟨i,hi⟩).1).2 j hj;rw[G_,G_]at this;rw[<-aAr];exact this
   refine⟨aBx λi=>(g i).2,by simp;have:maxLen=9223372036854775807:=rfl;omega,?_,?_⟩
   .intro c hc;obtain⟨i,rfl⟩:=(aDV (f:=λi=>(g i).2)).1 hc;exact(hg i).2.1
   .have py:((aBx λi=>(g i).2).map f).length=len:=aw;have hR:=Rv.tree (ι:=jf (allM w)) s ((aBx λi=>(g i).2).map f) b off cap (λk=>(w.cell? ⟨b,off+k,ah⟩).getD Go.undef) hs (by rw[py];exact w_) ?_ ?_ ?_
    .rw[py]at hR;exact hR
    .intro e' gw;obtain⟨c,_,rfl⟩:=ay8.1 gw;exact bH c
    .intro k hk;rw[py]at hk;have hi:k/s<len:=aCP (by rw[aB2];exact hk);have hj:k % s<s:=aEg _ hs;have hc:=jH (k/s) hi (k % s) hj;have c8:k/s*s+k % s=k:=by rw[aB2];exact aDM k s
     rw[c8]at hc;have om:=(mv (hg ⟨k/s,hi⟩).1).1;rw[ayG aj]at hc;rw[Og hc,hc];rfl
    .intro i e' j c gw hc;rw[ay1,aCZ]at gw;split at gw
     .rename_i hi;simp only[azl,ayO]at gw;subst gw;have hj:j<s:=by have:=(ayH.1 hc).1;rw[bH]at this;exact this
      have ow:=jH i hi j hj;have om:=(mv (hg ⟨i,hi⟩).1).1;rw[ayG aj]at ow;simp only[ow,aAy];exact(hg ⟨i,hi⟩).2.2.2 j c _ hc (ayG _)
     .simp at gw
def abT{t:TypeId}{fs:Array Field}{cs:List Value}{fuel:Nat}{x:DataW H×List MemPlace}(ht:P.underlying t=aa (.struct fs))(h:azZ enc P w 0 sp held fuel t cs=aa x):
 ∃n,fuel=n+1/\∀(i:Nat) (ty:TypeId) (off k:Nat),(fs[i]?).map (λf:Field=>(f.type,f.offset))=aa (ty,off)->P.cellsOf ty=k->∃y,azZ enc P w 0 sp held n ty ((cs.drop off).take k)=aa y:=by
 obtain⟨xs,n,h1,_,_,h4,h5⟩:=aC0 ht h;refine⟨n,h1,λi ty off k hi hk=>?_⟩;obtain⟨f,hf,Tp⟩:=ayR.1 hi;simp only[aAt]at Tp;obtain⟨rfl,rfl⟩:=Tp
 have zT:i<xs.length:=by
  rw[h4];exact(azx.1 hf).1
 have:=h5 i f hf;rw[ayG zT,hk]at this;exact⟨_,this⟩
end Go.Ev
namespace Go.Proofs.YtabefplkfkfdfaaGreat
open Go Go.Ev
variable{H:Type}{enc:TypeId×Value->H}{w:World}{sp:Nat->Bool}{held:Bool}
noncomputable def fieldsOf(t:TypeId):Array Field:=match ayF.underlying t with
 |some (.struct fs)=>fs
 |_=> #[]
def axl:ayF.underlying 9=aa .string:=by kernel_rfl
def atK:ayF.underlying 106=aa (.struct (fieldsOf 106)):=by kernel_rfl
def atL:ayF.underlying 99=aa (.struct (fieldsOf 99)):=by kernel_rfl
def ajf:ayF.underlying 68=aa (.slice 106):=by kernel_rfl
def cl3:ayF.cellsOf 3=1:=by kernel_rfl
def cl9:ayF.cellsOf 9=1:=by kernel_rfl
def ahq:ayF.cellsOf 68=1:=by kernel_rfl
def axm:ayF.cellsOf 99=2:=by kernel_rfl
def ap3:ayF.cellsOf 106=4:=by kernel_rfl
def aP(t i ty off:Nat):Prop:=((fieldsOf t)[i]?).map (λf:Field=>(f.type,f.offset))=aa (ty,off)
def atM:aP 106 0 3 0:=by unfold aP;kernel_rfl
def atN:aP 106 1 3 1:=by unfold aP;kernel_rfl
def atO:aP 106 2 9 2:=by unfold aP;kernel_rfl
def atP:aP 106 3 68 3:=by unfold aP;kernel_rfl
def atQ:aP 99 0 9 0:=by unfold aP;kernel_rfl
def atS:aP 99 1 68 1:=by unfold aP;kernel_rfl
abbrev Rd(w:World)(c:IV)(u:Value):Prop:=Rv (jf (allM w)) c u
def Ji{n:Nat}{u:Value}{x:DataW H×List MemPlace}(h:azZ enc ayF w 0 sp held n 3 [u]=aa x):∃a:Int,Rd w (iI a) u:=by
 obtain⟨a,h1,_⟩:=DataW.trod_int VT h;obtain rfl:=(aA1 h1).1;exact⟨a,.raw _⟩
def atT{α:Type}{l:List α}(h:l.length=4):∃a b c d,l=[a,b,c,d]:=by
 match l,h with
 |[a,b,c,d],_=>exact⟨a,b,c,d,rfl⟩
def atU{α:Type}{l:List α}(h:l.length=6):∃a b c d e f,l=[a,b,c,d,e,f]:=by
 match l,h with
 |[a,b,c,d,e,f],_=>exact⟨a,b,c,d,e,f,rfl⟩
def aeJ(t:Tm):(cellsOf (eE t)).length=4:=by rw[bG];rfl
def ajg:ayF.underlying 25=aa (.struct (fieldsOf 25)):=by kernel_rfl
def atV:ayF.underlying 82=aa (.struct (fieldsOf 82)):=by kernel_rfl
def atW:ayF.underlying 67=aa (.struct (fieldsOf 67)):=by kernel_rfl
def atX:ayF.underlying 70=aa (.struct (fieldsOf 70)):=by kernel_rfl
def atY:ayF.underlying 22=aa (.slice 82):=by kernel_rfl
def atZ:ayF.underlying 23=aa (.slice 67):=by kernel_rfl
def at0:ayF.underlying 64=aa (.slice 99):=by kernel_rfl
def at1:ayF.underlying 65=aa (.slice 70):=by kernel_rfl
def axn:ayF.cellsOf 22=1:=by kernel_rfl
def axo:ayF.cellsOf 23=1:=by kernel_rfl
def ap4:ayF.cellsOf 64=1:=by kernel_rfl
def ap5:ayF.cellsOf 65=1:=by kernel_rfl
def axp:ayF.cellsOf 82=2:=by kernel_rfl
def axq:ayF.cellsOf 67=6:=by kernel_rfl
def axr:ayF.cellsOf 70=3:=by kernel_rfl
def axs:ayF.cellsOf 25=2:=by kernel_rfl
def at2:aP 25 0 22 0:=by unfold aP;kernel_rfl
def at3:aP 25 1 23 1:=by unfold aP;kernel_rfl
def at4:aP 82 0 9 0:=by unfold aP;kernel_rfl
def at5:aP 82 1 3 1:=by unfold aP;kernel_rfl
def at6:aP 67 0 9 0:=by unfold aP;kernel_rfl
def at7:aP 67 1 64 1:=by unfold aP;kernel_rfl
def aua:aP 67 2 64 2:=by unfold aP;kernel_rfl
def aub:aP 67 3 65 3:=by unfold aP;kernel_rfl
def auc:aP 67 4 65 4:=by unfold aP;kernel_rfl
def aud:aP 67 5 3 5:=by unfold aP;kernel_rfl
def aue:aP 70 0 3 0:=by unfold aP;kernel_rfl
def auf:aP 70 1 9 1:=by unfold aP;kernel_rfl
def aug:aP 70 2 68 2:=by unfold aP;kernel_rfl
def abU{α:Type}{l:List α}(h:l.length=2):∃a b,l=[a,b]:=by
 match l,h with
 |[a,b],_=>exact⟨a,b,rfl⟩
def auh{α:Type}{l:List α}(h:l.length=3):∃a b c,l=[a,b,c]:=by
 match l,h with
 |[a,b,c],_=>exact⟨a,b,c,rfl⟩
def Jj{n:Nat}{u:Value}{x:DataW H×List MemPlace}(h:azZ enc ayF w 0 sp held n 9 [u]=aa x):∃a:List UInt8,Sm a/\Rd w (iS a) u:=by
 obtain⟨a,h1,h2⟩:=DataW.trod_string axl h;obtain rfl:=(aA1 h1).1;refine⟨a.data.toList,?_,?_⟩
 .have:=h2.2;simp only[maxLen]at this;show a.data.toList.length<=_;rw[aCL];have he:a.size=a.data.size:=rfl;omega
 .unfold iS;rw[bytes_eta];exact .raw _
def RdR(r:Rl):Prop:=rA r/\Sm r.ax/\Sm r.az/\Sm r.aG/\Sm r.bn
def axt(fuel:Nat)(us:List Value)(x:DataW H×List MemPlace)(h:azZ enc ayF w 0 sp held fuel 82 us=aa x)(hl:us.length=2):∃f:De,Sm f.s/\aN (jf (allM w)) (cellsOf (xW f)) us:=by
 obtain⟨a,b,rfl⟩:=abU hl;obtain⟨n,hn,hf⟩:=abT atV h;obtain⟨_,h0⟩:=hf 0 9 0 1 at4 cl9;obtain⟨_,h1⟩:=hf 1 3 1 1 at5 cl3;obtain⟨s,w0,r0⟩:=Jj h0;obtain⟨k,r1⟩:=Ji h1;exact⟨⟨s,k⟩,w0,aN.cons r0 (aN.cons r1 aN.nil)⟩
abbrev bk(d:DataW H):Nat:=Rows.uptoBulk d
theorem Oi:∀{l:List (DataW H)} {d:DataW H},d∈l->bk d<=az6 l
 |e::l,d,h=>by
  rcases ayW.1 h with h|h
  .subst h;simp only[az6];show bk d<=bk d+_;omega
  .have:=Oi h;simp only[az6];omega
theorem aeK:∀(l:List (DataW H)) (ns:List Nat),ns.length=l.length->(∀(i:Nat) (h:i<ns.length) (h':i<l.length),ns[i]<=bk l[i])->ns.sum<=az6 l
 |[],[],_,_=>by simp
 |d::l,n::ns,h,hb=>by
  have h0:=hb 0 aw aw;have ih:=aeK l ns (by simpa using h) λi h1 h2=>by have:=hb (i+1) (by simpa using h1) (by simpa using h2);simpa using this
  simp only[aBr,az6];simp only[List.getElem_cons_zero]at h0;show n+ns.sum<=bk d+_;omega
theorem Qs:∀{l:List Nat} {n:Nat},n∈l->n<=l.sum
 |m::l,n,h=>by
  rcases ayW.1 h with h|h
  .subst h;simp
  .have:=Qs h;simp;omega
theorem Mr:∀l:List Tm,cV l=(l.map jW).sum
 |[]=>rfl
 |t::l=>by simp[cV,Mr l]
def t_{P:Program}{α:Type}(f:α->IV){s:Nat}(hs:0<s)(bH:∀a,(cellsOf (f a)).length=s)(Ok:α->Prop)(μ:α->Nat){t e:TypeId}(ht:P.underlying t=aa (.slice e))(hP:P.cellsOf e=s){fuel:Nat}{u:Value}{x:DataW H×List MemPlace}
 (py:∀n us x',n<fuel->azZ enc P w 0 sp held n e us=aa x'->us.length=s->bk x'.1<=bk x.1->∃a,Ok a/\μ a<=bk x'.1/\aN (jf (allM w)) (cellsOf (f a)) us)
 (h:azZ enc P w 0 sp held fuel t [u]=aa x):∃l:List α,l.length<=9223372036854775807/\(∀a∈l,Ok a)/\(l.map μ).sum<bk x.1/\Rv (jf (allM w)) (.tree s (l.map f)) u:=by
 rcases aDd ht h with⟨h1,h2⟩|⟨a,len,cap,elems,rest,n,hfu,h1,hx,_,w_,hcm,hlen,aT,_,_⟩
 .obtain rfl:=(aA1 h1).1;refine⟨[],by simp,by simp,?_,.eJ s ah 0 hs (λ_=>rfl)⟩;rw[h2];show 0<1;omega
 .obtain rfl:=(aA1 h1).1;have hbx:bk x.1=az6 (elems.map (·.1))+az6 (rest.map (·.1))+1:=by rw[hx];rfl
  by_cases mc:len=0
  .subst mc;exact⟨[],by simp,by simp,by rw[hbx];simp,.eJ s (aa a) cap hs aw⟩
  .have key:∀i:Fin len,∃p:List Value×α,w.cells? 0 (a.add (i.1*s)) s=aa p.1/\Ok p.2/\μ p.2<=bk (elems[i.1]'(by have:=i.2;omega)).1/\aN (jf (allM w)) (cellsOf (f p.2)) p.1:=λi=>by
    have hi:=aT i.1 i.2;rw[hP]at hi;have zb:elems[i.1]?=aa (elems[i.1]'(by have:=i.2;omega)):=ayG (by have:=i.2;omega)
    rw[zb]at hi;obtain⟨us,xg,y6⟩:=ay4.1 hi
    have hle:bk (elems[i.1]'(by have:=i.2;omega)).1<=bk x.1:=by
     have:=Oi (l:=elems.map (·.1)) (d:=(elems[i.1]'(by have:=i.2;omega)).1) (ay8.2 ⟨_,ayJ (by have:=i.2;omega),rfl⟩)
     rw[hbx];omega
    obtain⟨b,cd,dQ,dw⟩:=py n us _ aj y6 (mv xg).1 hle;exact⟨(us,b),xg,cd,dQ,dw⟩
   obtain⟨g,hg⟩:=aCf key
   have Oh:a.spot=ah:=by
    obtain⟨Hb,_,_⟩:=hg ⟨0,by omega⟩;obtain⟨om,gb⟩:=mv Hb;have h0:=gb 0 hs;rw[ayG aj]at h0;have:=aDe h0;simpa[aDL]using this
   obtain⟨b,off,spot⟩:=a;simp only at Oh;subst Oh
   have jH:∀i (hi:i<len) j,j<s->w.cell? ⟨b,off+(i*s+j),ah⟩=(g ⟨i,hi⟩).1[j]? :=λi hi j hj=>by
    have:=(mv (hg ⟨i,hi⟩).1).2 j hj;rw[G_,G_]at this;rw[<-aAr];exact this
   refine⟨aBx λi=>(g i).2,by simp;have:maxLen=9223372036854775807:=rfl;omega,?_,?_,?_⟩
   .intro c hc;obtain⟨i,rfl⟩:=(aDV (f:=λi=>(g i).2)).1 hc;exact(hg i).2.1
   .rw[hbx]
    have:=aeK (elems.map (·.1)) ((aBx λi=>(g i).2).map μ) (by simp[hlen]) λi h1 h2=>by
     have hi:i<len:=by simpa using h1
     have:=(hg ⟨i,hi⟩).2.2.1;simpa using this
    omega
   .have py:((aBx λi=>(g i).2).map f).length=len:=aw;have hR:=Rv.tree (ι:=jf (allM w)) s ((aBx λi=>(g i).2).map f) b off cap (λk=>(w.cell? ⟨b,off+k,ah⟩).getD Go.undef) hs (by rw[py];exact w_) ?_ ?_ ?_
    .rw[py]at hR;exact hR
    .intro e' gw;obtain⟨c,_,rfl⟩:=ay8.1 gw;exact bH c
    .intro k hk;rw[py]at hk;have hi:k/s<len:=aCP (by rw[aB2];exact hk);have hj:k % s<s:=aEg _ hs;have hc:=jH (k/s) hi (k % s) hj;have c8:k/s*s+k % s=k:=by rw[aB2];exact aDM k s
     rw[c8]at hc;have om:=(mv (hg ⟨k/s,hi⟩).1).1;rw[ayG aj]at hc;rw[Og hc,hc];rfl
    .intro i e' j c gw hc;rw[ay1,aCZ]at gw;split at gw
     .rename_i hi;simp only[azl,ayO]at gw;subst gw;have hj:j<s:=by have:=(ayH.1 hc).1;rw[bH]at this;exact this
      have ow:=jH i hi j hj;have om:=(mv (hg ⟨i,hi⟩).1).1;rw[ayG aj]at ow;simp only[ow,aAy];exact(hg ⟨i,hi⟩).2.2.2.2 j c _ hc (ayG _)
     .simp at gw
def ua{P:Program}{t:TypeId}{fs:Array Field}{cs:List Value}{fuel:Nat}{x:DataW H×List MemPlace}(ht:P.underlying t=aa (.struct fs))(h:azZ enc P w 0 sp held fuel t cs=aa x):
 ∃n,fuel=n+1/\∀(i:Nat) (ty:TypeId) (off k:Nat),(fs[i]?).map (λf:Field=>(f.type,f.offset))=aa (ty,off)->P.cellsOf ty=k->∃y,bk y.1<bk x.1/\azZ enc P w 0 sp held n ty ((cs.drop off).take k)=aa y:=by
 obtain⟨xs,n,h1,hx,_,h4,h5⟩:=aC0 ht h;refine⟨n,h1,λi ty off k hi hk=>?_⟩;obtain⟨f,hf,Tp⟩:=ayR.1 hi;simp only[aAt]at Tp;obtain⟨rfl,rfl⟩:=Tp
 have zT:i<xs.length:=by
  rw[h4];exact(azx.1 hf).1
 have:=h5 i f hf;rw[ayG zT,hk]at this;refine⟨_,?_,this⟩;have hb:bk x.1=az6 (xs.map (·.1))+1:=by rw[hx];rfl
 have:=Oi (l:=xs.map (·.1)) (d:=xs[i].1) (ay8.2 ⟨_,ayJ zT,rfl⟩);rw[hb];omega
def axu:∀(fuel:Nat) (us:List Value) (x:DataW H×List MemPlace),azZ enc ayF w 0 sp held fuel 106 us=aa x->us.length=4->∃t:Tm,kQ t/\jW t<=bk x.1/\aN (jf (allM w)) (cellsOf (eE t)) us:=by
 intro fuel;induction fuel using Nat.strongRecOn with
 |ind fuel ih=>
  intro us x h hl;obtain⟨a,b,c,d,rfl⟩:=atT hl;obtain⟨n,hn,hf⟩:=ua atK h;obtain⟨_,_,h0⟩:=hf 0 3 0 1 atM cl3;obtain⟨_,_,h1⟩:=hf 1 3 1 1 atN cl3;obtain⟨_,_,h2⟩:=hf 2 9 2 1 atO cl9;obtain⟨y,hy,h3⟩:=hf 3 68 3 1 atP ahq;obtain⟨k,r0⟩:=Ji h0;obtain⟨m,r1⟩:=Ji h1;obtain⟨s,w2,r2⟩:=Jj h2;obtain⟨ts,hs,hw,hb,r3⟩:=t_ (w:=w) eE (s:=4) aj aeJ kQ jW ajf ap3 (λn' w9 x' oW kY cJ _=>ih n' aj w9 x' kY cJ) h3;refine⟨.mk k m s ts,?_,?_,?_⟩
  .rw[pc];exact⟨w2,hs,hw⟩
  .rw[<-Mr]at hb;simp only[jW];split<;>omega
  .rw[xU];exact aN.cons r0 (aN.cons r1 (aN.cons r2 (aN.cons r3 aN.nil)))
def ajh{n:Nat}{u:Value}{x:DataW H×List MemPlace}(h:azZ enc ayF w 0 sp held n 68 [u]=aa x):∃l:List Tm,Sm l/\(∀f∈l,kQ f)/\cV l<=bk x.1/\Rd w (iT l) u:=by
 obtain⟨l,h1,h2,h3,h4⟩:=t_ (w:=w) eE (s:=4) aj aeJ kQ jW ajf ap3 (λn' w9 x' _ kY cJ _=>axu n' w9 x' kY cJ) h;exact⟨l,h1,h2,by rw[Mr];omega,h4⟩
abbrev ZA(a:At):Nat:=cV a.ts
abbrev ZG(a:Gl):Nat:=cV a.ts
def axv(fuel:Nat)(us:List Value)(x:DataW H×List MemPlace)(h:azZ enc ayF w 0 sp held fuel 99 us=aa x)(hl:us.length=2):∃f:At,qq f/\ZA f<=bk x.1/\aN (jf (allM w)) (cellsOf (dN f)) us:=by
 obtain⟨a,b,rfl⟩:=abU hl;obtain⟨n,hn,hf⟩:=ua atL h;obtain⟨_,_,h0⟩:=hf 0 9 0 1 atQ cl9;obtain⟨_,hy,h1⟩:=hf 1 68 1 1 atS ahq;obtain⟨s,w0,r0⟩:=Jj h0;obtain⟨ts,w1,v1,z1,r1⟩:=ajh h1;exact⟨⟨s,ts⟩,⟨w0,w1,v1⟩,by show cV ts<=_;omega,aN.cons r0 (aN.cons r1 aN.nil)⟩
def aji{n:Nat}{u:Value}{x:DataW H×List MemPlace}(h:azZ enc ayF w 0 sp held n 64 [u]=aa x):∃l:List At,Sm l/\(∀f∈l,qq f/\ZA f<=bk x.1)/\Rd w (dm l) u:=by
 obtain⟨l,h1,h2,h3,h4⟩:=t_ (w:=w) dN (s:=2) aj (λ_=>rfl) qq ZA at0 axm (λn' w9 x' _ kY cJ _=>axv n' w9 x' kY cJ) h;exact⟨l,h1,λf hf=>⟨h2 f hf,by have:=Qs (ay8.2 ⟨f,hf,rfl⟩:ZA f∈l.map ZA);omega⟩,h4⟩
def axw(fuel:Nat)(us:List Value)(x:DataW H×List MemPlace)(h:azZ enc ayF w 0 sp held fuel 70 us=aa x)(hl:us.length=3):∃f:Gl,pd f/\ZG f<=bk x.1/\aN (jf (allM w)) (cellsOf (l9 f)) us:=by
 obtain⟨a,b,c,rfl⟩:=auh hl;obtain⟨n,hn,hf⟩:=ua atX h;obtain⟨_,_,h0⟩:=hf 0 3 0 1 aue cl3;obtain⟨_,_,h1⟩:=hf 1 9 1 1 auf cl9;obtain⟨_,hy,h2⟩:=hf 2 68 2 1 aug ahq;obtain⟨op,r0⟩:=Ji h0;obtain⟨s,w1,r1⟩:=Jj h1;obtain⟨ts,w2,v2,z2,r2⟩:=ajh h2;exact⟨⟨op,s,ts⟩,⟨w1,w2,v2⟩,by show cV ts<=_;omega,aN.cons r0 (aN.cons r1 (aN.cons r2 aN.nil))⟩
def ajj{n:Nat}{u:Value}{x:DataW H×List MemPlace}(h:azZ enc ayF w 0 sp held n 65 [u]=aa x):∃l:List Gl,Sm l/\(∀f∈l,pd f/\ZG f<=bk x.1)/\Rd w (gO l) u:=by
 obtain⟨l,h1,h2,h3,h4⟩:=t_ (w:=w) l9 (s:=3) aj (λ_=>rfl) pd ZG at1 axr (λn' w9 x' _ kY cJ _=>axw n' w9 x' kY cJ) h;exact⟨l,h1,λf hf=>⟨h2 f hf,by have:=Qs (ay8.2 ⟨f,hf,rfl⟩:ZG f∈l.map ZG);omega⟩,h4⟩
def Zq(B:Nat)(r:Rl):Prop:=(∀a∈r.ax++r.az,cV a.ts<=B)/\∀a∈r.aG++r.bn,cV a.ts<=B
def axx(fuel:Nat)(us:List Value)(x:DataW H×List MemPlace)(h:azZ enc ayF w 0 sp held fuel 67 us=aa x)(hl:us.length=6):∃f:Rl,(RdR f/\Zq (bk x.1) f)/\aN (jf (allM w)) (cellsOf (cN f)) us:=by
 obtain⟨a,b,c,d,e,f,rfl⟩:=atU hl;obtain⟨n,hn,hf⟩:=ua atW h;obtain⟨_,_,h0⟩:=hf 0 9 0 1 at6 cl9;obtain⟨_,y1,h1⟩:=hf 1 64 1 1 at7 ap4;obtain⟨_,y2,h2⟩:=hf 2 64 2 1 aua ap4;obtain⟨_,y3,h3⟩:=hf 3 65 3 1 aub ap5;obtain⟨_,y4,h4⟩:=hf 4 65 4 1 auc ap5;obtain⟨_,_,h5⟩:=hf 5 3 5 1 aud cl3;obtain⟨s,w0,r0⟩:=Jj h0;obtain⟨vz,w1,v1,r1⟩:=aji h1;obtain⟨rem,w2,v2,r2⟩:=aji h2;obtain⟨guard,w3,v3,r3⟩:=ajj h3;obtain⟨body,w4,v4,r4⟩:=ajj h4;obtain⟨vars,r5⟩:=Ji h5;refine⟨⟨s,vz,rem,guard,body,vars⟩,⟨⟨⟨w0,λa ha=>?_,λa ha=>?_⟩,w1,w2,w3,w4⟩,λa ha=>?_,λa ha=>?_⟩,aN.cons r0 (aN.cons r1 (aN.cons r2 (aN.cons r3 (aN.cons r4 (aN.cons r5 aN.nil)))))⟩
 .rcases ayS.1 ha with ha|ha
  .exact(v1 a ha).1
  .exact(v2 a ha).1
 .rcases ayS.1 ha with ha|ha
  .exact(v3 a ha).1
  .exact(v4 a ha).1
 .rcases ayS.1 ha with ha|ha
  .have:cV a.ts<=_:=(v1 a ha).2;omega
  .have:cV a.ts<=_:=(v2 a ha).2;omega
 .rcases ayS.1 ha with ha|ha
  .have:cV a.ts<=_:=(v3 a ha).2;omega
  .have:cV a.ts<=_:=(v4 a ha).2;omega
def Zq.mono{B B':Nat}{r:Rl}(h:Zq B r)(hb:B<=B'):Zq B' r:=⟨λa ha=>ay6 (h.1 a ha) hb,λa ha=>ay6 (h.2 a ha) hb⟩
def aui{fuel:Nat}{us:List Value}{x:DataW H×List MemPlace}(h:azZ enc ayF w 0 sp held fuel 25 us=aa x)(hl:us.length=2):∃p:Pg,NmP p/\(∀r∈p.aQ,Zq (bk x.1) r)/\Rd w (bg p) (.agg us.toArray):=by
 obtain⟨a,b,rfl⟩:=abU hl;obtain⟨n,hn,hf⟩:=ua ajg h;obtain⟨_,_,h0⟩:=hf 0 22 0 1 at2 axn;obtain⟨y,hy,h1⟩:=hf 1 23 1 1 at3 axo;obtain⟨ds,w0,v0,r0⟩:=abS (w:=w) xW (s:=2) aj (λ_=>rfl) (λd=>Sm d.s) atY axp (λn' w9 x' _ kY cJ=>axt n' w9 x' kY cJ) h0
 obtain⟨rs,w1,v1,_,r1⟩:=t_ (w:=w) cN (s:=6) aj (λ_=>rfl) (λr=>RdR r/\Zq (bk y.1) r) (λ_=>0) atZ axq (λn' w9 x' _ kY cJ hb=>by
  obtain⟨r,hr,hv⟩:=axx n' w9 x' kY cJ;exact⟨r,⟨hr.1,hr.2.mono hb⟩,azz _,hv⟩) h1
 refine⟨⟨ds,rs⟩,⟨w0,w1,v0,λr hr=>(v1 r hr).1⟩,λr hr=>(v1 r hr).2.mono aj,?_⟩;have hR:aN (jf (allM w)) [gj ds,mN rs] [a,b]:=aN.cons r0 (aN.cons r1 aN.nil);exact Rv.agg _ _ hR.1 hR.2
end Go.Proofs.YtabefplkfkfdfaaGreat
namespace Go.Proofs.YtabefplkfkfdfaaGreat
open Go Go.ChangeShapes Go.WideShapes Go.ChangeAt Go.RowKit
def own:ownKnob ayF.godebug=ah:=by as_aux_lemma=>kernel_rfl
def laidOut:laidOutB ayF=ab:=by as_aux_lemma=>kernel_rfl
def ale{f:FuncId}{xs:List Ev.IV}{us:List Value}{W:World}(hf:f<ayF.funcs.size)(h:CC f af xs (Ev.iB ab))(hr:Ev.aN (Ev.jf (Ev.allM W)) xs us):
 Calls ayF f us.toArray W λe W'=>e=.returned (.bool ab)/\Below W.heap.size W W':=by
 refine callsIn_wide.1 (((h.1 hf).1 (Ev.allM W) W us Ev.OD hr).mono λe W' hR=>?_);cases e with
 |returned u=>
  obtain⟨_,M',_,_,_,h4,h5,h6,h7,h8,h9⟩:=hR
  have hu:u=.bool ab:=by
   generalize hx:Ev.IV.raw (.bool ab)=x at h4;cases h4<;>first|(cases hx;rfl)|cases hx
  rw[hu];exact⟨rfl,h5,h6,h7,h8,h9⟩
 |panicked ch=>exact absurd hR.1 (by simp)
 |outgrown=>exact hR.elim
def abV{H:Type}{enc:TypeId×Value->H}{P:Program}{f:Func}{s:ChangeSpec}{apart fresh handsOn:Bool}{W W':World}{args:Array Value}{v:Value}{ds gs:List (DataW H)}{before pa pv:List MemPlace}
 (hW:DataW.Whole enc P f.params.toList s.vars apart W args.toList ds gs before)
 (j8:∀(b:Nat) (sp:Nat->Bool) (hd:Bool),aCm enc P W' b sp hd f.resultTypes.toList (v.resultList f.resultTypes.size) (s.fn H (ds++gs)).results [])
 (bF:∀sp:Nat->Bool,(∀p∈before,sp p.block=ab)->aCm enc P W' 0 sp ab f.params.toList args.toList (s.fn H (ds++gs)).args pa)
 (auj:∀sp:Nat->Bool,(∀p∈before,sp p.block=ab)->DataW.TrodVars enc P W' sp s.vars (s.fn H (ds++gs)).vars pv)
 (ou:before=pa++pv)(hk:W.keptBut W' (·∈before)):s.post enc P f apart fresh handsOn af W args v W':=by
 have hold:∀p∈before,(λb=>decide (b<W.heap.size)) p.block=ab:=λp hp=>by simpa using hW.lt p hp
 refine⟨ds,gs,before,[],pa,pv,hW,j8 _ _ _,bF _ hold,auj _ hold,World.keptBut_mono (λp hp=>⟨hp,?_⟩) hk,λh=>by cases h⟩;rw[ou,ayS]at hp;exact Or.inr hp
def abW:ayF.readableRec 25=ab:=by as_aux_lemma=>kernel_rfl
def alf:25<ayF.types.size:=of_decide_eq_true (by as_aux_lemma=>kernel_rfl)
def ap6:4<ayF.funcs.size:=of_decide_eq_true (by as_aux_lemma=>kernel_rfl)
set_option maxHeartbeats 8000000 in
set_option maxRecDepth 100000 in
def alg(os:Os)(started:os.Started)(H:Type)(enc:TypeId×Value->H)(F:Stop.Interp):
 ReturnsInHanded {} aCu os 4 .any ((aAw aAs).pre6 enc ayF aBI [] af) (((aAw aAs).at F).post enc ayF aBI af ab af af):=by
 refine returnsInHanded_of_cond (C:=aCu) (s:=aAw aAs) (k:=aDN) rfl own started (by as_aux_lemma=>kernel_rfl) aEd
  (OpenSpec.witness (s:=aAw aAs) (k:=aDN) rfl (enc:=enc) (C:=aCu) af ⟨#[], #[.agg #[.slice ah 0 0,.slice ah 0 0]],[]⟩ 8 (by as_aux_lemma=>kernel_rfl) (by as_aux_lemma=>kernel_rfl) (by as_aux_lemma=>kernel_rfl)
   (x:=([.agg [.nil,.nil]],[],[])) (by as_aux_lemma=>kernel_rfl) (by as_aux_lemma=>kernel_rfl) (by as_aux_lemma=>kernel_rfl) (by as_aux_lemma=>kernel_rfl)) ?_
 intro W base args ds gs before ajk hW _ gu _;have ahr:∀(j:Nat) t v,aBI.params[j]?=aa t->args[j]?=aa v->Value.okWide ayF W .any base t v:=ajk;have hW':=hW;obtain⟨p,q,hA0,hV,rfl,hfz,jA⟩:=hW;have hA:aCm enc ayF W 0 (λ_=>ab) ab aBI.params.toList args.toList ds p:=hA0;rw[Tryz.params4]at hA ahr;obtain⟨v0,d0,rfl,rfl,h0⟩:=trodAll_one hA;obtain⟨rfl,rfl⟩:=trodVars_none hV
 have ap7:az6 [d0]<=1048576:=by
  have lE:decide (az6 ([d0]++[])<=1048576)=ab:=gu;simpa using lE
 have hb0:bk d0<=1048576:=ay6 (Oi (by simp)) ap7;obtain⟨cs,rfl,bo⟩:=okWide_struct ajg (ahr 0 25 v0 rfl rfl);have h0k:=h0;obtain⟨fu,h0⟩:=h0;have jy:cs.toList.length=2:=by rw[aCL,bo,axs]
 obtain⟨pg,hpg,hpb,r0⟩:=aui h0 jy
 have rr:Ev.aN (Ev.jf (Ev.allM W)) [bg pg] [.agg cs]:=by
  have e0:(Value.agg cs.toList.toArray)=.agg cs:=by simp
  rw[<-e0];exact Ev.aN.cons r0 Ev.aN.nil
 have Hv:∀r∈pg.aQ,IP r:=λr hr=>⟨λa ha=>by have:=(hpb r hr).1 a ha;simp only at this;omega,λa ha=>by have:=(hpb r hr).2 a ha;simp only at this;omega⟩;clear hA0 ajk ahr hA;simp only[ay2]at hW';refine(ale ap6 (k4 pg hpg Hv) rr).mono λe W' ⟨he,hb⟩=>?_;subst he;have ak:∀x∈p,x.block<W.heap.size:=λx hx=>hW'.lt x (by simpa using hx)
 exact⟨_,rfl,abV (s:=(aAw aAs).at F) (pa:=p) (pv:=[]) hW' (λ_ _ _=>trodAll_mk1 (shut_bool Vv _))
  (λsp Hv=>trodAll_mk1 (aEq laidOut abW alf h0k (λx hx=>hb.same (ak x hx)) (λx hx=>Hv x (by simp[hx]))))
  (λ_ _=>rfl) (by simp) (hb.frame _)⟩
def ap8:aCb.checked.prog.funcNamed aAh.func=aa 4:=by kernel_rfl
set_option maxHeartbeats 8000000 in
def alh:joinedFacts aCb.checked.prog 4 aBI (aAw aAs).bare aAh=ab:=by
 simp only[joinedFacts,ayI]
 repeat' apply And.intro
 all_goals (as_aux_lemma=>kernel_rfl)
def auk:aBI.isInstance aCb.checked.prog aAh.origin aAh.targs:=of_decide_eq_true (by kernel_rfl)
def aul:aBI.isWrapper aCb.checked.prog aAh.wrapper aAh.mainSum:=by
 unfold Func.isWrapper;rw[if_neg (by decide+kernel)];exact⟨rfl,rfl⟩
set_option maxHeartbeats 8000000 in
def compileRight_holds:Rows.CompileRightUptoSaid:=
 aEr 4 aBI rfl rfl rfl rfl rfl rfl rfl ⟨rfl,rfl,rfl,rfl,rfl⟩ rfl rfl rfl rfl rfl ap8 aEd alh auk aul
  (λos started H enc _ F=>alg os started H enc F)
end Go.Proofs.YtabefplkfkfdfaaGreat
