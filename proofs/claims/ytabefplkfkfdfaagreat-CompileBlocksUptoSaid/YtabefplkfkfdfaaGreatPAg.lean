/- A part of the proof, no condition: what functions of the program and of the reference compute. -/
import Derived.Test.YtabefplkfkfdfaaGreatPAf
import Derived.RangeFuncNested
import Derived.RangeFuncBound
import Derived.RangeFuncCalls
import Derived.RangeFuncLeaves
import Derived.RangeFuncBox
import Derived.Shelf.Abstract
import Derived.Shelf.RegionOpen
import Derived.WalkKit
import Derived.OwnWalkIn
import Derived.TacticsInMore
import Derived.LoopNIn
import Derived.LoopIn
import Derived.Maps.OwnIn
import Derived.Maps.AppendAt
import Derived.Test.YtabefplkfkfdfaaGreatProg
import Derived.Maps.Views
import Derived.Maps.OwnSet
import Derived.Test.YtabefplkfkfdfaaGreatPAb
import Derived.Sort.Grow
import Derived.Test.YtabefplkfkfdfaaGreatPAe
import Derived.KernelRfl
open Go.Proofs.Tryz renaming prog->ayu,underlying82->aC6,func245->aCt,ntmps245->aDL,underlying3->aBi,underlying235->aBL,underlying4->aB4,zeroValue4->aDo
open List renaming take_succ_eq_append_getElem->ayE,take_append_drop->azE,getElem_mem->ayy,take_of_length_le->ayF,sizeOf_lt_of_mem->azB,mem_singleton->ayQ,eq_nil_of_length_eq_zero->ayZ,mem_of_mem_erase->aCA,length_erase->aC5,nodup_append->aBS,mem_append->ayS,all_eq_true->ayP,mem_map->azb,nil_append->azl,mem_append_left->ay9,mem_append_right->azt,forIn_cons->aDn,forIn_nil->aDA,map_cons->azs,map_map->aB3,getElem?_map->ayR,flatten_append->azu,flatten_cons->aAl,flatten_nil->aBh,append_nil->ayO,length_append->ayC,size_toArray->az0,length_cons->ay6,length_nil->az2,push_toArray->az1,append_toArray->azQ,cons_append->azv,getElem?_eq_getElem->ayv,append_assoc->ayJ,foldl_append->aBc,foldl_cons->aze,foldl_nil->aDB,map_flatten->aDh,getElem?_eq_some_iff->ayw,getElem_map->aDi,length_map->aAq,map_nil->aCb,mem_cons->ayN,mem_flatten->aAI,map_append->aAx,range->azR,length_take->azq,mem_of_mem_take->azI,length_flatten->azS,getElem?_cons_zero->aAt,flatten_eq_nil_iff->aAu
open Nat renaming le_trans->ayU,reduceAdd->aAj,reduceSub->aAk,le_refl->ayA,add_assoc->aBY,mul_one->aD5,le_of_not_lt->aBa,zero_le->azi,mul_le_mul_right->ay4,lt_succ_iff_lt_or_eq->aCo
open Go.IntKind renaming i64->ay1
open Classical renaming em->aD4,choose_spec->aAS,choose->aEe,propDecidable->aEf
open Bool renaming and_eq_true->ayz,false_eq_true->ayW,not_true->az4,and_self->aCl
open Go.Op renaming equalIn->azG,equal->aA6
open Option renaming bind_some->ayx,isSome_some->aCI
open Array renaming forIn_toList->aCM,replicate_succ->azM,replicate_zero->azN,any_toList->aC_
open String renaming reduceEq->aC7
open Go renaming binOp->aAe,undef->azk
open Go.Instr renaming findAsking->azF,findKey->azZ,sameBits->aA7
open Go.Oper renaming semAt_some->aBo
open Go.Value renaming slice->aCB,int->aAc
open Go.World renaming grownBy_alloc->aA1,size_alloc->aC9,cell?->aCF
open Go.RowKit.Below renaming refl->aAh
open Go.Value.agg renaming injEq->aCH
open Array.mk renaming injEq->aCR
open List.cons renaming injEq->aAa
open List.Pairwise renaming map->aBQ
open Subtype renaming ext->aCn
open Go.Maps renaming IsMap->aCS,int_keyed->aCg
open Go.Boxed renaming new->aC8
open Go.OwnFrom renaming and->aDC
open Go.KeepsFrom renaming refl->aEc,of_grownBy->aEd
open SizeOf renaming sizeOf->aAU
open Option.some renaming injEq->ayB
open Go.Fence renaming wide->ay8
open Option renaming some->aa,none->ah
open Bool renaming true->ab,false->af
set_option linter.all false
namespace Go.Proofs.YtabefplkfkfdfaaGreat
open Go Go.Ev
theorem alR(a b:Int):Na ayu [iI a,iI b]=aa (iI (if b>a then b else a)):=rfl
theorem H3{l:List Tm}{i:Nat}(h:i<l.length):iR (l.take (i+1))=max (iR (l.take i)) (za l[i]):=by
 rw[ayE h,WA];simp[iR]
theorem H4{l:List Tm}{i:Nat}(h:i<l.length):dI (l.take (i+1))=dI (l.take i)+kW l[i]:=by
 rw[ayE h,JU];simp[dI]
theorem H5(l:List Tm)(i:Nat):dI (l.take i)<=dI l:=by
 have:=JU (l.take i) (l.drop i);rw[azE]at this;omega
def BT(t:Tm):Prop:=ou t/\kW t<=1000000000000
def MQ(l:List Tm):Prop:=Sm l/\(∀t∈l,ou t)/\dI l<=1000000000000
theorem MQ.at{l:List Tm}(h:MQ l){t:Tm}(ht:t∈l):BT t:=⟨h.2.1 t ht,by have:=K6 ht;have:=h.2.2;omega⟩
theorem BT.args{t:Tm}(h:BT t):MQ (b_ t):=by
 have h1:=(o5 t).1 h.1;have h2:=we t;refine⟨?_,λu hu=>h1.2.2 u (q0 hu),by have:=h.2;omega⟩;unfold b_;split
 .exact h1.2.1
 .simp
theorem arh(t:Tm)(h:BT t)(ih:∀u∈b_ t,CC 225 af [dm u] (iI (za u))):CC 225 af [dm t] (iI (za t)):=by
 refine CC.of aq2 kr kr (by simpa using kU t) ax ?_;have Ds:=aaV t;rw[bp]at Ds⊢;simp[ac9,Uu,SE.den,ao];refine⟨_,Ds,?_⟩;have fF:(b_ t).length<=9223372036854775807:=h.args.1;have hdl:iR (b_ t)<=1000000000000:=ayU (Yg _ λu _=>adn u) h.args.2.2;refine⟨by simp,?_⟩;refine fz (b_ t).length (λi (a:Int)=>[iI i,iI a]) (λi a=>a=iR ((b_ t).take i)) 0 ?_ ?_ λi a hi ha=>?_
 .simp[SE.den]
 .simp[iR]
 by_cases aj:i<(b_ t).length
 .have hw:=aD aj fF;have hb:=ih (b_ t)[i] (ayy aj);rw[bp]at hb;simp[SE.den,aj,hw,ku aj,bp,ao];refine⟨_,hb,?_⟩;simp[alR,aF];have g1:=H3 aj;refine⟨?_,by omega⟩;rw[g1,ha];split<;>omega
 .have:(b_ t).take i=b_ t:=ayF ai;rw[this]at ha;have mE:ay1.wrap (a+1)=a+1:=dD ai ai;simp[SE.den,aj,mE];rw[H0,ha];simp
theorem alS:∀t:Tm,BT t->CC 225 af [dm t] (iI (za t))
 |.mk k n s ts,h=>arh _ h λu hu=>alS u (h.args.at hu)
 decreasing_by have:=q0 hu;simp[Tm.ts]at this;have:=azB this;simp;omega
def El(t:Tm):Bool:=ey t&&decide (kW t<=200)&&decide (za t<=20)
def qa(l:List Tm):Bool:=l.all ey&&decide (dI l<=200)&&decide (iR l<=20)
def eZ(a:At):Bool:=gQ a.s&&decide (a.ts.length<=6)&&qa a.ts
def eo(g:Gl):Bool:=if g.op=0 then eZ ⟨g.s,g.ts⟩else g.s.isEmpty&&decide (lK g.op=g.ts.length)&&qa g.ts
theorem avA(t:Tm)(h:BT t):CC 183 af [dm t] (iB (El t)):=by
 refine CC.dJ aqZ kr (λ_=>kr) (by simpa using kU t) (by rfl) ?_;have h1:=alQ t h.1;have h2:=aaW t h.1.wf;have h3:=alS t h;rw[H2 t h.2]at h2;rw[bp]at h1 h2 h3⊢;simp[ac6,SE.den,ao];refine⟨_,h1,?_⟩;cases hf:ey t<;>simp[El,hf];refine⟨_,h2,?_⟩;simp;by_cases hs:kW t<=200
 .left;exact⟨by omega,_,h3,by simp[hs];omega⟩
 .right;exact⟨by omega,λh=>absurd h hs⟩
theorem ado{l:List Tm}{i:Nat}(h:i<l.length)(hp:El l[i]=af):qa l=af:=by
 have hm:=ayy h;have h1:=K6 hm;have h2:=UR hm;cases hf:ey l[i]with
 |false=>simp[qa,MP h hf]
 |true=>
  simp[El,hf]at hp;simp[qa];intro _ _;have:=hp;omega
theorem v107(l:List Tm)(h:MQ l):CC 138 af [iT l] (iB (qa l)):=by
 refine CC.dJ aqY kr (λ_=>kr) ax (by rfl) ?_;simp[ac5,Us,SE.den];refine fz l.length (λi (a:Int)=>[iI i,iI a]) (λi a=>a=dI (l.take i)/\(∀u∈l.take i,ey u=ab)/\iR (l.take i)<=20) 0 ?_ ?_ λi a hi hI=>?_
 .simp[SE.den]
 .simp[dI,iR]
 by_cases aj:i<l.length
 .have hw:=aD aj h.1;have hm:=ayy aj;have hb:=avA l[i] (h.at hm);have h2:=aaW l[i] (h.at hm).1.wf;rw[H2 _ (h.at hm).2]at h2;rw[bp]at hb h2;simp[SE.den,aj,hw,ku aj,bp,ao];refine⟨_,hb,?_⟩;cases hr:El l[i]<;>simp
  .exact ado aj hr
  refine⟨_,h2,?_⟩;have uC:=hr;simp[El]at uC;have g1:=H4 aj;have g2:=H5 l (i+1);have g3:=h.2.2;have mE:ay1.wrap (a+kW l[i])=a+kW l[i]:=by rw[hI.1];exact dD ai ai
  simp[mE];refine⟨by omega,by rw[g1,hI.1];simp,aO (p:=λu=>ey u=ab) aj hI.2.1 uC.1.1,?_⟩;rw[H3 aj];have:=hI.2.2;omega
 .have ht:l.take i=l:=ayF ai;rw[ht]at hI;obtain⟨h1,h2,h3⟩:=hI;have yg:l.all ey=ab:=by simpa using h2
  simp[SE.den,aj,qa,yg,h3];subst a;by_cases hs:dI l<=200<;>simp[hs]
  .omega
  .omega
theorem v49(a:At)(hs:Sm a.s)(h:MQ a.ts):CC 75 af [.agg [iS a.s,iT a.ts]] (iB (eZ a)):=by
 refine CC.dJ avj kr (λ_=>kr) (by intro x hx;obtain rfl:=ayQ.1 hx;exact uV a) (by rfl) ?_;have h1:=v89 a.s hs;have h2:=v107 a.ts h;simp[ahc,SE.den,ao];refine⟨_,h1,?_⟩;cases hn:gQ a.s<;>simp[eZ,hn];by_cases hs:a.ts.length<=6
 .left;exact⟨by omega,_,h2,by simp[hs]⟩
 .right;exact⟨by omega,λh=>absurd h hs⟩
theorem v152(g:Gl)(hs:Sm g.s)(h:MQ g.ts):CC 76 af [.agg [iI g.op,iS g.s,iT g.ts]] (iB (eo g)):=by
 refine CC.dJ aq3 kr (λ_=>kr) (by intro x hx;obtain rfl:=ayQ.1 hx;exact Cz g) (by rfl) ?_;have h1:=v49 ⟨g.s,g.ts⟩ hs h;have h2:=v107 g.ts h;have h3:=avr g.op;simp[ac_,SE.den,ao];by_cases k0:g.op=0
 .left;exact⟨k0,_,h1,by simp[eo,k0]⟩
 right;refine⟨k0,?_⟩;by_cases ks:g.s=[]
 .left;refine⟨ks,_,h3,?_⟩;simp;by_cases ka:lK g.op=g.ts.length
  .left;exact⟨ka,_,h2,by simp[eo,k0,ka,ks]⟩
  .right;exact⟨ka,by simp[eo,k0,ka]⟩
 .right;exact⟨ks,by simp[eo,k0,ks]⟩
def ari(p:Bool->Prop)(z:IV):Prop:=∃(b:Bool) (n:Int),z=.aL [iB b,.agg [iI n]]/\p b
@[simp] theorem axr(p:Bool->Prop)(b:Bool)(n:Int):ari p (.aL [iB b,.agg [iI n]])↔p b:=
  ⟨λ⟨b',n',h1,h2⟩=>by cases h1;exact h2,λh=>⟨b,n,rfl,h⟩⟩
def ahg(p:Bool->Int->Prop)(z:IV):Prop:=∃(b:Bool) (n:Int),z=.aL [iB b,.agg [iI n]]/\p b n
@[simp] theorem axs(p:Bool->Int->Prop)(b:Bool)(n:Int):ahg p (.aL [iB b,.agg [iI n]])↔p b n:=
  ⟨λ⟨b',n',h1,h2⟩=>by cases h1;exact h2,λh=>⟨b,n,rfl,h⟩⟩
theorem CC.Yh{n:Nat}{f:Nat}{c9:ak}{m:Int}{xs:List IV}{cfg:eS}{s:Bool}{r:Int}(he:Ag ayu cfg n [1] f=c9)(hl:(ayu.funcs[f]?).map (·.params.size)=aa (1+xs.length))(hn:noTwo c9=ab)
 (hs:c9.sat ayu CC (ahg λb k=>b=s/\(b=ab->k=r)) [] (iI m::xs)):∃k:Int,(s=ab->k=r)/\CC (612+f) ab (.agg [.agg [iI m]]::xs) (.aL [iB s,.agg [iI k]]):=by
 obtain⟨z,⟨b,k,rfl,rfl,hb⟩,h2⟩:=K4 hn hs;refine⟨k,hb,?_⟩;have h:=CC.aqj (new:=ab) (ins:=[[iI m]]) (outs:=[[iI k]]) (xs:=xs) (z:=iB b) (cfg:=cfg) (n:=n) (f:=f) he hl rfl (by simp[ao]) h2;rw[eE]at h;exact h
def uW(t:Tm)(n d:Int):Bool:=ey t&&decide ((kW t:Int)<=n)&&decide ((za t:Int)<=d)
def CA(l:List Tm)(n d:Int):Bool:=l.all ey&&decide ((dI l:Int)<=n)&&decide ((iR l:Int)<=d)
theorem alT{l:List Tm}{i:Nat}{n d:Int}(h:i<l.length)(hp:uW l[i] (n- dI (l.take i)) d=af):CA l n d=af:=by
 have hm:=ayy h;have h2:=UR hm;have g1:=H4 h;have g2:=H5 l (i+1);cases hf:ey l[i]with
 |false=>simp[CA,MP h hf]
 |true=>
  simp[uW,hf]at hp;simp[CA];intro _ _;have:=hp;omega
theorem ahh(l:List Tm)(hl:Sm l)(d:Int)(hd:0<=d)(ih:∀u∈l,∀n:Int,0<=n->n<=1000->∃k:Int,(uW u n d=ab->k=n- kW u)/\CC 859 ab [.agg [.agg [iI n]],dm u,iI d] (.aL [iB (uW u n d),.agg [iI k]]))(n:Int)(hn:0<=n)(eC:n<=1000):
 ∃k:Int,(CA l n d=ab->k=n- dI l)/\CC 821 ab [.agg [.agg [iI n]],iT l,iI d] (.aL [iB (CA l n d),.agg [iI k]]):=by
 refine CC.Yh (f:=209) (xs:=[iT l,iI d]) aqQ kr (by rfl) ?_;simp[acX,SE.den];unfold Uq;refine az l.length (λi (a:Int)=>[iI i,iI a]) (λi a=>a=n- dI (l.take i)/\0<=a/\(∀u∈l.take i,ey u=ab)/\(iR (l.take i):Int)<=d) n ?_ (by simp[dI,iR,hn,hd]) λi a hi hI=>?_
 .simp[SE.den]
 by_cases aj:i<l.length
 .have hw:=aD aj hl;obtain⟨zb,nK,GU,hI4⟩:=hI;obtain⟨k,hp,hb⟩:=ih l[i] (ayy aj) a nK ai;rw[bp]at hb;simp[SE.den,aj,hw,ku aj,bp,ao];refine⟨_,hb,?_⟩;cases hr:uW l[i] a d<;>simp[aF]
  .exact alT aj (zb▸hr)
  .have uC:=hr;simp[uW]at uC;have g1:=H4 aj;have g2:=H3 aj;have hk:=hp hr;exact .mk k rfl ai ⟨by omega,by omega,aO (p:=λu=>ey u=ab) aj GU uC.1.1,by omega⟩
 .have ht:l.take i=l:=ayF ai;rw[ht]at hI;obtain⟨h1,h2,h3,h4⟩:=hI;have JG:l.all ey=ab:=by simpa using h3
  simp[SE.den,aj,aF];refine⟨?_,h1⟩;simp[CA,JG,h4];omega
theorem Ot{t:Tm}(h:t.k=2):b_ t=t.ts:=by simp[b_,h]
theorem Ou{t:Tm}(h:t.k≠2):b_ t=[]:=by simp[b_,h]
theorem sz1{t:Tm}(h:t.k≠2):kW t=1:=by simp[we,Ou h,dI]
theorem dp1{t:Tm}(h:t.k≠2):za t=1:=by simp[H0,Ou h,iR]
theorem aaX{t:Tm}(h:t.k≠2)(n d:Int)(h1:1<=n)(h2:1<=d):uW t n d=ey t:=by
 have e1:decide (((1:Nat):Int)<=n)=ab:=by simp;omega
 have e2:decide (((1:Nat):Int)<=d)=ab:=by simp;omega
 rw[uW,sz1 h,dp1 h,e1,e2];simp
theorem arj{t:Tm}(h:t.k=2)(n d:Int):uW t n d=(decide (t.n=0)&&((tR t.s&&decide (t.ts.length=2))||(gQ t.s&&decide (t.ts.length<=6)))&&CA t.ts (n- 1) (d- 1)):=by
 have e1:decide ((kW t:Int)<=n)=decide ((dI t.ts:Int)<=n- 1):=by rw[we,Ot h];simp;omega
 have e2:decide ((za t:Int)<=d)=decide ((iR t.ts:Int)<=d- 1):=by rw[H0,Ot h];simp;omega
 rw[uW,e1,e2,Oq h,CA];simp only[Bool.and_assoc]
theorem ark(t:Tm)(hs:Sm t.s)(hl:Sm t.ts)(d:Int)(ih:1<=d->∀u∈t.ts,∀n:Int,0<=n->n<=1000->∃k:Int,(uW u n (d- 1)=ab->k=n- kW u)/\CC 859 ab [.agg [.agg [iI n]],dm u,iI (d- 1)] (.aL [iB (uW u n (d- 1)),.agg [iI k]]))(n:Int)(hn:0<=n)(eC:n<=1000)(Ar:0<=d)(Jq:d<=1000):
 ∃k:Int,(uW t n d=ab->k=n- kW t)/\CC 859 ab [.agg [.agg [iI n]],dm t,iI d] (.aL [iB (uW t n d),.agg [iI k]]):=by
 refine CC.Yh (f:=247) (xs:=[dm t,iI d]) aqP kr (by rfl) ?_;rw[bp];have h1:=v83 t.s;have h2:=avy t.s;have w1:ay1.wrap (n- 1)=n- 1:=dD ai ai;have w2:ay1.wrap (d- 1)=d- 1:=dD ai ai;simp[acW,SE.den,ao,aF,w1,w2];have hz:=aiT t;have hq:=aiU t;by_cases y0:n- 1<0
 .left;refine⟨y0,?_⟩;simp[uW];omega
 right;refine⟨by omega,?_⟩;by_cases y1:d<1
 .left;refine⟨y1,?_⟩;simp[uW];omega
 right;refine⟨by omega,?_⟩;obtain⟨k3,hp3,h3⟩:=ahh t.ts hl (d- 1) ai (ih ai) (n- 1) ai ai;have ee:t.ts.isEmpty=decide (t.ts.length=0):=by cases t.ts<;>simp
 have es:t.s.isEmpty=decide (t.s=[]):=by cases t.s<;>simp
 have em:=aD4 (t.s=[]);by_cases k0:t.k=0
 .left;refine⟨k0,?_⟩;have k2:t.k≠2:=ai;rw[aaX k2 n d ai ai,Ye k0,sz1 k2];rw[ee,es];clear ih h3 hp3 h1 h2 w1 w2;simp;grind
 right;refine⟨k0,?_⟩;by_cases k1:t.k=1
 .left;refine⟨k1,?_⟩;have k2:t.k≠2:=ai;rw[aaX k2 n d ai ai,Oo k1,sz1 k2];rw[ee,es];clear ih h3 hp3 h1 h2 w1 w2;simp;grind
 right;refine⟨k1,?_⟩;by_cases k2:t.k=2
 rotate_left
 .right;refine⟨k2,?_⟩;rw[aaX k2 n d ai ai,Yf k0 k1 k2]
 left;refine⟨k2,?_⟩
 have Da:∀b:Bool,uW t n d=(b&&CA t.ts (n- 1) (d- 1))->b=ab->CA t.ts (n- 1) (d- 1)=uW t n d/\(CA t.ts (n- 1) (d- 1)=ab->k3=n- kW t):=λb e1 e2=>by
  subst e2;refine⟨by simp[e1],λh=>?_⟩;rw[hp3 h,we,Ot k2];simp;omega
 rw[arj k2]at Da⊢;by_cases n0:t.n=0
 rotate_left
 .left;simp[n0]
 right;refine⟨n0,?_⟩;by_cases z6:(6:Int)<t.ts.length
 .left;have:¬t.ts.length<=6:=ai;have:¬t.ts.length=2:=ai;simp[*]
 have z6':t.ts.length<=6:=ai;right;refine⟨by omega,_,h1,?_⟩;cases b1:gQ t.s with
 |true=>
  simp[b1,n0,z6']at Da⊢;exact⟨_,h3,by simp;exact Da⟩
 |false=>
  simp;refine⟨_,h2,?_⟩;cases b2:tR t.s with
  |false=>simp
  |true=>
   simp;by_cases z2':t.ts.length=2
   .simp[b1,b2,n0,z2']at Da⊢;exact⟨_,h3,by simp;exact Da⟩
   .left;exact⟨by omega,λ_ h=>absurd h z2'⟩
theorem v159:∀t:Tm,ou t->∀n d:Int,0<=n->n<=1000->0<=d->d<=1000->∃k:Int,(uW t n d=ab->k=n- kW t)/\CC 859 ab [.agg [.agg [iI n]],dm t,iI d] (.aL [iB (uW t n d),.agg [iI k]])
 |.mk k n s ts,h=>λn d h1 h2 h3 h4=>by
  exact ark _ ((o5 _).1 h).1 ((o5 _).1 h).2.1 d (λhd u hu n a b=>v159 u (((o5 _).1 h).2.2 u hu) n (d- 1) a b ai ai) n h1 h2 h3 h4
 decreasing_by simp[Tm.ts]at hu;have:=azB hu;simp;omega
theorem alU(l:List Tm)(hl:Sm l)(h:∀t∈l,ou t)(n d:Int)(h1:0<=n)(h2:n<=1000)(h3:0<=d)(h4:d<=1000):
 ∃k:Int,CC 821 ab [.agg [.agg [iI n]],iT l,iI d] (.aL [iB (CA l n d),.agg [iI k]]):=by
 obtain⟨k,_,h⟩:=ahh l hl d h3 (λu hu n a b=>v159 u (h u hu) n d a b h3 h4) n h1 h2;exact⟨k,h⟩
theorem Qo(l:List Tm):CA l 200 20=qa l:=by
 have e1:∀a b:Nat,decide ((a:Int)<=b)=decide (a<=b):=λa b=>by simp
 rw[CA,qa,show(200:Int)=((200:Nat):Int)from rfl,show(20:Int)=((20:Nat):Int)from rfl,e1,e1]
theorem v45(a:At)(h:s9 a):CC 194 af [.agg [iS a.s,iT a.ts]] (iB (eZ a)):=by
 refine CC.dJ ave kr (λ_=>kr) (by intro x hx;obtain rfl:=ayQ.1 hx;exact uV a) (by rfl) ?_;have h1:=v83 a.s;obtain⟨k2,h2⟩:=alU a.ts h.2.1 h.2.2 200 20 ai ai ai ai;rw[Qo]at h2;simp[ag9,SE.den,ao];refine⟨_,h1,?_⟩;cases hn:gQ a.s<;>simp[eZ,hn];by_cases hs:a.ts.length<=6
 .left;exact⟨by omega,_,h2,by simp[hs]⟩
 .right;exact⟨by omega,λh=>absurd h hs⟩
theorem v138(g:Gl)(h:s_ g):CC 166 af [.agg [iI g.op,iS g.s,iT g.ts]] (iB (eo g)):=by
 refine CC.dJ aqR kr (λ_=>kr) (by intro x hx;obtain rfl:=ayQ.1 hx;exact Cz g) (by rfl) ?_;have h1:=v83 g.s;obtain⟨k2,h2⟩:=alU g.ts h.2.1 h.2.2 200 20 ai ai ai ai;rw[Qo]at h2;have es:g.s.isEmpty=decide (g.s=[]):=by cases g.s<;>simp
 have ez:(g.ts=[])=(g.ts.length=0):=by cases g.ts<;>simp
 simp[acY,SE.den,ao];by_cases k0:g.op=0
 .left;refine⟨k0,_,h1,?_⟩;cases hn:gQ g.s<;>simp[eo,k0,eZ,hn];by_cases h6:g.ts.length<=6
  .left;exact⟨by omega,_,h2,by simp[h6]⟩
  .right;exact⟨by omega,λh=>absurd h h6⟩
 right;refine⟨k0,?_⟩;have hG:∀A:Int,lK g.op=A->eo g=(decide (g.s=[])&&decide (A=g.ts.length)&&qa g.ts):=λA e=>by simp only[eo,k0,if_false,es,e]
 by_cases k1:g.op=1
 .left;refine⟨k1,?_⟩;left;refine⟨by omega,?_⟩;left;refine⟨by omega,?_⟩;have gA:=hG 0 (by simp[lK,k1]);by_cases ks:g.s=[]
  .left;refine⟨ks,?_⟩;by_cases kt:g.ts=[]
   .left;exact⟨kt,_,h2,by simp[gA,ks,kt]⟩
   .right;exact⟨kt,by rw[gA];have:¬(0:Int)=g.ts.length:=λe=>kt (ayZ ai);simp[this]⟩
  .right;exact⟨ks,by simp[gA,ks]⟩
 right;refine⟨k1,?_⟩;by_cases k2:g.op=2
 .left;refine⟨k2,?_⟩;left;refine⟨by omega,?_⟩;left;refine⟨by omega,?_⟩;have gA:=hG 0 (by simp[lK,k2]);by_cases ks:g.s=[]
  .left;refine⟨ks,?_⟩;by_cases kt:g.ts=[]
   .left;exact⟨kt,_,h2,by simp[gA,ks,kt]⟩
   .right;exact⟨kt,by rw[gA];have:¬(0:Int)=g.ts.length:=λe=>kt (ayZ ai);simp[this]⟩
  .right;exact⟨ks,by simp[gA,ks]⟩
 right;refine⟨k2,?_⟩;by_cases JV:g.op=11
 .left;refine⟨JV,?_⟩;left;refine⟨by omega,?_⟩;left;refine⟨by omega,?_⟩;have gA:=hG 1 (by simp[lK,JV]);by_cases ks:g.s=[]
  .left;refine⟨ks,?_⟩;by_cases kt:(g.ts.length:Int)=1
   .left;exact⟨kt,_,h2,by simp[gA,ks,kt]⟩
   .right;exact⟨kt,by rw[gA];simp[ks];omega⟩
  .right;exact⟨ks,by simp[gA,ks]⟩
 right;refine⟨JV,?_⟩;by_cases JW:g.op=12
 .left;refine⟨JW,?_⟩;left;refine⟨by omega,?_⟩;left;refine⟨by omega,?_⟩;have gA:=hG 1 (by simp[lK,JW]);by_cases ks:g.s=[]
  .left;refine⟨ks,?_⟩;by_cases kt:(g.ts.length:Int)=1
   .left;exact⟨kt,_,h2,by simp[gA,ks,kt]⟩
   .right;exact⟨kt,by rw[gA];simp[ks];omega⟩
  .right;exact⟨ks,by simp[gA,ks]⟩
 right;refine⟨JW,?_⟩;by_cases p0:0<g.op
 rotate_left
 .right;refine⟨by omega,?_⟩;have:¬(2<g.op/\g.op<11):=ai;rw[hG (-1) (by simp[lK,k1,k2,JV,JW,this])];simp;try omega
 left;refine⟨p0,?_⟩;by_cases p12:g.op<=12
 rotate_left
 .right;refine⟨by omega,?_⟩;have:¬(2<g.op/\g.op<11):=ai;rw[hG (-1) (by simp[lK,k1,k2,JV,JW,this])];simp;try omega
 left;refine⟨p12,?_⟩;have hp:2<g.op/\g.op<11:=ai;have gA:=hG 2 (by simp[lK,k1,k2,JV,JW,hp]);by_cases ks:g.s=[]
 .left;refine⟨ks,?_⟩;by_cases kt:(g.ts.length:Int)=2
  .left;exact⟨kt,_,h2,by simp[gA,ks,kt]⟩
  .right;exact⟨kt,by rw[gA];simp[ks];omega⟩
 .right;exact⟨ks,by simp[gA,ks]⟩
def Vr(l:List Int):Prop:=l.Nodup/\∀x∈l,0<=x/\x<=1048576
theorem adp:∀(N:Nat) (l:List Int),l.Nodup->(∀x∈l,0<=x/\x<N)->l.length<=N
 |0,[],_,_=>by simp
 |0,x::l,_,h=>by have:=h x ax;omega
 |N+1,l,hn,h=>by
  have ih:=adp N (l.erase (N:Int)) (hn.erase _) λx hx=>by
   have h1:=h x (aCA hx);have h2:x≠(N:Int):=λhe=>by rw[hn.mem_erase_iff]at hx;exact hx.1 he
   omega
  rw[aC5]at ih;split at ih<;>omega
theorem Vr.len{l:List Int}(h:Vr l):l.length<=1048577:=adp 1048577 l h.1 λx hx=>by have:=h.2 x hx;omega
theorem Vr.nil:Vr []:=⟨by simp,by simp⟩
theorem Vr.snoc{l:List Int}{n:Int}(h:Vr l)(h1:n∉l)(h2:0<=n/\n<=1048576):Vr (l++[n]):=by
 refine⟨?_,λx hx=>?_⟩
 .rw[aBS];exact⟨h.1,by simp,λa ha b hb=>by simp at hb;subst hb;exactλhe=>h1 (he▸ha)⟩
 .rcases ayS.1 hx with hx|hx
  .exact h.2 x hx
  .simp at hx;subst hx;exact h2
theorem arl:ayu.funcs.size=306:=by kernel_rfl
def w9(p:List Int->Prop)(z:IV):Prop:=∃l:List Int,z=iL l/\p l
theorem alV{a b:List Int}(h:iL a=iL b):a=b:=by
 injection h with _ h2
 exact(List.map_inj_right (λx y hh=>by injection hh with hh;injection hh)).1 h2
@[simp] theorem w_(p:List Int->Prop)(l:List Int):w9 p (iL l)↔p l:=⟨λ⟨b',h1,h2⟩=>by rw[alV h1];exact h2,λh=>⟨l,rfl,h⟩⟩
theorem CC.alW{n:Nat}{new:Bool}{f:FuncId}{c9:ak}{cfg:eS}{l:List Int}{xs:List IV}(p:List Int->Prop)(he:Af ayu cfg n 1 f=c9)(hl:(ayu.funcs[f]?).map (·.params.size)=aa (xs.length+1))(hn:noTwo c9=ab)
 (hs:c9.sat ayu CC (w9 p) [] (iL l::xs)):∃l',p l'/\CC (306+f) new (iL l::xs) (iL l'):=by
 obtain⟨z,⟨l',rfl,hp⟩,h2⟩:=K4 hn hs;refine⟨l',hp,?_⟩;rw[<-arl];exact CC.ofRow he hl h2
theorem CC.avB{n:Nat}{new:Bool}{f:FuncId}{c9:ak}{cfg:eS}{args:List IV}(p:List Int->Prop)(he:aE ayu cfg n new f=c9)(hl:(ayu.funcs[f]?).map (·.params.size)=aa args.length)(ht:∀z,mK ayu f z=ab)(hp:∀x∈args,Pure x)(hn:noTwo c9=ab)
 (hs:c9.sat ayu CC (w9 p) [] args):∃l',p l'/\CC f new args (iL l'):=by
 obtain⟨z,⟨l',rfl,hb⟩,h2⟩:=CC.Qn he hl (λz _=>ht z) hp (by rintro _ ⟨b,rfl,_⟩;exact Ej b) hn hs;exact⟨l',hb,h2⟩
theorem alX:aE ayu (fI [⟨0,140,3,[(0,(3,0)),(0,(4,0))],[(0,0)],[],[]⟩]) 400 ab 140=ML:=by kernel_rfl
section
variable{Q:IV->Prop}{k0 k1 k2 k3 k4 k5:List IV->Prop}
theorem gK{l:List At}{i:Nat}(h:i<l.length):cz 2 (dr l) (iI (i:Nat))=aa (.agg [iS l[i].s,iT l[i].ts]):=avp h
theorem Jd{a b:List At}(h:a.length+b.length<=1000):dz 2 40 (dr a) (dr b)=aa (dr (a++b)):=by
 have h2:iz 2 (b.map jL)=ab:=by
  unfold iz;rw[ayP];intro e he;obtain⟨x,_,rfl⟩:=azb.1 he;rfl
 simp[dz,h2];omega
end
structure SmM(m:Me):Prop where
 w:WfM m
 f:m.facts.length<=9
 p:m.past.length<=9
 l:m.log.length<=12
 g:∀x∈m.log,x.gone.length<=8
theorem zJ{O:Type}{s:Nat}{enc:O->IV}(h:∀a,∃cs,enc a=.agg cs/\cs.length=s/\cs.all ao=ab)(l:List O):iz s (l.map enc)=ab:=by
 unfold iz;rw[ayP];intro e he;obtain⟨x,_,rfl⟩:=azb.1 he;obtain⟨cs,h1,h2,h3⟩:=h x;rw[h1];simp only[cellsOf,ayz,beq_iff_eq];exact⟨h2,h3⟩
section
section sorting
variable{O:Type}{lt:O->O->Bool}
structure Ord(lt:O->O->Bool):Prop where
 h1:∀x y z,lt x y=ab->lt z y=af->lt x z=ab
 h2:∀x y,lt x y=ab->lt y x=af
end sorting
end
theorem ahi{a b:List Gl}(h:a.length+b.length<=1000):dz 3 48 (iX a) (iX b)=aa (iX (a++b)):=by
 have h2:=zJ (s:=3) (enc:=uj) (λx=>⟨_,rfl,rfl,rfl⟩) b;simp[dz,h2];omega
theorem bx(r:Rl):bP r=.agg [iS r.name,dr r.aq,dr r.av,iX r.aw,iX r.aI,iI r.vars]:=rfl
theorem aaY(r:Rl)(h:r.aq.length+r.av.length<=1000):CC 73 af [bP r] (dr (r.aq++r.av)):=by
 refine CC.of aqW kr kr (by simpa using fv r) ax ?_;have h1:=Jd (a:=[]) (b:=r.aq) (by simp;omega);have h2:=Jd h;simp only[azl]at h1;rw[bx];simp[ac3,SE.den,ao];exact⟨_,h1,h2⟩
theorem Qp(r:Rl)(h:r.aq.length+r.av.length<=1000):CC 39 af [bP r] (dr (r.aq++r.av)):=by
 refine CC.of avl kr kr (by simpa using fv r) ax ?_;have h1:=Jd (a:=[]) (b:=r.aq) (by simp;omega);have h2:=Jd h;simp only[azl]at h1;rw[bx];simp[ahe,SE.den,ao];exact⟨_,h1,h2⟩
theorem afz(r:Rl)(h:r.aw.length+r.aI.length<=1000):CC 74 af [bP r] (iX (r.aw++r.aI)):=by
 refine CC.of aqX kr kr (by simpa using fv r) ax ?_;have h1:=ahi (a:=[]) (b:=r.aw) (by simp;omega);have h2:=ahi h;simp only[azl]at h1;rw[bx];simp[ac4,SE.den,ao];exact⟨_,h1,h2⟩
theorem aiW(x:Tm):∃cs,dm x=.agg cs/\cs.length=4/\cs.all ao=ab:=⟨_,bp x,rfl,rfl⟩
theorem CB{a b:List Tm}(h:a.length+b.length<=1000):dz 4 56 (iT a) (iT b)=aa (iT (a++b)):=by
 have h2:=zJ (s:=4) (enc:=dm) aiW b;simp[dz,h2];omega
theorem q8{l:List Rl}{i:Nat}(h:i<l.length):cz 6 (jF l) (iI (i:Nat))=aa (.agg [iS l[i].name,dr l[i].aq,dr l[i].av,iX l[i].aw,iX l[i].aI,iI l[i].vars]):=ef (by simp[h,bP]) rfl
theorem eF{l:List Int}{i:Nat}(h:i<l.length):cz 1 (iL l) (iI (i:Nat))=aa (iI l[i]):=MJ (by simp[h])
structure iY(r:Rl):Prop where
 h:r.aq.length+r.av.length<=3
 g:r.aw.length<=6
 b:r.aI.length<=6
 hs:∀a∈r.aq++r.av,a.ts.length<=8
 gs:∀a∈r.aw++r.aI,a.ts.length<=8
structure qG(r:Rl):Prop where
 n:Sm r.name
 hs:∀a∈r.aq++r.av,s9 a
 gs:∀a∈r.aw++r.aI,s_ a
def WF(t:Tm):Prop:=mZ t/\dA t
structure fY(r:Rl):Prop where
 hs:∀a∈r.aq++r.av,∀t∈a.ts,WF t
 gs:∀a∈r.aw++r.aI,(a.op≠0->lK a.op=a.ts.length)/\∀t∈a.ts,WF t
def iU(p:Int->Prop)(z:IV):Prop:=∃b:Int,z=iI b/\p b
@[simp] theorem axt(p:Int->Prop)(b:Int):iU p (iI b)↔p b:=⟨λ⟨b',h1,h2⟩=>by cases h1;exact h2,λh=>⟨b,rfl,h⟩⟩
theorem CC.K7{n:Nat}{new:Bool}{f:FuncId}{c9:ak}{args:List IV}{cfg:eS}(p:Int->Prop)(he:aE ayu cfg n new f=c9)(hl:(ayu.funcs[f]?).map (·.params.size)=aa args.length)(ht:∀z,mK ayu f z=ab)(hp:∀x∈args,Pure x)(hn:noTwo c9=ab)
 (hs:c9.sat ayu CC (iU p) [] args):∃b,p b/\CC f new args (iI b):=by
 obtain⟨z,⟨b,rfl,hb⟩,h2⟩:=CC.Qn he hl (λz _=>ht z) hp (by rintro _ ⟨b,rfl,_⟩;exact .raw _) hn hs;exact⟨b,hb,h2⟩
def alY(p:Int->Prop)(z:IV):Prop:=∃a b:Int,z=.aL [iI a,iI b]/\p b
@[simp] theorem axu(p:Int->Prop)(a b:Int):alY p (.aL [iI a,iI b])↔p b:=⟨λ⟨a',b',h1,h2⟩=>by cases h1;exact h2,λh=>⟨a,b,rfl,h⟩⟩
theorem CC.alZ{n:Nat}{new:Bool}{f:FuncId}{c9:ak}{args:List IV}{cfg:eS}(p:Int->Prop)(he:aE ayu cfg n new f=c9)(hl:(ayu.funcs[f]?).map (·.params.size)=aa args.length)(ht:∀a b,mK ayu f (.aL [iI a,iI b])=ab)(hp:∀x∈args,Pure x)(hn:noTwo c9=ab)
 (hs:c9.sat ayu CC (alY p) [] args):∃a b,p b/\CC f new args (.aL [iI a,iI b]):=by
 obtain⟨z,⟨a,b,rfl,hb⟩,h2⟩:=CC.Qn he hl (by rintro _ ⟨a,b,rfl,_⟩;exact ht a b) hp (by rintro _ ⟨a,b,rfl,_⟩;exact .aL _ ax) hn hs;exact⟨a,b,hb,h2⟩
theorem qG.for{r:Rl}(hn:qG r)(h1:∀a∈r.aq++r.av,∀t∈a.ts,dA t)(h2:∀a∈r.aw++r.aI,(a.op≠0->lK a.op=a.ts.length)/\∀t∈a.ts,dA t):fY r:=
 ⟨λa ha t ht=>⟨((hn.hs a ha).2.2 t ht).wf,h1 a ha t ht⟩,λa ha=>⟨(h2 a ha).1,λt ht=>⟨((hn.gs a ha).2.2 t ht).wf,(h2 a ha).2 t ht⟩⟩⟩
def al0:List Nat:=[266,24,25,7,69,257,72,26,71,137,70,139,225,145,183,75,76,136,186,140,184,224,138,185,9,28,27,143,77,142,141,74,144,73,146,78,39,95,93,162]
def al1:List Nat:=[269,226,259,217]
def al2:List Nat:=[201]
def al3:List Nat:=[185]
def arn(l:List Hint):eS:=⟨al0,al1,al2,l++[],al3⟩
def UT:ak:=
 (rT 3 0 2 3 (pC 2 4 9 4 bo (jo 2 bZ 3 (oH (kj 2 5) (mL 5) cE (.ret (.rw lA)) nG)) nG) (.ret (.rw oX)))
def adq:ak:=
 (jQ (tQ UT))
theorem aro:aE ayu (arn [⟨0,27,2,[(0,(7,0))],[],[],[]⟩]) 400 ab 27=adq:=by kernel_rfl
structure jG(p:Pg):Prop where
 d:p.eN.length<=12
 r:p.bc.length<=8
 dn:∀d∈p.eN,Sm d.s
 rs:∀r∈p.bc,iY r
 rn:∀r∈p.bc,qG r
theorem arp{L:List De}{l:Nat}(h1:l<=L.length):p6 2 (dO L) (iI 0) (iI (l:Nat))=aa (dO (L.take l)):=by
 simp[p6,ie,h1,List.map_take]
theorem t34(a b:Int):mK ayu 9 (.aL [iI a,iI b])=ab:=by kernel_rfl
section
theorem yz{a b:List Int}(h:a.length+b.length<=1000000000):dz 1 8 (iL a) (iL b)=aa (iL (a++b)):=by
 have h2:iz 1 (b.map iI)=ab:=by
  unfold iz;rw[ayP];intro e he;obtain⟨x,_,rfl⟩:=azb.1 he;rfl
 simp[dz,h2];omega
section rule
variable{Q:IV->Prop}{k0 k1 k2 k3 k4 k5:List IV->Prop}
end rule
end
section
variable{Q:IV->Prop}{k0 k1 k2 k3 k4 k5:List IV->Prop}
end
section
variable{Q:IV->Prop}{k0 k1 k2 k3 k4 k5:List IV->Prop}
end
section
variable{Q:IV->Prop}{k0 k1 k2 k3 k4 k5:List IV->Prop}
end
section
variable{Q:IV->Prop}{k0 k1 k2 k3 k4 k5:List IV->Prop}
end
section
variable{Q:IV->Prop}{k0 k1 k2 k3 k4 k5:List IV->Prop}
theorem al4:ayu.underlying 3=aa (.int .i64):=by kernel_rfl
structure ayp(m:Me):Prop where
 w:WfM m
 fp:m.facts.length+m.past.length<=18
 l:m.log.length<=12
 g:∀x∈m.log,x.gone.length<=8
end
def afA(l:List Fa):Prop:=l.Pairwise λa b=>a.id<b.id
structure OkM(m:Me):Prop where
 f:afA m.facts
 p:afA m.past
 d:∀a∈m.facts,∀b∈m.past,a.id≠b.id
section
section
variable{Q:IV->Prop}{k0 k1 k2:List IV->Prop}
end
end
section
structure SmX(x:Ap):Prop where
 h:x.aaL.length<=8
 g:x.gone.length<=8
 m:x.made.length<=20
 j:x.afp.length<=20
structure SmL(m:Me):Prop where
 w:WfM m
 f:m.facts.length<=9
 p:m.past.length<=9
 l:m.log.length<=12
 x:∀x∈m.log,SmX x
 j:∀f∈m.facts++m.past,f.j.length<=20
section
variable{k0 k1 k2:List IV->Prop}{ν:Prop}
end
end
def al5:List Nat:=[266,24,25,7,69,257,72,26,71,137,70,139,225,145,183,75,76,136,186,140,184,224,138,185,9,28,27,143,77,142,141,74,144,73,146,78,39,95,93,162]
def al6:List Nat:=[269,259,217]
def al7:List Nat:=[201]
def al8:List Nat:=[185]
def ahj(l:List Hint):eS:=⟨al5,al6,al7,l++[],al8⟩
def Yi:ak:=
 (rT 2 0 3 2 (jq 3 3 69 (vR 3) (il 4 4 lX)) dZ)
def ahk:ak:=
 (jQ (Dp kq .gtr kq bo bT Yi))
theorem avC:aE ayu (ahj [⟨0,25,4,[(0,(5,0))],[],[],[]⟩]) 400 af 25=ahk:=by kernel_rfl
def UU:ak:=
 (oG dx gv 1 0 1 6 qC 1 (qA 6 2 2 (FM .gtr (tM 2) (.i 3) (nD (mc 2 2) (mc 2 2) 3 bT (lq 2 1 (mc 2 2) (nD (vX 2 1 2 2) (vX 2 1 2 2) 3 bT (nD (mc 2 3) (mc 2 3) 6 bT (nD (mc 2 4) (mc 2 4) 6 bT (iP 24 xu (il 3 3 (iP 24 FO (il 4 4 (eL 25 (BZ 2) v8 (il 5 5 (eL 25 (mY 2 4) v8 (il 6 6 rJ))))))))))))))) dZ)
def UW:ak:=
 (xp 2 0 0 0 (FM .gtr (BS 0) tL (nD gv gv 8 bT UU)))
theorem arq:aE ayu (ahj [⟨0,7,4,[(0,(3,0))],[],[],[]⟩]) 400 af 7=UW:=by kernel_rfl
theorem ahl{l:List Tm}(h:Cw l=ab):l.length<=8:=by
 unfold Cw at h;split at h
 .cases h
 .omega
theorem e79(l:List Gl)(n:Int)(hl:Sm l)(hw:∀g∈l,s_ g):∃b,(b=ab->l.length<=n/\∀g∈l,g.ts.length<=8)/\CC 25 af [iX l,iI n] (iB b):=by
 refine CC.Cv _ avC kr (λ_=>kr) ax (by rfl) ?_;simp[ahk,SE.den];by_cases z:n<l.length
 .left;exact z
 right;refine⟨by omega,?_⟩;unfold Yi;refine az l.length (λi (_:Unit)=>[iI i]) (λi _=>∀g∈l.take i,g.ts.length<=8) () ?_ ax λi _ hi hI=>?_
 .simp[SE.den]
 by_cases aj:i<l.length
 .have mE:=aD aj hl;have hg:=hw _ (ayy aj);have afB:=alO l[i].ts λt ht=>(hg.2.2 t ht).wf;simp[SE.den,aj,mE,gJ aj,ao];refine⟨_,afB,?_⟩;cases ht:Cw l[i].ts<;>simp;exact .mk () rfl ai (aO aj hI (ahl ht))
 .simp[SE.den,aj];exact⟨by omega,aU aj hI⟩
theorem e44(l:List At)(hl:Sm l)(hw:∀g∈l,s9 g):∃b,(b=ab->∀g∈l,g.ts.length<=8)/\CC 24 af [dr l] (iB b):=by
 refine CC.Cv _ auT kr (λ_=>kr) ax (by rfl) ?_;simp[agN,SE.den];refine az l.length (λi (_:Unit)=>[iI i]) (λi _=>∀g∈l.take i,g.ts.length<=8) () ?_ ax λi _ hi hI=>?_
 .simp[SE.den]
 by_cases aj:i<l.length
 .have mE:=aD aj hl;have hg:=hw _ (ayy aj);have afB:=alO l[i].ts λt ht=>(hg.2.2 t ht).wf;simp[SE.den,aj,mE,gK aj,ao];refine⟨_,afB,?_⟩;cases ht:Cw l[i].ts<;>simp;exact .mk () rfl ai (aO aj hI (ahl ht))
 .simp[SE.den,aj];exact aU aj hI
structure NmP(p:Pg):Prop where
 sd:Sm p.eN
 sr:Sm p.bc
 d:∀d∈p.eN,Sm d.s
 r:∀r∈p.bc,qG r/\Sm r.aq/\Sm r.av/\Sm r.aw/\Sm r.aI
theorem e30(p:Pg)(h:NmP p):∃b,(b=ab->jG p)/\CC 7 af [aW p] (iB b):=by
 refine CC.Cv _ arq kr (λ_=>kr) (by simpa using eO p) (by rfl) ?_;obtain⟨ds,rs⟩:=p;obtain⟨sd,sr,hd,hr⟩:=h;simp only at*
 show UW.sat _ _ _ _ [.agg [dO ds,jF rs]];simp[UW,SE.den,ao];by_cases z:12<ds.length
 .left;omega
 right;refine⟨by omega,?_⟩;by_cases z:8<rs.length
 .left;omega
 right;refine⟨by omega,?_⟩;unfold UU;refine az rs.length (λi (_:Unit)=>[iI i]) (λi _=>∀r∈rs.take i,iY r) () ?_ ax λi _ hi hI=>?_
 .simp[SE.den]
 by_cases aj:i<rs.length
 .have mE:=aD aj sr;obtain⟨gB,s1,s2,s3,s4⟩:=hr _ (ayy aj);obtain⟨b1,f1,h1⟩:=e44 rs[i].aq s1 λa ha=>gB.hs a (ay9 _ ha);obtain⟨b2,f2,h2⟩:=e44 rs[i].av s2 λa ha=>gB.hs a (azt _ ha);obtain⟨b3,f3,h3⟩:=e79 rs[i].aw 6 s3 λa ha=>gB.gs a (ay9 _ ha);obtain⟨b4,f4,h4⟩:=e79 rs[i].aI 6 s4 λa ha=>gB.gs a (azt _ ha);simp[SE.den,aj,mE,q8 aj,ao];by_cases y1:3<rs[i].aq.length
  .left;omega
  right;refine⟨by omega,?_⟩;by_cases y2:3<rs[i].av.length
  .left;omega
  right;refine⟨by omega,?_⟩;have hwl:ay1.wrap ((rs[i].aq.length:Int)+(rs[i].av.length:Int))=rs[i].aq.length+rs[i].av.length:=dD ai ai;simp[hwl];by_cases y3:(3:Int)<rs[i].aq.length+rs[i].av.length
  .left;exact y3
  right;refine⟨by omega,?_⟩;by_cases y4:6<rs[i].aw.length
  .left;omega
  right;refine⟨by omega,?_⟩;by_cases y5:6<rs[i].aI.length
  .left;omega
  right;refine⟨by omega,?_⟩;refine⟨_,h1,?_⟩;cases b1<;>simp;refine⟨_,h2,?_⟩;cases b2<;>simp;refine⟨_,h3,?_⟩;cases b3<;>simp;refine⟨_,h4,?_⟩;cases b4<;>simp;refine .mk () rfl ai (aO aj hI ⟨by omega,by omega,by omega,λa ha=>?_,λa ha=>?_⟩)
  .rcases ayS.1 ha with ha|ha
   .exact f1 rfl a ha
   .exact f2 rfl a ha
  .rcases ayS.1 ha with ha|ha
   .exact(f3 rfl).2 a ha
   .exact(f4 rfl).2 a ha
 .simp[SE.den,aj];exact⟨by simp;omega,by simp;omega,hd,aU aj hI,λr uC=>(hr r uC).1⟩
theorem ars:ayu.underlying 9=aa .string:=by kernel_rfl
theorem eq9(d:Nat)(a b:ByteArray):aP ayu (azG (d+1) 9 (.string a) (.string b))=aa (a==b):=by
 rw[azG,bj,Go.Ev.run_underlying ars,ayx];rfl
theorem Yj(d:Nat)(a b:Int):aP ayu (azG (d+1) 3 (.int .i64 a) (.int .i64 b))=aa (a==b):=by
 rw[azG,bj,Go.Ev.run_underlying al4,ayx];rfl
theorem al9(d:Nat)(x y x' y':Value)(b1 b2:Bool)(h1:aP ayu (azG (d+1) 9 x x')=aa b1)(h2:aP ayu (azG (d+1) 3 y y')=aa b2):
 aP ayu (azG (d+2) 82 (.agg #[x,y]) (.agg #[x',y']))=aa (b1&&b2):=by
 rw[azG,bj,Go.Ev.run_underlying aC6,ayx];have bI:ayu.stoodInHeld 82=af:=by kernel_rfl
 have p9:∀(a b:Value),aP ayu (part 9 #[a,b] 0)=aa a:=λa b=>by kernel_rfl
 have p3:∀(a b:Value),aP ayu (part 3 #[a,b] 1)=aa b:=λa b=>by kernel_rfl
 have hp:aP ayu program=aa ayu:=rfl;rw[bj,hp,ayx,bI];simp only[ayW,if_false,<-aCM,aDn,aDA,bj,ne_eq,aC7,not_false_eq_true,if_true,p9,ayx,h1];have q:∀{O:Type} (a:O),aP ayu (pure a)=aa a:=λ_=>rfl;cases b1
 .rfl
 .simp only[az4,ayW,if_false,q,ayx,bj,p3,h2];cases b2<;>rfl
theorem bq(a b:List UInt8):((⟨a.toArray⟩:ByteArray)==⟨b.toArray⟩)=(a==b):=by
 show(a.toArray==b.toArray)=_;simp
theorem al_(P:Program)(t:TypeId)(a b c d:Value)(r:Bool)(hg:aP P (eqGuard .eql t (.func 0) (.func 0) (.agg #[a,b]) (.agg #[c,d]))=aa ())(h:aP P (aA6 t (.agg #[a,b]) (.agg #[c,d]))=aa r):
 cO P .eql t (.agg [.raw a,.raw b]) (.agg [.raw c,.raw d])=aa (iB r):=by
 show(aP P (do eqGuard .eql t (.func 0) (.func 0) (.agg #[a,b]) (.agg #[c,d]);aAe .eql t (.agg #[a,b]) (.agg #[c,d]))).map lift=_;rw[bj,hg];show(aP P (do pure (.bool (<-aA6 t (.agg #[a,b]) (.agg #[c,d]))))).map lift=_;rw[bj,h];rfl
deriving instance DecidableEq for De
theorem ama(s s':List UInt8)(n n':Int):cO ayu .eql 82 (.agg [iS s,iI n]) (.agg [iS s',iI n'])=aa (iB (s==s'&&n==n')):=by
 refine al_ _ _ _ _ _ _ _ (by kernel_rfl) ?_;rw[<-bq];exact al9 9998 _ _ _ _ _ _ (eq9 _ _ _) (Yj _ _ _)
def gL(d:De):Value:=.agg #[.string ⟨d.s.toArray⟩,.int .i64 d.n]
theorem eqK(k e:De):aP ayu (aA6 82 (gL k) (gL e))=aa (decide (k=e)):=by
 have h:aP ayu (aA6 82 (gL k) (gL e))=aa (k.s==e.s&&k.n==e.n):=by
  rw[<-bq];exact al9 9998 _ _ _ _ _ _ (eq9 _ _ _) (Yj _ _ _)
 rw[h];obtain⟨a,b⟩:=k;obtain⟨c,d⟩:=e;simp;rw[Bool.eq_iff_iff];simp
theorem H6{O:Type}(P:Program)(a:O):aP P (pure a)=aa a:=rfl
theorem ahm(k:De):∀(ks:List De) (i:Nat),(k∈ks->∃j,aP ayu (azF 82 (gL k) (ks.map λe=>⟨gL e,azk,0⟩) i)=aa (aa (i+j,azk))/\ks[j]?=aa k)/\
 (k∉ks->aP ayu (azF 82 (gL k) (ks.map λe=>⟨gL e,azk,0⟩) i)=aa ah)
 |[],i=>by simp[azF,H6]
 |e::ks,i=>by
  obtain⟨h1,h2⟩:=ahm k ks (i+1)
  have hu:aP ayu (azF 82 (gL k) ((e::ks).map λe=>⟨gL e,azk,0⟩) i)=aP ayu (if decide (k=e)=ab then pure (aa (i,azk))else azF 82 (gL k) (ks.map λe=>⟨gL e,azk,0⟩) (i+1)):=by
   rw[azs,azF,bj,eqK,ayx]
  rw[hu];by_cases h:k=e
  .subst h;exact⟨λ_=>⟨0,by rw[if_pos ax];simp[H6],rfl⟩,λhn=>absurd ax hn⟩
  .rw[if_neg (by simpa using h)];refine⟨λhm=>?_,λhn=>h2 λhm=>hn (by simp[hm])⟩;obtain⟨j,g1,g2⟩:=h1 (by simpa[h]using hm);exact⟨j+1,by rw[g1,show i+1+j=i+(j+1) by omega],by simpa using g2⟩
theorem Je(b:Bool)(k:De):aP ayu (Instr.checkKey b 10000 82 (gL k))=aa ():=by
 obtain⟨s,n⟩:=k;cases b<;>kernel_rfl
theorem adr(k:De)(ks:List De):aP ayu (azZ 82 (gL k) (ks.map λe=>⟨gL e,azk,0⟩))=aP ayu (azF 82 (gL k) (ks.map λe=>⟨gL e,azk,0⟩) 0):=by
 unfold azZ;rw[bj,Go.Ev.run_underlying aC6,ayx];cases ks with
 |nil=>rfl
 |cons e ks=>rfl
theorem aiX(b:Bool)(k:De)(ks:List De):(k∈ks->∃j,kA ayu b 82 (gL k) ((ks.map gL).map λe=>(e,.undef,0))=aa (aa j)/\ks[j]?=aa k)/\(k∉ks->kA ayu b 82 (gL k) ((ks.map gL).map λe=>(e,.undef,0))=aa ah):=by
 have hm:(((ks.map gL).map λe=>(e,(.undef:IV),0)).map λe=>({key:=e.1,val:=azk,born:=e.2.2}:MapEntry))=ks.map λe=>⟨gL e,azk,0⟩:=by
  rw[aB3,aB3];rfl
 obtain⟨h1,h2⟩:=ahm k ks 0;refine⟨λh=>?_,λh=>?_⟩
 .obtain⟨j,g1,g2⟩:=h1 h;refine⟨j,?_,g2⟩;unfold kA;rw[bj,Je,ayx,hm,adr,g1];simp
 .unfold kA;rw[bj,Je,ayx,hm,adr,h2 h]
theorem amb(k:De):aA7 10000 (gL k) (gL k)=ab:=by
 show((#[_,_]:Array Value).size==2&&_)=ab;simp[aA7,bq]
def CE(d:De):IV:=.aL [.agg [iS d.s,iI d.n],iB ab]
theorem ads:∀ds:List De,qQ (ds.map CE)=aa (ds.map gL)
 |[]=>rfl
 |k::ks=>by simp[qQ,CE,Ev.keyOf,ads ks,gL];rfl
theorem Yk(ds:List De)(k:De):(k∈ds->∃j,jl ayu 82 (ds.map CE) (.agg [iS k.s,iI k.n])=aa (aa j)/\ds[j]?=aa k)/\(k∉ds->jl ayu 82 (ds.map CE) (.agg [iS k.s,iI k.n])=aa ah):=by
 have h:jl ayu 82 (ds.map CE) (.agg [iS k.s,iI k.n])=LW ayu 82 (ds.map gL) (gL k):=by
  unfold jl;rw[ads];have:Ea ayu 82=ah:=by kernel_rfl
  rw[this];rfl
 rw[h];obtain⟨a1,a2⟩:=aiX ab k ds
 have hb:kA ayu af 82 (gL k) ((ds.map gL).map λe=>(e,.undef,0))=kA ayu ab 82 (gL k) ((ds.map gL).map λe=>(e,.undef,0)):=by
  unfold kA;rw[bj,bj,Je,Je]
 unfold LW;rw[hb];refine⟨λhm=>?_,λhm=>?_⟩
 .obtain⟨j,g1,g2⟩:=a1 hm;refine⟨j,?_,g2⟩;rw[g1];simp only[if_true];rw[ayR,g2];simp only[Option.map_some,amb,if_true]
 .rw[a2 hm];simp
abbrev bg(ls:List (List Int)):IV:=.tree 1 (ls.map iL)
theorem adt{ls:List (List Int)}{i:Nat}(h:i<ls.length):cz 1 (bg ls) (iI (i:Nat))=aa (iL ls[i]):=ef (by simp[h]) rfl
theorem Qq{ls:List (List Int)}{i:Nat}(h:i<ls.length):(ls.take (i+1)).flatten=(ls.take i).flatten++ls[i]:=by
 rw[ayE h,azu];simp only[aAl,aBh,ayO]
theorem Ov(ls:List (List Int))(i:Nat):(ls.take i).flatten.length<=ls.flatten.length:=by
 conv=>rhs;rw[<-azE i ls,azu,ayC]
 omega
theorem AZ(ls:List (List Int)):Pure (bg ls):=by
 refine .tree 1 _ λe he c hc=>?_;obtain⟨x,_,rfl⟩:=azb.1 he;simp[cellsOf]at hc;subst hc;exact Ej x
end Go.Proofs.YtabefplkfkfdfaaGreat
namespace Go.Proofs.YtabefplkfkfdfaaGreat
open Go Go.RowKit Go.Shelf
attribute [local go_sem] aBo
set_option maxRecDepth 100000 in
set_option maxHeartbeats 1000000 in
theorem Yl(F:Fence)(n:Nat)(h:F.fn 267)(eK:F.round=ah)(k m:Int)(s:ByteArray)(sl r:Value)(hr:r=if k=2 then sl else .slice ah 0 0)(w:World):
 CallsIn F n ayu 267 #[.agg #[.int .i64 k,.int .i64 m,.string s,sl]] w λe w'=>e=.returned r/\w'=w.alloc (.cells #[.int .i64 k,.int .i64 m,.string s,sl] 106):=by
 refine callsIn_of_wp Tryz.func267 rfl h ?_ eK;simp only[Tryz.ntmps267,az0,ay6,az2,aAj,aAk,azM,azN,az1,azQ,azl,azv];subst hr
 gi_wp2
 all_goals first|(go_ret;exact⟨rfl,rfl⟩)|(exfalso;simp_all)
theorem wrap_small(i:Nat)(h:i+1<=9223372036854775807):wrap64 ((i:Int)+1)=((i+1:Nat):Int):=by unfold wrap64;omega
theorem Jf(n i:Nat)(h:i<n):n-(intOf (.int .i64 ((i+1:Nat):Int))).toNat<n-(intOf (.int .i64 (i:Int))).toNat:=by simp only[intOf];omega
abbrev gZ:={x:Int//0<=x/\x<=1048576}
def SW(n₀:Nat)(W:World)(R:Value->List gZ->Prop)(sl:Value)(kX:List (List gZ)):Prop:=
 kX.length<=9223372036854775807/\((kX=[]/\∃a cap,sl=.slice a 0 cap)\/
 ∃b off cap,sl=.slice (aa ⟨b,off,ah⟩) kX.length cap/\b<n₀/\∀(i:Nat) (xs:List gZ),kX[i]?=aa xs->∃u0 u1 u2 u3,W.cell? ⟨b,off+i*4,ah⟩=aa u0/\W.cell? ⟨b,off+i*4+1,ah⟩=aa u1/\
  W.cell? ⟨b,off+i*4+2,ah⟩=aa u2/\W.cell? ⟨b,off+i*4+3,ah⟩=aa u3/\R (.agg #[u0,u1,u2,u3]) xs)
def TW(n₀:Nat)(W:World):Nat->Value->List gZ->Prop
 |0,_,_=>False
 |d+1,v,xs=>∃k n s a l c,v=.agg #[.int .i64 k,.int .i64 n,.string s,.slice a l c]/\((k=1/\∃h,xs=[⟨n,h⟩])\/(k≠1/\k≠2/\xs=[])\/(k=2/\∃kX,SW n₀ W (TW n₀ W d) (.slice a l c) kX/\xs=kX.flatten))
theorem TW.form{n₀:Nat}{W:World}:∀{d:Nat} {v:Value} {xs:List gZ},TW n₀ W d v xs->∃k n s a l c,v=.agg #[.int .i64 k,.int .i64 n,.string s,.slice a l c]
 |0,_,_,ht=>ht.elim
 |d+1,_,_,⟨k,n,s,a,l,c,h1,_⟩=>⟨k,n,s,a,l,c,h1⟩
theorem SW.below{n₀:Nat}{A B:World}(h:Below n₀ A B){R R':Value->List gZ->Prop}(hR:∀v xs,R v xs->R' v xs){sl:Value}{kX:List (List gZ)}(hs:SW n₀ A R sl kX):SW n₀ B R' sl kX:=by
 rcases hs with⟨hl,hs|⟨b,off,cap,h1,h2,h3⟩⟩
 .exact⟨hl,.inl hs⟩
 .refine⟨hl,.inr ⟨b,off,cap,h1,h2,λi xs hi=>?_⟩⟩;obtain⟨u0,u1,u2,u3,g0,g1,g2,g3,g4⟩:=h3 i xs hi;exact⟨u0,u1,u2,u3,(h.cell h2).trans g0,(h.cell h2).trans g1,(h.cell h2).trans g2,(h.cell h2).trans g3,hR _ _ g4⟩
theorem TW.below{n₀:Nat}{A B:World}(h:Below n₀ A B):∀{d:Nat} {v:Value} {xs:List gZ},TW n₀ A d v xs->TW n₀ B d v xs
 |0,_,_,ht=>ht
 |d+1,_,_,⟨k,n,s,a,l,c,h1,h2⟩=>⟨k,n,s,a,l,c,h1,h2.imp id λh2=>h2.imp id λ⟨hk,kX,h3,h4⟩=>⟨hk,kX,h3.below h λ_ _=>TW.below h,h4⟩⟩
theorem Q8{F:Fence}(hd:F.depth=ah)(k:Nat):F.room k:=λd h=>by rw[hd]at h;cases h
theorem RoundIn.H7{F:Fence}(hd:F.depth=ah){m m':Nat}{P:Program}{l:Nat}{f:FuncId}{tmps:Array Value}{assign body:Code}{w:World}{R:Ending->World->Prop}
 (h:RoundIn F m P l f tmps assign body w R):RoundIn F m' P l f tmps assign body w R:=⟨h.1,λc cs _=>h.2 c cs (Q8 hd _)⟩
theorem YieldAt.H7{F:Fence}(hd:F.depth=ah){m:Nat}(m':Nat){P:Program}{l:Nat}{args:Array Value}{W:World}{R:Ending->World->Prop}(h:YieldAt F m P l args W R):YieldAt F m' P l args W R:=by
 obtain⟨fn,tmps,assign,body,hy,hR⟩:=h;exact⟨fn,tmps,assign,body,hy,RoundIn.H7 hd hR⟩
set_option maxRecDepth 100000 in
set_option maxHeartbeats 2000000 in
theorem aiY(F:Fence)(hd:F.depth=ah)(K8:F.fn 246)(H8:F.fn 267)(eK:F.round=ah)(l n₀ N:Nat)(J Jx:List gZ->World->Prop)
 (Qg:∀pre W W',J pre W->W.grownBy W' ah->J pre W')
 (hY:∀m pre (x:gZ) W,J pre W->pre.length<N->YieldAt F m ayu l #[.int .i64 x.1] W λe W'=>
  (e=.returned (.bool ab)/\J (pre++[x]) W'/\Below n₀ W W')\/(e=.returned (.bool af)/\Jx (pre++[x]) W')):
 ∀(d n:Nat) (v:Value) (xs pre:List gZ) (W:World),TW n₀ W d v xs->n₀<=W.heap.size->J pre W->pre.length+xs.length<=N->
  CallsIn F n ayu 246 #[v,.func (.yield l) #[] #[]] W λe W'=>
   (e=.returned (.bool ab)/\J (pre++xs) W'/\Below n₀ W W')\/(e=.returned (.bool af)/\∃q,q<+:xs/\Jx (pre++q) W'):=by
 have Jr:∀k:Nat,(F.depth.isSome=ab->1<=k):=λk h=>by rw[hd]at h;cases h
 intro d;induction d with
 |zero=>intro n v xs pre W ht;exact ht.elim
 |succ d ih=>
  intro n v xs pre W ht hn hJ hN;obtain⟨k,m,s,a0,l0,c0,rfl,Ym⟩:=ht;obtain⟨sl,pW⟩:∃sl,sl=aCB a0 l0 c0:=⟨_,rfl⟩;rw[<-pW]at Ym⊢;clear pW a0 l0 c0;refine callsIn_of_wp Tryz.func246 rfl K8 ?_ eK;simp only[Tryz.ntmps246,az0,ay6,az2,aAj,aAk,azM,azN,az1,azQ,azl,azv];have bR:=Qg pre W (W.alloc (.cells #[.int .i64 k,.int .i64 m,.string s,sl] 106)) hJ (aA1 W _ ah);rcases Ym with⟨hk,hmw,rfl⟩|Ym
  .subst hk;simp only[List.length_singleton]at hN⊢;obtain⟨fn,tmps,assign,body,hy,hR⟩:=hY (n- 1) pre ⟨m,hmw⟩ _ bR (by omega)
   gi_wp2_with ((try refine⟨Jr _,?_⟩);refine hR.mono ?_;clear hR;rintro e W2 (⟨rfl,fE,eR⟩|⟨rfl,sb⟩))
   .go_ret
    exact .inl ⟨rfl,fE,((aAh n₀ W).alloc hn _).trans eR⟩
   .go_ret
    exact .inr ⟨rfl,_,⟨[],ayO _⟩,sb⟩
  .have hk:k≠1:=by
    rcases Ym with⟨h,_⟩|⟨h,_⟩
    .exact h
    .omega
   obtain⟨r,hr⟩:∃r,r=if k=2 then sl else aCB ah 0 0:=⟨_,rfl⟩
   obtain⟨us,hrs,pc⟩:∃us:List (List gZ),SW n₀ W (TW n₀ W d) r us/\us.flatten=xs:=by
    rcases Ym with⟨_,h2,rfl⟩|⟨h2,kX,hs,rfl⟩
    .exact⟨[],by rw[hr,if_neg h2];exact⟨by simp,.inl ⟨rfl,ah,0,rfl⟩⟩,rfl⟩
    .exact⟨kX,by rw[hr,if_pos h2];exact hs,rfl⟩
   rw[<-pc]at hN⊢;have hH:Hid (r=if k=2 then sl else aCB ah 0 0):=hr;clear pc hr Ym;rcases hrs with⟨hul,⟨rfl,a,cap,rfl⟩|⟨b,off,cap,rfl,Hd,ot⟩⟩
   .gi_wp2_with (first
     |((try refine⟨Jr _,?_⟩);gi_at_call 267;refine(Yl F _ H8 eK k m s sl _ hH.out _).mono ?_;rintro e w' ⟨rfl,rfl⟩))
    gi_loopw [17] (λp wr=>p=.int .i64 0/\J pre wr/\Below n₀ W wr) (λ_ _=>0)
    case atStart=>exact⟨rfl,Qg _ _ _ bR (aA1 _ _ ah),((aAh n₀ W).alloc hn _).alloc (by simp;omega) _⟩
    case round=>
     obtain⟨rfl,CG,uX⟩:=hrel
     gi_wp2
     go_ret
     exact .inl ⟨rfl,by simpa using CG,uX⟩
   .gi_wp2_with (first
     |((try refine⟨Jr _,?_⟩);gi_at_call 267;refine(Yl F _ H8 eK k m s sl _ hH.out _).mono ?_;rintro e w' ⟨rfl,rfl⟩))
    gi_loopw [17] (λp wr=>∃i:Nat,p=.int .i64 i/\i<=us.length/\J (pre++(us.take i).flatten) wr/\Below n₀ W wr) (λp _=>us.length-(intOf p).toNat)
    case atStart=>exact⟨0,rfl,by omega,by simpa using Qg _ _ _ bR (aA1 _ _ ah),((aAh n₀ W).alloc hn _).alloc (by simp;omega) _⟩
    case round=>
     obtain⟨i,rfl,hi,CG,uX⟩:=hrel;by_cases aj:i<us.length
     .have iN:(i:Int)<(us.length:Int):=by omega
      obtain⟨u0,u1,u2,u3,g0,g1,g2,g3,g4⟩:=ot i us[i] (ayv aj);have c0:wr.cell? ⟨b,off+i*4,ah⟩=aa u0:=(uX.cell Hd).trans g0;have c1:wr.cell? ⟨b,off+i*4+1,ah⟩=aa u1:=(uX.cell Hd).trans g1;have c2:wr.cell? ⟨b,off+i*4+2,ah⟩=aa u2:=(uX.cell Hd).trans g2;have c3:wr.cell? ⟨b,off+i*4+3,ah⟩=aa u3:=(uX.cell Hd).trans g3;obtain⟨k',n',s',a',l',c',he⟩:=g4.form;simp only[aCH,aCR,aAa,and_true]at he;obtain⟨rfl,rfl,rfl,rfl⟩:=he;have bf:n₀<=wr.heap.size:=ayU hn uX.size;have MR:(us.take (i+1)).flatten=(us.take i).flatten++us[i]:=by rw[ayE aj,azu];simp only[aAl,aBh,ayO]
      have hle:(us.take i).flatten.length+us[i].length<=us.flatten.length:=by
       rw[<-ayC,<-MR]
       conv=>rhs;rw[<-azE (i+1) us,azu,ayC]
       omega
      have ihc:=ih (n- 1) _ us[i] (pre++(us.take i).flatten) (wr.alloc (.cells #[.int .i64 k',.int .i64 n',.string s',.slice a' l' c'] 106)) (g4.below (uX.alloc bf _)) (by simp;omega) (Qg _ _ _ CG (aA1 _ _ ah)) (by rw[ayC];omega);clear g4 ot;have mE:wrap64 ((i:Int)+1)=((i+1:Nat):Int):=wrap_small i (by omega)
      gi_wp2_with ((try refine⟨Jr _,?_⟩);refine ihc.mono ?_;clear ihc;rintro e W3 (⟨rfl,vG,eg⟩|⟨rfl,q,hq,JR⟩))
      .go_roundw
       case rel=>exact⟨i+1,by first|rfl|rw[mE],aj,by rw[MR,<-ayJ];exact vG,(uX.alloc bf _).trans eg⟩
       case measure=>first|exact Jf _ _ aj|(rw[mE];exact Jf _ _ aj)
      .go_ret
       obtain⟨t,ht⟩:=hq;refine .inr ⟨rfl,(us.take i).flatten++q,⟨t++(us.drop (i+1)).flatten,?_⟩,by rw[<-ayJ];exact JR⟩
       conv=>rhs;rw[<-azE (i+1) us,azu,MR,<-ht]
       simp[ayJ]
     .have iN:¬(i:Int)<(us.length:Int):=by omega
      gi_wp2
      go_ret
      have:us.take i=us:=ayF (by omega);exact .inl ⟨rfl,by rw[this]at CG;exact CG,uX⟩
set_option maxRecDepth 100000 in
set_option maxHeartbeats 2000000 in
theorem afC(F:Fence)(hd:F.depth=ah)(Dt:F.fn 245)(K8:F.fn 246)(H8:F.fn 267)(eK:F.round=ah)(n d l Bn n₀:Nat)(sl:Value)(us:List (List gZ))(J Jx:List gZ->World->Prop)
 (Qg:∀pre W W',J pre W->W.grownBy W' ah->J pre W')
 (hY:∀pre (x:gZ) W,J pre W->pre.length<us.flatten.length->YieldAt F (n- 1) ayu l #[.int .i64 x.1] W λe W'=>
  (e=.returned (.bool ab)/\J (pre++[x]) W'/\Below n₀ W W')\/(e=.returned (.bool af)/\Jx (pre++[x]) W'))
 (W:World)(hb:Bn<n₀)(hn:n₀<=W.heap.size)(hBn:W.cell? ⟨Bn,0,ah⟩=aa sl)(hL:SW n₀ W (TW n₀ W d) sl us)(h0:J [] W):
 CallsIn F n ayu 245 #[.func (.yield l) #[] #[],.pointer (aa ⟨Bn,0,ah⟩)] W λe W'=>(∃v,e=.returned v)/\
  ((∃ys,ys=us.flatten/\J ys W')\/(∃pre,pre<+:us.flatten/\Jx pre W')):=by
 have Jr:∀k:Nat,(F.depth.isSome=ab->1<=k):=λk h=>by rw[hd]at h;cases h
 have hw:=aiY F hd K8 H8 eK l n₀ us.flatten.length J Jx Qg (λm pre x W hj hl=>YieldAt.H7 hd m (hY pre x W hj hl)) d (n- 1);obtain⟨hul,⟨rfl,a,cap,rfl⟩|⟨b,off,cap,rfl,Hd,ot⟩⟩:=hL
 .refine callsIn_of_wp aCt rfl Dt ?_ eK;simp only[aDL,az0,ay6,az2,aAj,aAk,azM,azN,az1,azQ,azl,azv]
  gi_wp2
  gi_loopw [6] (λp wr=>p=.int .i64 0/\J [] wr/\Below n₀ W wr) (λ_ _=>0)
  case atStart=>exact⟨rfl,h0,aAh n₀ W⟩
  case round=>
   obtain⟨rfl,CG,uX⟩:=hrel
   gi_wp2
   go_end0
   exact⟨⟨_,rfl⟩,.inl ⟨_,rfl,CG⟩⟩
 .refine callsIn_of_wp aCt rfl Dt ?_ eK;simp only[aDL,az0,ay6,az2,aAj,aAk,azM,azN,az1,azQ,azl,azv]
  gi_wp2
  gi_loopw [6] (λp wr=>∃i:Nat,p=.int .i64 i/\i<=us.length/\J (us.take i).flatten wr/\Below n₀ W wr) (λp _=>us.length-(intOf p).toNat)
  case atStart=>exact⟨0,rfl,by omega,by simpa using h0,aAh n₀ W⟩
  case round=>
   obtain⟨i,rfl,hi,CG,uX⟩:=hrel;have hBc:wr.cell? ⟨Bn,0,ah⟩=aa (.slice (aa ⟨b,off,ah⟩) us.length cap):=(uX.cell hb).trans hBn;by_cases aj:i<us.length
   .have iN:(i:Int)<(us.length:Int):=by omega
    obtain⟨u0,u1,u2,u3,g0,g1,g2,g3,g4⟩:=ot i us[i] (ayv aj);have c0:wr.cell? ⟨b,off+i*4,ah⟩=aa u0:=(uX.cell Hd).trans g0;have c1:wr.cell? ⟨b,off+i*4+1,ah⟩=aa u1:=(uX.cell Hd).trans g1;have c2:wr.cell? ⟨b,off+i*4+2,ah⟩=aa u2:=(uX.cell Hd).trans g2;have c3:wr.cell? ⟨b,off+i*4+3,ah⟩=aa u3:=(uX.cell Hd).trans g3;have MR:(us.take (i+1)).flatten=(us.take i).flatten++us[i]:=by rw[ayE aj,azu];simp only[aAl,aBh,ayO]
    have hle:(us.take i).flatten.length+us[i].length<=us.flatten.length:=by
     rw[<-ayC,<-MR]
     conv=>rhs;rw[<-azE (i+1) us,azu,ayC]
     omega
    have ihc:=hw _ us[i] (us.take i).flatten wr (g4.below uX) (ayU hn uX.size) CG hle;obtain⟨k',n',s',a',l',c',he⟩:=g4.form;simp only[aCH,aCR,aAa,and_true]at he;obtain⟨rfl,rfl,rfl,rfl⟩:=he;clear g4 ot hw;have mE:wrap64 ((i:Int)+1)=((i+1:Nat):Int):=wrap_small i (by omega)
    gi_wp2_with ((try refine⟨Jr _,?_⟩);refine ihc.mono ?_;clear ihc;rintro e W3 (⟨rfl,vG,eg⟩|⟨rfl,q,hq,JR⟩))
    .go_roundw
     case rel=>exact⟨i+1,by first|rfl|rw[mE],aj,by rw[MR];exact vG,uX.trans eg⟩
     case measure=>first|exact Jf _ _ aj|(rw[mE];exact Jf _ _ aj)
    .refine bodyPost_ret (results_none rfl _ _ _) rfl ?_;obtain⟨t,ht⟩:=hq;refine⟨⟨_,rfl⟩,.inr ⟨(us.take i).flatten++q,⟨t++(us.drop (i+1)).flatten,?_⟩,JR⟩⟩
     conv=>rhs;rw[<-azE (i+1) us,azu,MR,<-ht]
     simp[ayJ]
   .have iN:¬(i:Int)<(us.length:Int):=by omega
    gi_wp2
    go_end0
    have:us.take i=us:=ayF (by omega);rw[this]at CG
    first|exact CG|exact⟨⟨_,rfl⟩,.inl CG⟩|exact .inl CG|exact⟨⟨_,rfl⟩,.inl ⟨_,rfl,CG⟩⟩
theorem aaZ(F:Fence)(hd:F.depth=ah)(Dt:F.fn 245)(K8:F.fn 246)(H8:F.fn 267)(eK:F.round=ah)(n d Bn n₀:Nat)(sl:Value)(us:List (List gZ))(w:World)(hb:Bn<n₀)(hn:n₀<=w.heap.size)
 (hc:w.cell? ⟨Bn,0,ah⟩=aa sl)(hL:SW n₀ w (TW n₀ w d) sl us):
 SeqStopsK F n ayu 245 #[.pointer (aa ⟨Bn,0,ah⟩)] (λx:gZ=> #[aAc .i64 x.1]) (Below n₀) (λys=>ys=us.flatten) (λpre=>pre<+:us.flatten) us.flatten.length w:=λl J Jx W hW hJ _ hY h0=>
 afC F hd Dt K8 H8 eK n d l Bn n₀ sl us J Jx (λpre A B hj hg=>hJ pre A B ah hj hg (λr e=>by cases e)) hY W hb (ayU hn hW.size) ((hW.cell (p:=⟨Bn,0,ah⟩) (by show Bn<_;omega)).trans hc) (hL.below (hW.mono hn) λ_ _=>TW.below (hW.mono hn)) h0
set_option maxHeartbeats 1000000 in
theorem Ow(F:Fence)(n:Nat)(h:F.fn 208)(eK:F.round=ah)(a:Option Addr)(ln cp:Nat)(w:World):
 CallsIn F n ayu 208 #[.slice a ln cp] w λe w'=>e=.returned (.func (.func 245) #[] #[.pointer (aa ⟨w.heap.size,0,ah⟩)])/\w'=w.alloc (.cells #[.slice a ln cp] 68):=by
 refine callsIn_of_wp Tryz.func208 rfl h ?_ eK;simp only[Tryz.ntmps208,az0,ay6,az2,aAj,aAk,azM,azN,az1,azQ,azl,azv]
 gi_wp2
 go_ret
 exact⟨rfl,rfl⟩
section
attribute [local go_sem] aBo
def uq(l:List gZ):List gZ:=l.foldl (λacc x=>if x∈acc then acc else acc++[x]) []
theorem UX(pre:List gZ){x:gZ}(h:x∈uq pre):uq (pre++[x])=uq pre:=by
 unfold uq at h⊢;rw[aBc];simp only[aze,aDB];rw[if_pos h]
theorem Ox(pre:List gZ){x:gZ}(h:x∉uq pre):uq (pre++[x])=uq pre++[x]:=by
 unfold uq at h⊢;rw[aBc];simp only[aze,aDB];rw[if_neg h]
theorem avD(x:gZ):(Lit.int .i64 x.1).wf=ab:=by
 obtain⟨x,h1,h2⟩:=x;have e1:ay1.min= -9223372036854775808:=by decide
 have e2:ay1.max=9223372036854775807:=by decide
 simp[Lit.wf,e1,e2];omega
theorem Oy:∀(N:Nat) (l:List Int),l.Nodup->(∀x∈l,0<=x/\x<N)->l.length<=N
 |0,[],_,_=>by simp
 |0,x::l,_,h=>by have:=h x (by simp);omega
 |N+1,l,hn,h=>by
  have ih:=Oy N (l.erase (N:Int)) (hn.erase _) λx hx=>by
   have h1:=h x (aCA hx);have h2:x≠(N:Int):=λhe=>by rw[hn.mem_erase_iff]at hx;exact hx.1 he
   omega
  rw[aC5]at ih;split at ih<;>omega
theorem afD(pre:List gZ):(uq pre).Nodup:=by
 have key:∀(l acc:List gZ),acc.Nodup->(l.foldl (λacc x=>if x∈acc then acc else acc++[x]) acc).Nodup:=by
  intro l;induction l with
  |nil=>intro acc h;exact h
  |cons y l ih=>
   intro acc h;rw[aze];refine ih _ ?_;split
   .exact h
   .rename_i hy;rw[aBS];exact⟨h,by simp,λa ha b hb=>by simp at hb;subst hb;exactλhe=>hy (he▸ha)⟩
 exact key pre [] (by simp)
theorem afE(pre:List gZ):(uq pre).length<=1048577:=by
 have hn:((uq pre).map (·.1)).Nodup:=aBQ (λx:gZ=>x.1) (λa b h he=>h (aCn he)) (afD pre)
 have:=Oy 1048577 ((uq pre).map (·.1)) hn λx hx=>by
  obtain⟨y,_,rfl⟩:=azb.1 hx;have:=y.2;omega
 simpa using this
def CH{H:Type}(xs:List gZ):DataW H:=xs.foldl (λD x=>D.put (.int .i64 x.1) (.lit (.bool ab))) (.map [])
theorem MS{H:Type}(pre:List gZ)(x:gZ):CH (H:=H) (pre++[x])=(CH pre).put (.int .i64 x.1) (.lit (.bool ab)):=by simp[CH]
theorem WB{H:Type}(xs:List gZ):aCS (CH (H:=H) xs):=by
 have key:∀(l:List gZ) (D:DataW H),aCS D->aCS (l.foldl (λD x=>D.put (.int .i64 x.1) (.lit (.bool ab))) D):=by
  intro l;induction l with
  |nil=>intro D h;exact h
  |cons y l ih=>
   intro D h;rw[aze];obtain⟨es,rfl⟩:=h;exact ih _ ⟨_,rfl⟩
 exact key xs _ ⟨[],rfl⟩
theorem K9{H:Type}(x:gZ):∀(n:Nat) (xs:List gZ),xs.length=n->(CH (H:=H) xs).atKey (.int .i64 x.1) (.lit (.bool af))=.lit (.bool (decide (x∈xs)))
 |0,xs,h=>by
  rw[ayZ h];rfl
 |n+1,xs,h=>by
  rcases List.eq_nil_or_concat xs with rfl|⟨ys,y,rfl⟩
  .simp at h
  .rw[List.concat_eq_append]at h⊢;rw[MS];by_cases hxy:x=y
   .subst hxy;rw[Maps.atKey_put_same (WB ys) (by simp[WideAt.IsKeyLit])];simp
   .rw[Maps.atKey_put_other (λhe=>hxy (aCn (by simpa using he))),K9 x n ys (by simpa using h)];simp[hxy]
section
variable{H:Type}{F:Fence}{nF:Nat}{P:Program}(w:World){ops:Array Oper}{rest:List Oper}{o:Oper}{a:Act}{Q:Exit->Act->World->Prop}
theorem H9{e:TypeId}(he:P.underlying e=aa .bool){v:Value}{c:Bool}{ps:List MemPlace}(h:plainElem (H:=H) P e v=aa (.lit (.bool c),ps)):v=.bool c:=by
 unfold plainElem at h;rw[he]at h;cases v<;>simp at h;rw[h.1]
theorem q9(hg:o.guard=ah)(m x:Operand)(t:TypeId)(jz:o.op=Op.lookup t m x af)
 (k e:TypeId)(K:Maps.Keyed P k)(ht:P.underlying t=aa (.map k e))(he:P.underlying e=aa .bool)(hz:(zeroValue e).run P w=.ok (.bool af) w)(b n:Nat)(D:DataW H)
 (hm:a.eval m=.map (aa b))(jI:w.ownsMap P k (plainElem P e) b n D)(key:Value)(kl:Lit)(hx:a.eval x=key)(sA:keyOf P k key=aa kl)(c:Bool)(aK:D.atKey kl (.lit (.bool af))=.lit (.bool c))
 (hK:wpListIn F nF P ops Q rest (a.put o.dst (.bool c)) w):
 wpListIn F nF P ops Q (o::rest) a w:=by
 refine wpListIn_plain hg λK' hK'=>?_;obtain⟨v,ps,kb,hv⟩:=jI.lookup K ht hz (plainElem_bool he af) sA;rw[aK]at hv;obtain rfl:=H9 he hv;unfold Oper.wpIn;refine⟨by simp[Oper.about,jz],?_⟩;rw[Oper.semAt_plain F _ _ (by rw[jz];intro c DN;cases DN)];simp[execOp,jz,hm,hx,kb,Result.andThen];exact hK' _ _ hK
end
theorem UY{H:Type}{P:Program}{k:TypeId}{R:Value->Option (DataW H×List MemPlace)}{W W':World}{b n:Nat}{D:DataW H}(h:W.ownsMap P k R b n D)(hb:W'.heap[b]?=W.heap[b]?):W'.ownsMap P k R b n D:=by
 obtain⟨es,clock,h1,h2⟩:=h;exact⟨es,clock,hb.trans h1,h2⟩
theorem art:(ayu.info? 3).map (λi=>(i.zero,i.size,i.bytes))=aa (aa (.int .i64 0),1,8):=by kernel_rfl
set_option maxRecDepth 100000 in
set_option maxHeartbeats 4000000 in
theorem aiZ(F:Fence)(hd:F.depth=ah)(n:Nat)(aa0:F.fn 207)(Dt:F.fn 245)(K8:F.fn 246)(H8:F.fn 267)(eK:F.round=ah)(d Bn:Nat)(sl:Value)(us:List (List gZ))(w:World)(hb:Bn<w.heap.size)
 (hc:w.cell? ⟨Bn,0,ah⟩=aa sl)(hL:SW w.heap.size w (TW w.heap.size w d) sl us):
 CallsIn F (n+3) ayu 207 #[.func (.func 245) #[] #[.pointer (aa ⟨Bn,0,ah⟩)]] w λe W'=>∃v,e=.returned v/\W'.ownsRow w.heap.size 3 1 v (uq us.flatten).length ((uq us.flatten).map λx=>aAc .i64 x.1)/\(v=.slice ah 0 0↔uq us.flatten=[])/\Below w.heap.size w W':=by
 have h1:1<=n+3:=by omega
 obtain⟨i0,hi,qJ,vI,LZ⟩:=info_parts art;have hmm:= @run_makeMap ayu;refine callsIn_of_wp_marks Tryz.func207 rfl aa0 ?_ eK;simp only[Tryz.ntmps207,az0,ay6,az2,aAj,aAk,azM,azN,az1,azQ,azl,azv]
 gi_wp2
 have bO0:=aC8 w 29 (.slice ah 0 0);have An:=World.ownsMap_made (w.alloc (.cells #[.slice ah 0 0] 29)) ayu 3 (plainElem (H:=Unit) ayu 4);have bS0:=aC8 ((w.alloc (.cells #[.slice ah 0 0] 29)).alloc (.map #[] 0)) 235 (.map (aa (w.heap.size+1)));simp only[aC9]at An bS0;have DZ:Below w.heap.size w (((w.alloc (.cells #[.slice ah 0 0] 29)).alloc (.map #[] 0)).alloc (.cells #[.map (aa (w.heap.size+1))] 235)):=(((aAh _ w).alloc (ayA _) _).alloc (by simp) _).alloc (by simp;omega) _
 refine wpIn_rangeFunc_ownG eK h1 (gf:=245) (lb:= #[.pointer (aa ⟨Bn,0,ah⟩)]) rfl Dt (enters_of aCt (by kernel_rfl) rfl)
  (aaZ F hd Dt K8 H8 eK _ d Bn w.heap.size sl us _ hb (by simp;omega) ((DZ.cell (p:=⟨Bn,0,ah⟩) hb).trans hc) (hL.below DZ λ_ _=>TW.below DZ)) belowK_t (belowK_b (by simp;omega)) (aAh _ _) (λ_=>rfl)
  (λpre W=>((∃v,Boxed W w.heap.size 29 v/\W.ownsRow w.heap.size 3 1 v (uq pre).length ((uq pre).map λx=>aAc .i64 x.1)/\(v=.slice ah 0 0↔uq pre=[]))/\
   (Boxed W (w.heap.size+1+1) 235 (.map (aa (w.heap.size+1)))/\W.ownsMap ayu 3 (plainElem (H:=Unit) ayu 4) (w.heap.size+1) (uq pre).length (CH (uq pre))))/\Below w.heap.size w W)
  (λ_ _ _=>False)
  (aDC (aDC (Own.from (holdsRow_own w.heap.size w.heap.size 29 3 1 (λpre=>(uq pre).length) (λpre=>(uq pre).map λx=>aAc .i64 x.1) (λpre v=>v=.slice ah 0 0↔uq pre=[])) _)
   (λs A B row hs hg hr=>⟨hs.1.kept hg (λe=>by have:=(hr _ e.symm).1;simp at this;omega),hs.2.kept hg (λe=>by have:=(hr _ e.symm).1;simp at this;omega)⟩)) (ownFrom_below (ayA _) (by simp;omega)))
  (λ_ _ _ _ _ hs _ _=>hs)
  ⟨⟨⟨_,(bO0.alloc _).alloc _,World.ownsRow_nil _ _ _ _,by simp[uq]⟩,⟨bS0,An.alloc _⟩⟩,DZ⟩
  (λx=>{tmps:= #[.func (.func 245) #[] #[.pointer (aa ⟨Bn,0,ah⟩)],undef,.slice ah 0 0,.pointer (aa ⟨w.heap.size,0,ah⟩),.pointer (aa ⟨w.heap.size+1+1,0,ah⟩),.int .i64 x.1,.map (aa (w.heap.size+1)),.func (.func 245) #[] #[.pointer (aa ⟨Bn,0,ah⟩)],.int .i64 x.1,undef,undef,undef,undef,undef,undef,undef,undef,undef,undef,undef],defers:=[]}) ?assign ?body ?done ?stop
 case assign=>
  intro l x W K hK
  gi_wp2
  exact hK
 case body=>
  rintro l pre x W ⟨⟨⟨v,hv,m6,C4⟩,jA,jI⟩,hB⟩ aj;have bQ:=jA.cell;have sA:=Maps.keyOf_int_mk aBi (avD x);have ir:=afE pre;have bf:w.heap.size<=W.heap.size:=hB.size;by_cases hx:x∈uq pre
  .have aK:(CH (H:=Unit) (uq pre)).atKey (.int .i64 x.1) (.lit (.bool af))=.lit (.bool ab):=by rw[K9 x _ _ rfl];simp[hx]
   gi_wp2_with (gi_at_lookup;refine q9 _ rfl _ _ 235 rfl 3 4 (aCg aBi) aBL aB4 (aDo _) (w.heap.size+1) (uq pre).length _ rfl jI _ _ rfl sA ab aK ?_)
   exact⟨aEc _ _,aAh _ _,⟨⟨v,hv,by rw[UX pre hx];exact m6,by rw[UX pre hx];exact C4⟩,jA,by rw[UX pre hx];exact jI⟩,hB⟩
  .have aK:(CH (H:=Unit) (uq pre)).atKey (.int .i64 x.1) (.lit (.bool af))=.lit (.bool af):=by rw[K9 x _ _ rfl];simp[hx]
   have Bk:2000000<=maxLen:=by decide
   have hum:(uq pre).length<maxLen:=by omega
   have avE:(uq pre).length+1<=maxLen:=by omega
   have hub:((uq pre).length+1)*8<=140737488355328:=by omega
   gi_wp2_with (first
    |(gi_at_lookup;refine q9 _ rfl _ _ 235 rfl 3 4 (aCg aBi) aBL aB4 (aDo _) (w.heap.size+1) (uq pre).length _ rfl jI _ _ rfl sA af aK ?_)
    |(gi_at_mapUpdate;refine wpListIn_mapUpdate_own _ rfl _ _ _ 235 rfl 3 4 (aCg aBi) aBL _ (w.heap.size+1) (uq pre).length _ rfl jI hum _ _ _ rfl rfl sA _ [] (plainElem_bool aB4 ab) ?_;intro w1 ahn Em;
      obtain⟨v1,JN,aa1,aya⟩:=holdsRow_own (β:=Unit) w.heap.size w.heap.size 29 3 1 (λ_=>(uq pre).length) (λ_=>(uq pre).map λx=>aAc .i64 x.1) (λ_ v=>v=.slice ah 0 0↔uq pre=[]) () W w1 (aa (w.heap.size+1)) ⟨v,hv,m6,C4⟩ Em (λr e=>by cases e;obtain⟨es,ck,hh,_⟩:=jI;exact⟨_,hh,rfl⟩);
      have cd:=JN.cell;have amc:w.heap.size<=w1.heap.size:=ayU bf Em.size)
    |(gi_at_builtin;refine wpListIn_append_own _ rfl _ _ 29 rfl w.heap.size 3 i0 (.int .i64 0) 1 8 Tryz.underlying29 hi qJ vI LZ rfl (by decide) _ _ _ rfl (aa1.alloc _) ⟨w1.heap.size,0,ah⟩ 1 1 [.int .i64 x.1] rfl rfl (cell_one_new _ _ _) (by simp[Value.oneCell']) avE hub (ayU amc (by simp)) ?_;
      intro v' w2 Lq adu _;obtain⟨g',Fl,rfl⟩:=ownsRow_succ Lq;obtain⟨hv2,hv3,hr3,UZ,eg⟩:=JN.appended (by decide) aa1 amc (ayA _) Lq adu;have lE:=hv2.cell;have hf2:=hv2.frozen))
   have He:Boxed w1 (w.heap.size+1+1) 235 (.map (aa (w.heap.size+1))):=jA.kept Em (λe=>by simp at e);have avF:Boxed w2 (w.heap.size+1+1) 235 (.map (aa (w.heap.size+1))):=(He.alloc _).kept adu (He.not_row (by decide) aa1);have avG:=avF.other (B':=w.heap.size) (by omega) (.slice (aa ⟨g',0,ah⟩) ((uq pre).length+1) Fl);have hmp:w1.heap[w.heap.size+1]?=_:=aAS (aAS ahn)|>.1
   refine⟨(aEd Em (λj e=>by cases e;simp)).trans (UZ.from _),((aAh _ W).grown Em bf (λk e=>by cases e;omega)).trans eg,
    ⟨⟨_,hv3,by rw[Ox pre hx];simpa using hr3,by rw[Ox pre hx];simp⟩,avG,?_⟩,(hB.grown Em bf (λk e=>by cases e;omega)).trans eg⟩
   rw[Ox pre hx,MS,ayC];exact UY ahn ((UZ.same _ _ hmp rfl).trans hmp.symm)
 case done=>
  rintro D ys W hD rfl ⟨⟨⟨v,hv,m6,C4⟩,jA,jI⟩,hB⟩ hK;have hc:=hv.cell
  gi_wp2
  refine⟨by simp,.inl ⟨_,_,rfl,run_takeDeferred hK,?_⟩⟩;exact⟨_,results_tmp rfl _ _ _,v,rfl,ownsRow_putObj m6 _ hK rfl,C4,hB.trans (belowK_b (w:=w) (ayA _) W D _ _ (by simp at hD;omega) hK rfl rfl)⟩
 case stop=>
  rintro D c pre W _ _ h _;exact h.elim
end
attribute [local go_sem] aBo
def fP:Tm->List Int
 |.mk k n _ ts=>if k=1 then[n]else if k=2 then RN ts else[]
where RN:List Tm->List Int
 |[]=>[]
 |t::ts=>fP t++RN ts
theorem Gf:∀l:List Tm,fP.RN l=(l.map fP).flatten
 |[]=>rfl
 |t::l=>by simp[fP.RN,Gf l]
theorem gb{Z:Ev.Io}{v u:Value}(h:Ev.Rv Z (.raw v) u):u=v:=by cases h;rfl
theorem ai0{Z:Ev.Io}{a b c d:Ev.IV}{v:Value}(h:Ev.Rv Z (.agg [a,b,c,d]) v):∃x y z u,v=.agg #[x,y,z,u]/\Ev.Rv Z a x/\Ev.Rv Z b y/\Ev.Rv Z c z/\Ev.Rv Z d u:=by
 cases h with
 |agg _ vs hl hh=>
  match vs,hl,hh with
  |[x,y,z,u],_,hh=>exact⟨x,y,z,u,rfl,hh 0 _ _ rfl rfl,hh 1 _ _ rfl rfl,hh 2 _ _ rfl rfl,hh 3 _ _ rfl rfl⟩
theorem ai1{Z:Ev.Io}{a b:Ev.IV}{v:Value}(h:Ev.Rv Z (.agg [a,b]) v):∃x y,v=.agg #[x,y]/\Ev.Rv Z a x/\Ev.Rv Z b y:=by
 cases h with
 |agg _ vs hl hh=>
  match vs,hl,hh with
  |[x,y],_,hh=>exact⟨x,y,rfl,hh 0 _ _ rfl rfl,hh 1 _ _ rfl rfl⟩
theorem ai2{Z:Ev.Io}{a b c:Ev.IV}{v:Value}(h:Ev.Rv Z (.agg [a,b,c]) v):∃x y z,v=.agg #[x,y,z]/\Ev.Rv Z a x/\Ev.Rv Z b y/\Ev.Rv Z c z:=by
 cases h with
 |agg _ vs hl hh=>
  match vs,hl,hh with
  |[x,y,z],_,hh=>exact⟨x,y,z,rfl,hh 0 _ _ rfl rfl,hh 1 _ _ rfl rfl,hh 2 _ _ rfl rfl⟩
theorem K_{Z:Ev.Io}{s:Nat}{es:List Ev.IV}{v:Value}(h:Ev.Rv Z (.tree s es) v):∃a l c,v=.slice a l c:=by
 cases h with
 |tree=>exact⟨_,_,_,rfl⟩
 |eu=>exact⟨_,_,_,rfl⟩
theorem aa2{M:Ev.Fz}{w:World}(hM:Ev.yh M w):∀(d:Nat) (t:Tm) (v:Value),aAU t<=d->ou t->dA t->Ev.Rv (Ev.fW M) (dm t) v->∃xs,TW w.heap.size w d v xs/\xs.map (·.1)=fP t:=by
 intro d;induction d with
 |zero=>intro t v h;obtain⟨k,n,s,ts⟩:=t;simp at h
 |succ d ih=>
  rintro⟨k,n,s,ts⟩ v hd hn hf hr;rw[w8]at hr;obtain⟨x,y,z,u,rfl,h1,h2,h3,h4⟩:=ai0 hr;obtain rfl:=gb h1;obtain rfl:=gb h2;obtain rfl:=gb h3;obtain⟨a,l,c,rfl⟩:=K_ h4;obtain⟨_,JX,cD⟩:=(o5 _).1 hn;obtain⟨hf1,hf2⟩:=(Cy _).1 hf;simp only[Tm.k,Tm.n,Tm.ts]at JX cD hf1 hf2;by_cases l8:k=1
  .exact⟨[⟨n,hf1 l8⟩],⟨k,n,_,a,l,c,rfl,.inl ⟨l8,hf1 l8,rfl⟩⟩,by simp[fP,l8]⟩
  by_cases mq:k=2
  rotate_left
  .exact⟨[],⟨k,n,_,a,l,c,rfl,.inr (.inl ⟨l8,mq,rfl⟩)⟩,by simp[fP,l8,mq]⟩
  obtain⟨kX,hs,hv⟩:∃kX,SW w.heap.size w (TW w.heap.size w d) (.slice a l c) kX/\kX.map (λxs=>xs.map (·.1))=ts.map fP:=aho hM JX h4 λt ht v hv=>by
   have:=azB ht;exact ih t v (by simp at hd;omega) (cD t ht) (hf2 mq t ht) hv
  refine⟨kX.flatten,⟨k,n,_,a,l,c,rfl,.inr (.inr ⟨mq,kX,hs,rfl⟩)⟩,?_⟩;rw[aDh];simp[fP,mq,Gf,hv]
where
 aho {M:Ev.Fz} {w:World} (hM:Ev.yh M w) {ts:List Tm} {a:Option Addr} {l c:Nat} (JX:Sm ts) (h4:Ev.Rv (Ev.fW M) (iT ts) (.slice a l c)) {R:Value->List gZ->Prop} (ih:∀t∈ts,∀v,Ev.Rv (Ev.fW M) (dm t) v->∃xs,R v xs/\xs.map (·.1)=fP t):
  ∃kX,SW w.heap.size w R (.slice a l c) kX/\kX.map (λxs=>xs.map (·.1))=ts.map fP:=by
  have gN:∀(b off k:Nat) (u:Value),Ev.qq M b (off+k)=aa u->b<w.heap.size/\w.cell? ⟨b,off+k,ah⟩=aa u:=by
   intro b off k u h;unfold Ev.qq at h;cases hb:M b with
   |none=>rw[hb]at h;cases h
   |some cs=>
    rw[hb]at h;obtain⟨e,f,hh⟩:=hM b cs hb;exact⟨hM.lt hb,by simp only[aCF,hh];exact h⟩
  obtain⟨es,jV⟩:∃es,es=ts.map dm:=⟨_,rfl⟩;have h4':Ev.Rv (Ev.fW M) (.tree 4 es) (.slice a l c):=by rw[jV];exact h4
  cases h4' with
  |eu _ _ _ hs hn=>
   have:ts=[]:=by simpa using jV.symm
   subst this;exact⟨[],⟨by simp,.inl ⟨rfl,_,_,rfl⟩⟩,rfl⟩
  |tree _ _ b off _ us hs hc bQ hu hh=>
   subst jV;rcases Nat.eq_zero_or_pos ts.length with h0|tX
   .have:ts=[]:=ayZ h0;subst this;exact⟨[],⟨by simp,.inl ⟨rfl,_,_,rfl⟩⟩,rfl⟩
   have ot:∀i (hi:i<ts.length),∃xs,R (.agg #[us (i*4),us (i*4+1),us (i*4+2),us (i*4+3)]) xs/\xs.map (·.1)=fP ts[i]:=by
    intro i hi;refine ih ts[i] (ayy hi) _ ?_;have Pv:(ts.map dm)[i]?=aa (dm ts[i]):=by simp[hi]
    have sM:=λj c=>hh i (dm ts[i]) j c Pv;generalize ts[i]=t at sM;obtain⟨k,n,s,ts'⟩:=t;rw[w8]at sM⊢;refine .agg _ [us (i*4),us (i*4+1),us (i*4+2),us (i*4+3)] rfl λj c v h1 h2=>?_;have:=sM j c h1;have hj:j<4:=by have:=(ayw.1 h1).1;simpa using this
    match j,hj with
    |0,_=>simp at h2;subst h2;exact this
    |1,_=>simp at h2;subst h2;exact this
    |2,_=>simp at h2;subst h2;exact this
    |3,_=>simp at h2;subst h2;exact this
   have huk:∀k,k<ts.length*4->b<w.heap.size/\w.cell? ⟨b,off+k,ah⟩=aa (us k):=λk hk=>gN b off k _ (hu k (by simpa using hk));refine⟨List.ofFn λi:Fin ts.length=>aEe (ot i.1 i.2),⟨by simpa using JX,.inr ⟨b,off,_,by simp;rfl,(huk 0 (by omega)).1,λi xs hi=>?_⟩⟩,?_⟩
   .rw[List.getElem?_ofFn]at hi;split at hi
    .rename_i aj;simp only[ayB]at hi;subst hi;refine⟨_,_,_,_,(huk (i*4) (by omega)).2,?_,?_,?_,(aAS (ot i aj)).1⟩
     .rw[aBY];exact(huk (i*4+1) (by omega)).2
     .rw[aBY];exact(huk (i*4+2) (by omega)).2
     .rw[aBY];exact(huk (i*4+3) (by omega)).2
    .cases hi
   .refine List.ext_getElem (by simp) λi h1 h2=>?_;simp only[aDi,List.getElem_ofFn];exact(aAS (ot i (by simpa using h1))).2
theorem La{M:Ev.Fz}{w W':World}{new:Bool}{u:Value}{l:List Int}(hM:Ev.yh M w)(hB:Below w.heap.size w W')(hr:W'.ownsRow w.heap.size 3 1 u l.length (l.map λx=>aAc .i64 x)):Ev.Nq new M w (Ev.iL l) u W':=by
 have sR:∀b,b<w.heap.size->W'.heap[b]?=w.heap[b]? :=hB.block;refine⟨Ev.ub new M w W',?_,?_,?_,?_,hB.os,hB.tape,hB.output,hB.size,sR⟩
 .intro b c hb;unfold Ev.ub at hb;split at hb
  .rename_i aj;split at hb
   .cases hb
   .rw[sR b aj];exact hM b c hb
  .split at hb
   .rename_i c' e f hh;cases hb;exact⟨e,f,hh⟩
   .cases hb
 .intro b c hb;unfold Ev.ub at hb;split at hb
  .split at hb
   .cases hb
   .rename_i hn;exact .inl ⟨by simpa using hn,hb⟩
  .exact .inr (by omega)
 .intro hn b c hb;have aj:=hM.lt hb;unfold Ev.ub;rw[if_pos aj,if_neg (by simp[hn])];exact hb
 .obtain⟨hlen,⟨rfl,h0⟩|⟨g,cap,cur,rfl,hg,hh,i_,_,bf,MR⟩⟩:=hr
  .have:l=[]:=ayZ h0;subst this;exact .eu 1 ah 0 (by omega) (λ_=>rfl)
  .by_cases hl:l=[]
   .subst hl;exact .eu 1 _ _ (by omega) (by simp)
   have dt:∀(k:Nat) (x:Int),l[k]?=aa x->cur[k]?=aa (aAc .i64 x):=by
    intro k x hk;have lH:=(ayw.1 hk).1;have:(cur.toList.take (l.length*1))[k]?=aa (aAc .i64 x):=by rw[MR];simp[hk]
    rw[List.getElem?_take,if_pos (by omega)]at this;simpa using this
   have hcm:Ev.qq (Ev.ub new M w W') g=λk=>cur[k]? :=by
    funext k;unfold Ev.qq Ev.ub;rw[if_neg (by omega),hh];rfl
   have:=Ev.Rv.tree (Z:=Ev.fW (Ev.ub new M w W')) 1 (l.map Ev.iI) g 0 cap (λk=>(cur[k]?).getD azk) (by omega) (by simpa using i_) (λe he=>by obtain⟨x,_,rfl⟩:=azb.1 he;rfl)
    (λk hk=>by
     show Ev.qq (Ev.ub new M w W') g (0+k)=_;rw[hcm];simp only[aAq,aD5]at hk;have:=dt k l[k] (ayv hk);simp[this]) (λi e j c he hc=>by
     rw[ayR]at he;obtain⟨x,hx,rfl⟩:=Option.map_eq_some_iff.1 he
     have hj:j=0:=by
      have:=(ayw.1 hc).1;simp[Ev.cellsOf]at this;exact this
     subst hj;simp[Ev.cellsOf]at hc;subst hc;have:=dt i x hx;simp only[aD5,Nat.add_zero,this,Option.getD_some];exact .raw _)
   simpa using this
attribute [local go_sem] aBo
theorem SW.wide{n₀ n₁:Nat}{A:World}(h:n₀<=n₁){R R':Value->List gZ->Prop}(hR:∀v xs,R v xs->R' v xs){sl:Value}{kX:List (List gZ)}(hs:SW n₀ A R sl kX):SW n₁ A R' sl kX:=by
 rcases hs with⟨hl,hs|⟨b,off,cap,h1,h2,h3⟩⟩
 .exact⟨hl,.inl hs⟩
 .refine⟨hl,.inr ⟨b,off,cap,h1,by omega,λi xs hi=>?_⟩⟩;obtain⟨u0,u1,u2,u3,g0,g1,g2,g3,g4⟩:=h3 i xs hi;exact⟨u0,u1,u2,u3,g0,g1,g2,g3,hR _ _ g4⟩
theorem TW.wide{n₀ n₁:Nat}{A:World}(h:n₀<=n₁):∀{d:Nat} {v:Value} {xs:List gZ},TW n₀ A d v xs->TW n₁ A d v xs
 |0,_,_,ht=>ht
 |d+1,_,_,⟨k,n,s,a,l,c,h1,h2⟩=>⟨k,n,s,a,l,c,h1,h2.imp id λh2=>h2.imp id λ⟨hk,kX,h3,h4⟩=>⟨hk,kX,h3.wide h λ_ _=>TW.wide h,h4⟩⟩
theorem U0{W:World}{b b':Nat}{e:TypeId}{s:Nat}{v:Value}{n:Nat}{xs:List Value}(h:b<=b')(hr:W.ownsRow b' e s v n xs):W.ownsRow b e s v n xs:=by
 obtain⟨h1,h2|⟨g,cap,cur,h2,h3,h4⟩⟩:=hr
 .exact⟨h1,.inl h2⟩
 .exact⟨h1,.inr ⟨g,cap,cur,h2,by omega,h4⟩⟩
def En(l:List Int):List Int:=l.foldl (λacc x=>if x∈acc then acc else acc++[x]) []
theorem amd(xs:List gZ):(uq xs).map (·.1)=En (xs.map (·.1)):=by
 have key:∀(l acc:List gZ),(l.foldl (λacc x=>if x∈acc then acc else acc++[x]) acc).map (·.1)=(l.map (·.1)).foldl (λacc x=>if x∈acc then acc else acc++[x]) (acc.map (·.1)):=by
  intro l;induction l with
  |nil=>intro acc;rfl
  |cons y l ih=>
   intro acc;rw[aze,ih,azs,aze]
   congr 1
   have hm:y∈acc↔y.1∈acc.map (·.1):=by
    rw[azb];exact⟨λh=>⟨y,h,rfl⟩,λ⟨a,h1,h2⟩=>by rw[aCn h2.symm];exact h1⟩
   by_cases h:y∈acc
   .rw[if_pos h,if_pos (hm.1 h)]
   .rw[if_neg h,if_neg (λh'=>h (hm.2 h'))];simp
 exact key xs []
def varsOf(ts:List Tm):List Int:=En (ts.map fP).flatten
theorem Yn{w w2:World}{ts:List Tm}{a:Option Addr}{l c d:Nat}{kX:List (List gZ)}(n Bn:Nat)(hB:Below w.heap.size w w2)(eY:SW w2.heap.size w2 (TW w2.heap.size w2 d) (.slice a l c) kX)(hv:kX.map (λxs=>xs.map (·.1))=ts.map fP)(hb:Bn<w2.heap.size)
 (hc:w2.cell? ⟨Bn,0,ah⟩=aa (.slice a l c)):
 CallsIn ay8 n ayu 207 #[.func (.func 245) #[] #[.pointer (aa ⟨Bn,0,ah⟩)]] w2 λe W'=>∃v,e=.returned v/\W'.ownsRow w.heap.size 3 1 v (varsOf ts).length ((varsOf ts).map λx=>aAc .i64 x)/\Below w.heap.size w W':=by
 have db:(uq kX.flatten).map (·.1)=varsOf ts:=by
  rw[amd,aDh,varsOf,hv]
 refine callsIn_wide.2 (callsIn_wide.1 ((aiZ ay8 rfl 0 trivial trivial trivial trivial rfl d Bn _ kX w2 hb hc eY).mono ?_));rintro e W' ⟨v,rfl,h1,_,h3⟩;refine⟨v,rfl,?_,hB.trans (h3.mono hB.size)⟩;rw[<-db,aB3,aAq];exact U0 hB.size h1
theorem Qr{M:Ev.Fz}{w w2:World}(hM:Ev.yh M w){ts:List Tm}(JX:Sm ts)(hn:∀t∈ts,ou t)(hf:∀t∈ts,dA t){a:Option Addr}{l c:Nat}(hr:Ev.Rv (Ev.fW M) (iT ts) (.slice a l c))(n Bn:Nat)(hB:Below w.heap.size w w2)(hb:Bn<w2.heap.size)
 (hc:w2.cell? ⟨Bn,0,ah⟩=aa (.slice a l c)):
 CallsIn ay8 n ayu 207 #[.func (.func 245) #[] #[.pointer (aa ⟨Bn,0,ah⟩)]] w2 λe W'=>∃v,e=.returned v/\W'.ownsRow w.heap.size 3 1 v (varsOf ts).length ((varsOf ts).map λx=>aAc .i64 x)/\Below w.heap.size w W':=by
 obtain⟨d,hd⟩:∃d,∀t∈ts,aAU t<=d:=⟨aAU ts,λt ht=>Nat.le_of_lt (azB ht)⟩;obtain⟨kX,hs,hv⟩:=aa2.aho (R:=TW w.heap.size w d) hM JX hr λt ht v hv=>aa2 hM d t v (hd t ht) (hn t ht) (hf t ht) hv;exact Yn n Bn hB ((hs.below hB λ_ _=>TW.below hB).wide hB.size λ_ _=>TW.wide hB.size) hv hb hc
theorem Du(W:World)(v:Value)(t:TypeId):(W.alloc (.cells #[v] t)).cell? ⟨W.heap.size,0,ah⟩=aa v:=(aC8 W t v).cell
set_option maxRecDepth 100000 in
set_option maxHeartbeats 2000000 in
theorem avH(new:Bool)(s:List UInt8){ts:List Tm}(JX:Sm ts)(hn:∀t∈ts,ou t)(hf:∀t∈ts,dA t):Ev.dX ayu af new 164 [.agg [Ev.iS s,iT ts]] (Ev.iL (varsOf ts)):=by
 intro M w us hM o9;obtain⟨v,r_,rfl,h1,h2⟩:=o9.x_;obtain rfl:=h2.of_nil;obtain⟨x,y,rfl,g1,g2⟩:=ai1 h1;obtain rfl:=gb g1;obtain⟨a,l,c,rfl⟩:=K_ g2;have hB1:Below w.heap.size w ((w.alloc (.cells #[.string ⟨s.toArray⟩,.slice a l c] 99)).alloc (.cells #[.slice a l c] 68)):=((aAh _ w).alloc (ayA _) _).alloc (by simp) _;have JY:=Qr hM JX hn hf g2 0 (w.heap.size+1) hB1 (by simp) (by have:=Du (w.alloc (.cells #[.string ⟨s.toArray⟩,.slice a l c] 99)) (.slice a l c) 68;simpa using this);clear g1 g2 h1 h2 o9;refine callsIn_of_wp Tryz.func164 rfl trivial ?_ rfl;simp only[Tryz.ntmps164,az0,ay6,az2,aAj,aAk,azM,azN,az1,azQ,azl,azv]
 gi_wp2_with (first
  |(refine⟨trivial,rfl,?_⟩;refine(Ow ay8 _ trivial rfl a l c _).mono ?_;rintro e w' ⟨rfl,rfl⟩)
  |(refine⟨trivial,rfl,?_⟩;refine JY.mono ?_;clear JY;rintro e W2 ⟨u,rfl,m6,hB⟩))
 go_ret
 exact⟨rfl,La hM hB m6⟩
set_option maxRecDepth 100000 in
set_option maxHeartbeats 2000000 in
theorem avI(new:Bool)(op:Int)(s:List UInt8){ts:List Tm}(JX:Sm ts)(hn:∀t∈ts,ou t)(hf:∀t∈ts,dA t):Ev.dX ayu af new 230 [.agg [Ev.iI op,Ev.iS s,iT ts]] (Ev.iL (varsOf ts)):=by
 intro M w us hM o9;obtain⟨v,r_,rfl,h1,h2⟩:=o9.x_;obtain rfl:=h2.of_nil;obtain⟨x,z,y,rfl,g1,g3,g2⟩:=ai2 h1;obtain rfl:=gb g1;obtain rfl:=gb g3;obtain⟨a,l,c,rfl⟩:=K_ g2;have hB1:Below w.heap.size w ((w.alloc (.cells #[.int .i64 op,.string ⟨s.toArray⟩,.slice a l c] 70)).alloc (.cells #[.slice a l c] 68)):=((aAh _ w).alloc (ayA _) _).alloc (by simp) _;have JY:=Qr hM JX hn hf g2 0 (w.heap.size+1) hB1 (by simp) (by have:=Du (w.alloc (.cells #[.int .i64 op,.string ⟨s.toArray⟩,.slice a l c] 70)) (.slice a l c) 68;simpa using this);clear g1 g2 h1 h2 o9;refine callsIn_of_wp Tryz.func230 rfl trivial ?_ rfl;simp only[Tryz.ntmps230,az0,ay6,az2,aAj,aAk,azM,azN,az1,azQ,azl,azv]
 gi_wp2_with (first
  |(refine⟨trivial,rfl,?_⟩;refine(Ow ay8 _ trivial rfl a l c _).mono ?_;rintro e w' ⟨rfl,rfl⟩)
  |(refine⟨trivial,rfl,?_⟩;refine JY.mono ?_;clear JY;rintro e W2 ⟨u,rfl,m6,hB⟩))
 go_ret
 exact⟨rfl,La hM hB m6⟩
set_option maxRecDepth 100000 in
set_option maxHeartbeats 2000000 in
theorem avJ(new:Bool)(t:Tm)(hn:ou t)(hf:dA t):Ev.dX ayu af new 204 [dm t] (Ev.iL (varsOf [t])):=by
 intro M w us hM o9;obtain⟨v,r_,rfl,h1,h2⟩:=o9.x_;obtain rfl:=h2.of_nil;obtain⟨xs,htw,pc⟩:=aa2 hM (aAU t) t v (ayA _) hn hf h1;obtain⟨k,n,s,a,l,c,rfl⟩:=htw.form;have DZ:Below w.heap.size w (w.alloc (.cells #[.int .i64 k,.int .i64 n,.string s,.slice a l c] 106)):=(aAh _ w).alloc (ayA _) _;have hB1:Below w.heap.size w ((w.alloc (.cells #[.int .i64 k,.int .i64 n,.string s,.slice a l c] 106)).alloc (.cells #[.int .i64 k,.int .i64 n,.string s,.slice a l c] 106)):=DZ.alloc (by simp) _;have hB2:Below w.heap.size w (((w.alloc (.cells #[.int .i64 k,.int .i64 n,.string s,.slice a l c] 106)).alloc (.cells #[.int .i64 k,.int .i64 n,.string s,.slice a l c] 106)).alloc (.cells #[.slice (aa ⟨w.heap.size+1,0,ah⟩) 1 1] 68)):=hB1.alloc (by simp;omega) _;have gW:=World.alloc_heap_new (w.alloc (.cells #[.int .i64 k,.int .i64 n,.string s,.slice a l c] 106)) (.cells #[.int .i64 k,.int .i64 n,.string s,.slice a l c] 106);rw[aC9]at gW;have ahp:(((w.alloc (.cells #[.int .i64 k,.int .i64 n,.string s,.slice a l c] 106)).alloc (.cells #[.int .i64 k,.int .i64 n,.string s,.slice a l c] 106)).alloc (.cells #[.slice (aa ⟨w.heap.size+1,0,ah⟩) 1 1] 68)).heap[w.heap.size+1]?=aa (.cells #[.int .i64 k,.int .i64 n,.string s,.slice a l c] 106):=(Below.heap_alloc _ _ _ (by simp)).trans gW
 have JY:=Yn (ts:=[t]) (kX:=[xs]) (d:=aAU t) (a:=aa ⟨w.heap.size+1,0,ah⟩) (l:=1) (c:=1) 0 (w.heap.size+1+1) hB2
  ⟨by simp,.inr ⟨w.heap.size+1,0,1,rfl,by simp,λi ys hi=>by
   cases i with
   |succ i=>simp at hi
   |zero=>
    simp at hi;subst hi;refine⟨.int .i64 k,.int .i64 n,.string s,.slice a l c,?_,?_,?_,?_,(TW.below hB2 htw).wide hB2.size⟩
    all_goals (simp only[aCF];rw[ahp];rfl)⟩⟩ (by simp only[azs,aCb,pc]) (by simp) (by have:=Du ((w.alloc (.cells #[.int .i64 k,.int .i64 n,.string s,.slice a l c] 106)).alloc (.cells #[.int .i64 k,.int .i64 n,.string s,.slice a l c] 106)) (.slice (aa ⟨w.heap.size+1,0,ah⟩) 1 1) 68;simpa using this)
 clear gW ahp h1 h2 o9 htw;refine callsIn_of_wp Tryz.func204 rfl trivial ?_ rfl;simp only[Tryz.ntmps204,az0,ay6,az2,aAj,aAk,azM,azN,az1,azQ,azl,azv]
 gi_wp2_with (first
  |(refine⟨trivial,rfl,?_⟩;refine(Ow ay8 _ trivial rfl _ 1 1 _).mono ?_;rintro e w' ⟨rfl,rfl⟩)
  |(refine⟨trivial,rfl,?_⟩;refine JY.mono ?_;clear JY;rintro e W2 ⟨u,rfl,m6,hB⟩))
 go_ret
 exact⟨rfl,La hM hB m6⟩
end Go.Proofs.YtabefplkfkfdfaaGreat
namespace Go.Proofs.YtabefplkfkfdfaaGreat
open Go Go.RowKit
end Go.Proofs.YtabefplkfkfdfaaGreat
namespace Go.Proofs.YtabefplkfkfdfaaGreat
open Go Go.Ev
def ame:List Nat:=[266,24,25,7,69,257,72,26,71,137,70,139,225,145,183,75,76,136,186,140,184,224,138,185,9,28,27,143,77,142,141,74,144,73,146,78,39,268,192,154,227,33,85,155,233,199,164,230,194,166,204,95,93,162,280]
def amf:List Nat:=[]
def amg:List Nat:=[201]
def amh:List Nat:=[185,247,209,222000151,500195,500196]
def RO(l:List Hint):eS:=⟨ame,amf,amg,l++[⟨999999,0,0,[],[],[],[]⟩],amh⟩
def ahq:ak:=
 (qA 6 0 0 (lq 0 2 (IZ 0 1 kJ) (FZ 7 (IZ 0 1 kJ) (Dn 2 40 rP qC (lU 2 40 1 zA vV)))))
theorem avK:aE ayu (RO []) 400 af 33=ahq:=by kernel_rfl
def adv:ak:=
 (rB bZ .geq bZ 5 (xA .leq bZ tL) bT)
theorem aru:aE ayu (RO []) 400 af 199=adv:=by kernel_rfl
def Yo:ak:=
 (jQ (eL 162 bZ bo (gi 2 (Cg .geq cE) (.ret (.rw (Cg .geq cE))))))
theorem ami:aE ayu (RO []) 400 ab 95=Yo:=by kernel_rfl
def U1:ak:=
 (Cn 2 1 2 (dY 3 (jo 1 bo 2 (I2 dS dh dS (.ret (.rw oX)) lX))) (.ret (.rw lA)))
def adw:ak:=
 (jQ (gh kq nH (rE .neq kq nH (.ret (.rw oX)) (Cc U1))))
theorem arv:aE ayu (RO [⟨0,93,4,[(0,(13,0))],[],[],[]⟩]) 400 ab 93=adw:=by kernel_rfl
def adx:List Nat:=[266,24,25,7,69,257,72,26,71,137,70,139,225,145,183,75,76,136,186,140,184,224,138,185,9,28,27,143,77,142,141,74,144,73,146,78,39,268,192,154,227,33,85,155,233,199,164,230,194,166,204,95,93,162,280]
def ady:List Nat:=[151,190]
def adz:List Nat:=[201]
def adA:List Nat:=[185,247,209,222000151,500195,500196]
def ahr(l:List Hint):eS:=⟨adx,ady,adz,l++[⟨999999,0,0,[],[],[],[]⟩,⟨999998,0,0,[],[],[],[]⟩],adA⟩
def RP(l:List Hint):eS:=⟨adx,ady,adz,l++[⟨999999,0,0,[],[],[],[]⟩],adA⟩
def Qs:ak:=
 (AV (ik 2) 4 3 2 dh 4 (rI 2 6 164 6 6 (gi 7 (.rws fZ) (lU 1 8 5 fZ (ew 4 8)))) (js 1 5))
def Qt:ak:=
 (IX mN 1 0 1 1 (ig 3 3 Qs) (FU 2))
def Oz:ak:=
 (F2 Qt)
theorem amj:ma ayu (RP [⟨0,195,3,[(0,(3,0)),(0,(10,0))],[(0,0)],[],[]⟩,⟨0,195,6,[(0,(3,0)),(0,(16,0))],[(0,0)],[],[]⟩]) 400 af 195=Oz:=by kernel_rfl
def Qu:ak:=
 (AV dx 3 2 2 cE 3 (rI 2 4 164 4 4 (gi 5 (.sub 1 dp (fU 5) aY) (eA 1 3))) rJ)
def Qv:ak:=
 (Cn 1 1 1 (ig 2 2 Qu) tA)
def OA:ak:=
 (F2 Qv)
theorem amk:ma ayu (ahr [⟨0,195,3,[(0,(10,0))],[],[],[]⟩,⟨0,195,6,[(0,(16,0))],[],[],[]⟩]) 400 ab 195=OA:=by kernel_rfl
def Qw:ak:=
 (AV (ik 2) 4 3 3 dh 4 (jq 3 6 230 (fe 6 6 6) (gi 7 (.rws fZ) (lU 1 8 5 fZ (ew 4 8)))) (js 1 5))
def Qx:ak:=
 (IX mN 1 0 1 1 (ig 3 3 Qw) (FU 2))
def OB:ak:=
 (F2 Qx)
theorem aml:ma ayu (RP [⟨0,196,3,[(0,(3,0)),(0,(10,0))],[(0,0)],[],[]⟩,⟨0,196,6,[(0,(3,0)),(0,(16,0))],[(0,0)],[],[]⟩]) 400 af 196=OB:=by kernel_rfl
def Qy:ak:=
 (AV dx 3 2 3 cE 3 (jq 3 4 230 (fe 4 4 4) (gi 5 (.sub 1 dp (fU 5) aY) (eA 1 3))) rJ)
def Qz:ak:=
 (Cn 1 1 1 (ig 2 2 Qy) tA)
def OC:ak:=
 (F2 Qz)
theorem amm:ma ayu (ahr [⟨0,196,3,[(0,(10,0))],[],[],[]⟩,⟨0,196,6,[(0,(16,0))],[],[],[]⟩]) 400 ab 196=OC:=by kernel_rfl
def Yp:ak:=
 (Cn 3 2 3 (RD 2 4 82 (vO bo cE) (vQ 4 4) (.nr (BR 3)) nG) bT)
def ahs:ak:=
 (jQ (gi 2 kq Yp))
theorem avL:aE ayu (RP [⟨2,233012008,2,[(2,(8,0))],[],[],[]⟩]) 400 af 233=ahs:=by kernel_rfl
def Yq:ak:=
 (jr (oa F0) 2 0 0 2 0 0 2 (jq 2 4 154 (eD 4) (mD 5 5 (qX (.i 7) (I7 0 7)) (xO .geq 4 1 (N_ (mP .leq F1 v8) (mP .leq F1 v8) (qX (.i 9) (I7 0 9)) (.bind (.ok (.rw (.get 82 vY (vQ 4 4) oX))) (N_ (vP xF) (vP xF) (qX v7 (I7 0 8)) (Ck 82 vY (vQ 4 4) lA (ew 2 7))))) (qX (.i 9) (I7 0 9))))) (lq 0 1 (FD .leq 0 1 (.i 40)) (pG (FD .leq 0 1 (.i 40)) (qX v8 (I7 0 6)) (.next 0 dx))))
def Yr:ak:=
 (jr dx 2 0 1 6 0 1 2 (fm 6 3 (eL 155 tD (d_ 3 3 3 3 3 3) (sC dS .neq 38 dS aY (KR (.var 2) dS) lX))) (aaG aY))
def Ys:ak:=
 (iJ (oY 1069 (RF 221) (lq 0 0 (FD .leq 0 0 (.i 30)) (pG (FD .leq 0 0 (.i 30)) (qX v8 (I7 0 6)) (qy 0 0 Yq)))) (.nt (zq .neq 38 1) (aaw (ko aaJ 1)) (qy 0 1 Yr)))
def aa3:ak:=
 (fm 2 0 Ys)
theorem avM:aE ayu (RP [⟨0,85,5,[(0,(15,0))],[],[],[]⟩,⟨2,85010000,3,[(2,(13,0))],[(2,0)],[],[]⟩,⟨0,85,1000008,[(0,(8,0))],[],[],[]⟩]) 400 af 85=aa3:=by kernel_rfl
theorem ai3(l:List Int)(x:Int):x∈En l↔x∈l:=by
 have key:∀(l acc:List Int),x∈(l.foldl (λacc x=>if x∈acc then acc else acc++[x]) acc)↔x∈acc\/x∈l:=by
  intro l;induction l with
  |nil=>simp
  |cons y l ih=>
   intro acc;rw[aze,ih];split
   .rename_i h;constructor
    .rintro(h1|h1)
     .exact .inl h1
     .exact .inr (by simp[h1])
    .rintro(h1|h1)
     .exact .inl h1
     .rcases ayN.1 h1 with rfl|h1
      .exact .inl h
      .exact .inr h1
   .simp[or_assoc]
 simpa[En]using key l []
theorem adB(l:List Int):(En l).Nodup:=by
 have key:∀(l acc:List Int),acc.Nodup->(l.foldl (λacc x=>if x∈acc then acc else acc++[x]) acc).Nodup:=by
  intro l;induction l with
  |nil=>intro acc h;exact h
  |cons y l ih=>
   intro acc h;rw[aze];refine ih _ ?_;split
   .exact h
   .rename_i hy;rw[aBS];exact⟨h,by simp,λa ha b hb=>by simp at hb;subst hb;exactλhe=>hy (he▸ha)⟩
 exact key l [] ax
theorem MT:∀(d:Nat) (t:Tm),aAU t<=d->dA t->∀x∈fP t,0<=x/\x<=1048576
 |0,.mk k n s ts,hd,_,_,_=>by simp at hd
 |d+1,.mk k n s ts,hd,h,x,hx=>by
  obtain⟨h1,h2⟩:=(Cy _).1 h;simp only[Tm.k,Tm.n,Tm.ts]at h1 h2;unfold fP at hx;split at hx
  .simp at hx;subst hx;exact h1 ‹_›
  .split at hx
   .rw[Gf]at hx;obtain⟨l,hl,hx⟩:=aAI.1 hx;obtain⟨u,hu,rfl⟩:=azb.1 hl;refine MT d u ?_ (h2 ‹_› u hu) x hx;have:=azB hu;simp at hd;omega
   .simp at hx
theorem yA(t:Tm)(h:dA t):∀x∈fP t,0<=x/\x<=1048576:=MT _ t (ayA _) h
theorem U2{ts:List Tm}(hf:∀t∈ts,dA t):(varsOf ts).length<=1048577:=
 Oy 1048577 _ (adB _) λx hx=>by
  rw[varsOf,ai3]at hx;obtain⟨l,hl,hx⟩:=aAI.1 hx;obtain⟨u,hu,rfl⟩:=azb.1 hl;have:=yA u (hf u hu) x hx;omega
def Dv(a:At):Prop:=∀t∈a.ts,dA t
def Dw(g:Gl):Prop:=∀t∈g.ts,dA t
theorem c46(new:Bool)(a:At)(h:s9 a)(hf:Dv a):CC 164 new [.agg [iS a.s,iT a.ts]] (iL (varsOf a.ts)):=
 CC.plain (by rw[eE];decide) (avH new a.s h.2.1 h.2.2 hf) (Ej _) kr
theorem c87(new:Bool)(g:Gl)(h:s_ g)(hf:Dw g):CC 230 new [.agg [iI g.op,iS g.s,iT g.ts]] (iL (varsOf g.ts)):=
 CC.plain (by rw[eE];decide) (avI new g.op g.s h.2.1 h.2.2 hf) (Ej _) kr
theorem c88(new:Bool)(t:Tm)(h:ou t)(hf:dA t):CC 204 new [dm t] (iL (varsOf [t])):=
 CC.plain (by rw[eE];decide) (avJ new t h hf) (Ej _) kr
theorem RQ(l:List Int)(n:Int)(hl:Sm l):CC 95 ab [iL l,iI n] (iB (l.contains n)):=by
 refine CC.of ami kr kr ax ax ?_;simp[Yo,SE.den];refine⟨_,avn l n hl,?_⟩;have:=UJ n l 0;simp at this⊢;simp[aF];exact this
theorem Yt(r:Rl)(h:r.aq.length+r.av.length<=1000):CC 33 af [bP r] (dr (r.aq++r.av)):=by
 refine CC.of avK kr kr (by simpa using fv r) ax ?_;have h1:=Jd (a:=[]) (b:=r.aq) (by simp;omega);have h2:=Jd h;have hw:ay1.wrap ((r.aq.length:Int)+r.av.length)=r.aq.length+r.av.length:=dD ai ai;simp only[azl]at h1;rw[bx];simp[ahq,SE.den,ao,hw,iO];exact⟨by omega,_,h1,h2⟩
mutual
theorem ai4:∀t:Tm,ey t=ab->dA t
 |.mk k n s ts,h=>by
  rw[Cy];simp only[Tm.k,Tm.n,Tm.ts];refine⟨λh1=>?_,λh2=>?_⟩
  .rw[Oo (by exact h1)]at h;simp only[Tm.n,ayz]at h;exact⟨of_decide_eq_true h.1.1.1,of_decide_eq_true h.1.1.2⟩
  .rw[Oq (by exact h2),<-zI]at h;simp only[ayz]at h;exact Lb ts h.2
theorem Lb:∀l:List Tm,Ek l=ab->∀u∈l,dA u
 |[],_=>by simp
 |t::l,h=>by
  simp only[Ek,ayz]at h;intro u hu;rcases ayN.1 hu with hu|hu
  .rw[hu];exact ai4 t h.1
  .exact Lb l h.2 u hu
end
theorem U3{l:List Tm}(h:qa l=ab):∀u∈l,dA u:=by
 simp only[qa,ayz,<-zI]at h;exact Lb l h.1.1
def sG(acc:List Int)(x:Int):List Int:=if x∈acc then acc else acc++[x]
def di(l xs:List Int):List Int:=xs.foldl sG l
theorem A4(xs:List Int):di [] xs=En xs:=rfl
theorem me(l xs ys:List Int):di l (xs++ys)=di (di l xs) ys:=by simp[di,aBc]
theorem Vr.di{l xs:List Int}(h:Vr l)(hx:∀x∈xs,0<=x/\x<=1048576):Vr (di l xs):=by
 induction xs generalizing l with
 |nil=>exact h
 |cons x xs ih=>
  refine ih (l:=sG l x) ?_ (λy hy=>hx y (by simp[hy]));unfold sG;split
  .exact h
  .exact h.snoc (by assumption) (hx x ax)
def eP(l:List Tm):List Int:=(l.map fP).flatten
theorem H_{l:List Tm}{i:Nat}(h:i<l.length):eP (l.take (i+1))=eP (l.take i)++fP l[i]:=by
 unfold eP;rw[ayE h,aAx,azu];simp
theorem aa4{l:List Tm}(h:∀t∈l,dA t):∀x∈eP l,0<=x/\x<=1048576:=λx hx=>by
 obtain⟨y,hy,hx⟩:=aAI.1 hx;obtain⟨u,hu,rfl⟩:=azb.1 hy;exact yA u (h u hu) x hx
theorem QA{t:Tm}(h:t.k≠1):fP t=eP (b_ t):=by
 obtain⟨k,n,s,ts⟩:=t;simp only[Tm.k]at h;simp only[fP,h,if_false,b_,Tm.k,Tm.ts,Gf,eP];by_cases h2:k=2<;>simp[h2]
theorem CC.avN{n:Nat}{new:Bool}{f:FuncId}{c9:ak}{cfg:eS}{l r:List Int}{xs:List IV}(he:Af ayu cfg n 1 f=c9)(hl:(ayu.funcs[f]?).map (·.params.size)=aa (xs.length+1))(hn:noTwo c9=ab)
 (hs:c9.sat ayu CC (w9 (·=r)) [] (iL l::xs)):CC (306+f) new (iL l::xs) (iL r):=by
 obtain⟨_,rfl,h⟩:=CC.alW (·=r) he hl hn hs;exact h
theorem CC.tS{n:Nat}{new:Bool}{f:FuncId}{c9:ak}{cfg:eS}{args:List IV}{r:List Int}(he:aE ayu cfg n new f=c9)(hl:(ayu.funcs[f]?).map (·.params.size)=aa args.length)(ht:∀z,mK ayu f z=ab)(hp:∀x∈args,Pure x)(hn:noTwo c9=ab)
 (hs:c9.sat ayu CC (w9 (·=r)) [] args):CC f new args (iL r):=by
 obtain⟨_,rfl,h⟩:=CC.avB (·=r) he hl ht hp hn hs;exact h
theorem arw(t:Tm)(jZ:Sm t.ts)(ht:dA t)(ih:∀u∈t.ts,dA u->∀l:List Int,Vr l->CC 491 ab [iL l,dm u] (iL (di l (fP u))))(l:List Int)(hl:Vr l):
 CC 491 ab [iL l,dm t] (iL (di l (fP t))):=by
 refine CC.avN (f:=185) ard kr (by rfl) ?_;have Ds:=aaV t;have GC:=hl.len;have fF:(b_ t).length<=9223372036854775807:=by unfold b_;split<;>simp[jZ]
 have hfa:∀u∈b_ t,dA u:=λu hu=>adl ht hu;have WS:∀u∈b_ t,∀l:List Int,Vr l->CC 491 ab [iL l,dm u] (iL (di l (fP u))):=λu hu=>ih u (q0 hu) (hfa u hu);rw[bp]at Ds⊢;have key:∀(m:List Int),Vr m->∀(x:List IV->List IV) (K:List (List IV->Prop)),True:=λ_ _ _ _=>trivial
 have step:∀{m:List Int} {i:Nat} {a:List Int} (aj:i<(b_ t).length),Vr a/\a=di m (eP ((b_ t).take i))->Vr (di a (fP (b_ t)[i]))/\di a (fP (b_ t)[i])=di m (eP ((b_ t).take (i+1))):=by
  rintro m i a aj ⟨h1,rfl⟩;exact⟨h1.di (yA _ (hfa _ (ayy aj))),by rw[H_ aj,me]⟩
 have fin:∀{m:List Int} {i:Nat} {a:List Int},¬i<(b_ t).length->Vr a/\a=di m (eP ((b_ t).take i))->a=di m (eP (b_ t)):=by
  rintro m i a aj ⟨_,rfl⟩;rw[ayF ai]
 have l4:t.k≠1->K3.sat ayu CC (w9 (·=di l (fP t))) [] [iL l,.agg [iI t.k,iI t.n,iS t.s,iT t.ts],iT (b_ t)]:=by
  intro hk;rw[QA hk];unfold K3;refine az (b_ t).length (λi (a:List Int)=>[iI i,iL a]) (λi a=>Vr a/\a=di l (eP ((b_ t).take i))) l ?_ ?_ λi a hi hI=>?_
  .simp[SE.den]
  .exact⟨hl,rfl⟩
  by_cases aj:i<(b_ t).length
  .have hw:=aD aj fF;have hb:=WS (b_ t)[i] (ayy aj) a hI.1;rw[bp]at hb;simp[SE.den,aj,hw,ku aj,bp,ao,aF,cellsOf];exact⟨_,hb,_,by simp,by omega,step aj hI⟩
  .simp[SE.den,aj];exact⟨_,⟨by simp[cellsOf,aF],rfl⟩,by rw[w_];exact fin aj hI⟩
 have l2:b_ t=[]->∀x:IV,K0.sat ayu CC (w9 (·=l)) [] [iL l,.agg [iI t.k,iI t.n,iS t.s,iT t.ts],x,iT (b_ t)]:=by
  intro ha x;unfold K0;rw[ha];refine az 0 (λi (a:List Int)=>[iI i,iL a]) (λi a=>a=l) l ?_ rfl λi a hi hI=>?_
  .simp[SE.den]
  obtain rfl:i=0:=ai;simp[SE.den];subst a;exact⟨_,⟨by simp[cellsOf,aF],rfl⟩,by rw[w_]⟩
 have l1:b_ t=[]->∀(x:IV) (m:List Int),KZ.sat ayu CC (w9 (·=m)) [] [iL l,.agg [iI t.k,iI t.n,iS t.s,iT t.ts],x,iL m,iT (b_ t)]:=by
  intro ha x m;unfold KZ;rw[ha];refine az 0 (λi (a:List Int)=>[iI i,iL a]) (λi a=>a=m) m ?_ rfl λi a hi hI=>?_
  .simp[SE.den]
  obtain rfl:i=0:=ai;simp[SE.den];subst a;exact⟨_,⟨by simp[cellsOf,aF],rfl⟩,by rw[w_]⟩
 have l0:KY.sat ayu CC (w9 (·=di l (fP t))) [AY λvs=>∃b:Bool,vs=[iB b]/\(b=decide (t.n∈l))] [iL l,.agg [iI t.k,iI t.n,iS t.s,iT t.ts]]:=by
  unfold KY;refine fz l.length (λi (_:Unit)=>[iI i]) (λi _=>∀x∈l.take i,x≠t.n) () ?_ ?_ λi _ hi hI=>?_
  .simp[SE.den]
  .simp
  by_cases aj:i<l.length
  .have hw:=aD aj ai;simp[SE.den,aj,hw,cellsOf,AY];by_cases he:l[i]=t.n
   .left;exact⟨he,he▸ayy aj⟩
   .right;exact⟨he,by omega,aO aj hI he⟩
  .have:=aU aj hI;simp[SE.den,aj,AY];exactλh=>this _ h rfl
 simp[adk,SE.den,ao];by_cases k1:t.k=1
 .left;refine⟨k1,?_⟩;have avO:fP t=[t.n]:=by obtain⟨k,n,s,ts⟩:=t;simp only[Tm.k]at k1;simp[fP,k1,Tm.n]
  have bE:b_ t=[]:=Ou ai;rw[avO]at l0⊢;unfold UH;refine fA (λvs=>∃b:Bool,vs=[iB b]/\(b=decide (t.n∈l))) l0 ?_;rintro vs ⟨b,rfl,hb⟩;refine⟨rfl,?_⟩;simp[SE.den,aF,cellsOf];have avP:di l [t.n]=sG l t.n:=rfl;rw[avP];unfold sG;cases b with
  |true=>
   have hm:t.n∈l:=by simpa using hb.symm
   rw[if_pos hm];right;exact⟨rfl,_,Ds,by simp,l2 bE _⟩
  |false=>
   have hm:t.n∉l:=by simpa using hb.symm
   rw[if_neg hm];left;refine⟨rfl,iL (l++[t.n]),?_,_,Ds,by simp,l1 bE _ _⟩;simp[dz,iz,cellsOf];exact⟨rfl,by omega,by omega⟩
 .right;exact⟨k1,_,Ds,by simp,l4 k1⟩
theorem aa5:∀t:Tm,mZ t->dA t->∀l:List Int,Vr l->CC 491 ab [iL l,dm t] (iL (di l (fP t)))
 |.mk k n s ts,h,hf=>arw _ ((rW _).1 h).1 hf λu hu=>aa5 u (((rW _).1 h).2 u hu)
 decreasing_by simp[Tm.ts]at hu;have:=azB hu;simp;omega
theorem aht{Q:IV->Prop}(ts:List Tm)(jZ:Sm ts)(hw:∀t∈ts,mZ t/\dA t)(hQ:Q (iL (varsOf ts))):ML.sat ayu CC Q [] [iT ts]:=by
 simp[ML,Ux,SE.den];refine az ts.length (λi (a:List Int)=>[iI i,iL a]) (λi a=>Vr a/\a=di [] (eP (ts.take i))) [] ?_ ⟨Vr.nil,rfl⟩ λi a hi hI=>?_
 .simp[SE.den]
 by_cases aj:i<ts.length
 .have mE:=aD aj jZ;have hf:=hw _ (ayy aj);have hb:=aa5 ts[i] hf.1 hf.2 a hI.1;rw[bp]at hb;simp[SE.den,aj,mE,ku aj,bp,ao,aF,cellsOf];obtain⟨h1,rfl⟩:=hI;exact⟨_,hb,_,by simp,by omega,h1.di (yA _ hf.2),by rw[H_ aj,me]⟩
 .obtain⟨h1,h2⟩:=hI;rw[ayF ai]at h2;simp[SE.den,aj];subst a;exact hQ
theorem avQ(ts:List Tm)(jZ:Sm ts)(hw:∀t∈ts,mZ t/\dA t):CC 140 af [iT ts] (iL (varsOf ts)):=
 CC.tS aq6 kr (λ_=>kr) ax (by rfl) (aht ts jZ hw (by rw[w_]))
theorem ahu(ts:List Tm)(jZ:Sm ts)(hw:∀t∈ts,mZ t/\dA t):CC 140 ab [iT ts] (iL (varsOf ts)):=
 CC.tS alX kr (λ_=>kr) ax (by rfl) (aht ts jZ hw (by rw[w_]))
theorem v93(g:Gl)(jZ:Sm g.ts)(hw:∀t∈g.ts,mZ t/\dA t):CC 145 af [.agg [iI g.op,iS g.s,iT g.ts]] (iL (varsOf g.ts)):=by
 refine CC.tS avk kr (λ_=>kr) (by intro x hx;obtain rfl:=ayQ.1 hx;exact Cz g) (by rfl) ?_;have hb:=avQ g.ts jZ hw;simp[ahd,SE.den,ao];exact⟨_,hb,by simp⟩
def ahv(ds:List De)(s:List UInt8)(n:Int):Prop:=∃d∈ds,d.s=s/\d.n=n
noncomputable def bU(ds:List De)(s:List UInt8)(n:Int):Bool:=ds.any λd=>d.s==s&&d.n==n
theorem Ia(ds:List De)(s:List UInt8)(n:Int):bU ds s n=ab↔ahv ds s n:=by simp[bU,ahv]
theorem mF{ds:List De}{s:List UInt8}{n:Int}(h:∀d∈ds,(d.s=s->¬d.n=n)):bU ds s n=af:=by
 cases hb:bU ds s n with
 |false=>rfl
 |true=>obtain⟨d,h1,h2⟩:=(Ia _ _ _).1 hb;exact absurd h2.2 (h d h1 h2.1)
theorem Ib{ds:List De}{s:List UInt8}{n:Int}{d:De}(hd:d∈ds)(h:d.s=s/\d.n=n):bU ds s n=ab:=(Ia _ _ _).2 ⟨d,hd,h⟩
theorem v51(l:List De)(s:List UInt8)(n:Int)(hl:Sm l):CC 27 af [dO l,iS s,iI n] (iB (bU l s n)):=by
 refine CC.dJ avh kr (λ_=>kr) ax (by rfl) ?_;simp[aha,X_,SE.den];refine fz l.length (λi (_:Unit)=>[iI i]) (λi _=>∀d∈l.take i,(d.s=s->¬d.n=n)) () ?_ ax λi _ hi hI=>?_
 .simp[SE.den]
 by_cases aj:i<l.length
 .have hw:=aD aj hl;have hs:=λh=>aO (p:=λd:De=>(d.s=s->¬d.n=n)) aj hI h;have hy:=Ib (ayy aj) (s:=s) (n:=n);simp[SE.den,aj,hw,wb aj,ao];by_cases h1:l[i].s=s
  .by_cases h2:l[i].n=n
   .simp[h1,h2];exact hy ⟨h1,h2⟩
   .simp[h1,h2];exact⟨by omega,hs λ_ h=>h2 h⟩
  .simp[h1];exact⟨by omega,hs λh=>absurd h h1⟩
 .simp[SE.den,aj];exact mF (aU aj hI)
theorem avR(l:List De)(s:List UInt8)(n:Int)(hl:Sm l):CC 27 ab [dO l,iS s,iI n] (iB (bU l s n)):=by
 refine CC.dJ aro kr (λ_=>kr) ax (by rfl) ?_;simp[adq,UT,SE.den];refine fz l.length (λi (_:Unit)=>[iI i]) (λi _=>∀d∈l.take i,(d.s=s->¬d.n=n)) () ?_ ax λi _ hi hI=>?_
 .simp[SE.den]
 by_cases aj:i<l.length
 .have hw:=aD aj hl;have hs:=λh=>aO (p:=λd:De=>(d.s=s->¬d.n=n)) aj hI h;have hy:=Ib (ayy aj) (s:=s) (n:=n);simp[SE.den,aj,hw,wb aj,ao,aF];by_cases h1:l[i].s=s
  .by_cases h2:l[i].n=n
   .simp[h1,h2];exact hy ⟨h1,h2⟩
   .simp[h1,h2];exact⟨by omega,hs λ_ h=>h2 h⟩
  .simp[h1];exact⟨by omega,hs λh=>absurd h h1⟩
 .simp[SE.den,aj,aF];exact mF (aU aj hI)
theorem amn(l:List De)(s:List UInt8)(n:Int)(hl:Sm l):∃b,(b=0↔bU l s n=ab)/\CC 141 af [dO l,iS s,iI n] (iI b):=by
 refine CC.K7 _ aq8 kr (λ_=>kr) ax (by rfl) ?_;simp[adf,UD,SE.den];refine fz l.length (λi (a:Int)=>[iI i,iI a]) (λ_ a=>a≠0) 7 ?_ ax λi a hi ha=>?_
 .simp[SE.den]
 by_cases aj:i<l.length
 .have hw:=aD aj hl;simp[SE.den,aj,hw,wb aj,ao];by_cases h1:l[i].s=s
  .simp[h1];omega
  .simp[h1];omega
 .have hb:=v51 l s n hl;simp[SE.den,aj];refine⟨_,hb,?_⟩;cases bU l s n<;>simp[ha]
def MU(ds:List De)(gs:List Gl):Prop:=∀g∈gs,g.op=0->bU ds g.s g.ts.length=ab
theorem v201(l:List De)(g:List Gl)(hl:Sm l)(hg:Sm g):∃b,(b=0↔MU l g)/\CC 142 af [dO l,iX g] (iI b):=by
 refine CC.K7 _ aq9 kr (λ_=>kr) ax (by rfl) ?_;simp[adg,UE,SE.den];refine fz g.length (λi (_:Unit)=>[iI i]) (λi _=>∀x∈g.take i,x.op=0->bU l x.s x.ts.length=ab) () ?_ ax λi a hi hI=>?_
 .simp[SE.den]
 by_cases aj:i<g.length
 .have hw:=aD aj hg;obtain⟨b,hz,hb⟩:=amn l g[i].s g[i].ts.length hl;have hs:=λh=>aO (p:=λx:Gl=>x.op=0->bU l x.s x.ts.length=ab) aj hI h;simp[SE.den,aj,hw,gJ aj,ao];by_cases h1:g[i].op=0
  .right;refine⟨h1,_,hb,?_⟩;simp;by_cases h2:b=0
   .right;exact⟨h2,by omega,hs λ_=>hz.1 h2⟩
   .left;exact⟨h2,by simp[h2];exactλh=>h2 (hz.2 (h _ (ayy aj) h1))⟩
  .left;exact⟨h1,by omega,hs λh=>absurd h h1⟩
 .simp[SE.den,aj];exact aU aj hI
def mG(n:Int):Bool:=decide (5<=n)&&decide (n<=12)
theorem amo(n:Int):CC 143 af [iI n] (iB (mG n)):=by
 refine CC.dJ aq_ kr (λ_=>kr) ax (by rfl) ?_;simp[adh,SE.den,mG];omega
theorem avS(l:List Int)(n:Int)(hl:Sm l):CC 146 af [iL l,iI n] (iB (decide (n∈l))):=by
 refine CC.dJ arb kr (λ_=>kr) ax (by rfl) ?_;simp[adj,UG,SE.den];refine fz l.length (λi (_:Unit)=>[iI i]) (λi _=>∀x∈l.take i,x≠n) () ?_ ax λi _ hi hI=>?_
 .simp[SE.den]
 by_cases aj:i<l.length
 .have hw:=aD aj hl;simp[SE.den,aj,hw];by_cases h1:l[i]=n
  .left;exact⟨h1,h1▸ayy aj⟩
  .right;exact⟨h1,by omega,aO aj hI h1⟩
 .have:=aU aj hI;simp[SE.den,aj];exactλh=>this _ h rfl
theorem eq4(d:Nat)(a b:Bool):aP ayu (azG (d+1) 4 (.bool a) (.bool b))=aa (a==b):=by
 rw[azG,bj,Go.Ev.run_underlying Ug,ayx];rfl
theorem amp(d:Nat)(x y z x' y' z':Value)(b1 b2 b3:Bool)(h1:aP ayu (azG (d+1) 3 x x')=aa b1)(h2:aP ayu (azG (d+1) 3 y y')=aa b2)(h3:aP ayu (azG (d+1) 4 z z')=aa b3):
 aP ayu (azG (d+2) 28 (.agg #[x,y,z]) (.agg #[x',y',z']))=aa (b1&&b2&&b3):=by
 rw[azG,bj,Go.Ev.run_underlying Tryz.underlying28,ayx];have bI:ayu.stoodInHeld 28=af:=by kernel_rfl
 have p1:∀(a b c:Value),aP ayu (part 3 #[a,b,c] 0)=aa a:=λa b c=>by kernel_rfl
 have p2:∀(a b c:Value),aP ayu (part 3 #[a,b,c] 1)=aa b:=λa b c=>by kernel_rfl
 have p3:∀(a b c:Value),aP ayu (part 4 #[a,b,c] 2)=aa c:=λa b c=>by kernel_rfl
 have hp:aP ayu program=aa ayu:=rfl;rw[bj,hp,ayx,bI];have q:∀{O:Type} (a:O),aP ayu (pure a)=aa a:=λ_=>rfl;simp only[ayW,if_false,<-aCM,aDn,aDA,bj,ne_eq,aC7,not_false_eq_true,if_true,p1,ayx,h1];cases b1
 .rfl
 .simp only[az4,ayW,if_false,q,ayx,bj,p2,h2];cases b2
  .rfl
  .simp only[az4,ayW,if_false,q,ayx,bj,p3,h3];cases b3<;>rfl
theorem amq(P:Program)(t:TypeId)(a b c a' b' c':Value)(r:Bool)(hg:aP P (eqGuard .eql t (.func 0) (.func 0) (.agg #[a,b,c]) (.agg #[a',b',c']))=aa ())(h:aP P (aA6 t (.agg #[a,b,c]) (.agg #[a',b',c']))=aa r):
 cO P .eql t (.agg [.raw a,.raw b,.raw c]) (.agg [.raw a',.raw b',.raw c'])=aa (iB r):=by
 show(aP P (do eqGuard .eql t (.func 0) (.func 0) (.agg #[a,b,c]) (.agg #[a',b',c']);aAe .eql t (.agg #[a,b,c]) (.agg #[a',b',c']))).map lift=_;rw[bj,hg];show(aP P (do pure (.bool (<-aA6 t (.agg #[a,b,c]) (.agg #[a',b',c']))))).map lift=_;rw[bj,h];rfl
@[simp] theorem ayb(a b a' b':Int)(c c':Bool):cO ayu .eql 28 (.agg [iI a,iI b,iB c]) (.agg [iI a',iI b',iB c'])=aa (iB (a==a'&&b==b'&&c==c')):=by
  refine amq _ _ _ _ _ _ _ _ _ (by kernel_rfl) ?_;exact amp 9998 _ _ _ _ _ _ _ _ _ (Yj _ _ _) (Yj _ _ _) (eq4 _ _ _)
theorem ai5(P:Program)(t:TypeId)(a b c a' b' c':Value)(r:Bool)(hg:aP P (eqGuard .neq t (.func 0) (.func 0) (.agg #[a,b,c]) (.agg #[a',b',c']))=aa ())(h:aP P (aA6 t (.agg #[a,b,c]) (.agg #[a',b',c']))=aa r):
 cO P .neq t (.agg [.raw a,.raw b,.raw c]) (.agg [.raw a',.raw b',.raw c'])=aa (iB (!r)):=by
 show(aP P (do eqGuard .neq t (.func 0) (.func 0) (.agg #[a,b,c]) (.agg #[a',b',c']);aAe .neq t (.agg #[a,b,c]) (.agg #[a',b',c']))).map lift=_;rw[bj,hg];show(aP P (do pure (.bool !(<-aA6 t (.agg #[a,b,c]) (.agg #[a',b',c']))))).map lift=_;rw[bj,h];rfl
@[simp] theorem axC(a b a' b':Int)(c c':Bool):cO ayu .neq 28 (.agg [iI a,iI b,iB c]) (.agg [iI a',iI b',iB c'])=aa (iB (!(a==a'&&b==b'&&c==c'))):=by
  refine ai5 _ _ _ _ _ _ _ _ _ (by kernel_rfl) ?_;exact amp 9998 _ _ _ _ _ _ _ _ _ (Yj _ _ _) (Yj _ _ _) (eq4 _ _ _)
theorem amr(l:List Int)(n:Int)(hl:Sm l):CC 105 af [iL l,iI n] (iB (decide (n∈l))):=by
 refine CC.dJ aqC kr (λ_=>kr) ax (by rfl) ?_;simp[ag5,XY,SE.den];refine fz l.length (λi (_:Unit)=>[iI i]) (λi _=>∀x∈l.take i,x≠n) () ?_ ax λi _ hi hI=>?_
 .simp[SE.den]
 by_cases aj:i<l.length
 .have hw:=aD aj hl;simp[SE.den,aj,hw];by_cases h1:l[i]=n
  .left;exact⟨h1,h1▸ayy aj⟩
  .right;exact⟨h1,by omega,aO aj hI h1⟩
 .have:=aU aj hI;simp[SE.den,aj];exactλh=>this _ h rfl
theorem avT(l:List Int)(n:Int)(hl:Sm l):CC 110 af [iL l,iI n] (iB (decide (n∈l))):=by
 refine CC.dJ aqB kr (λ_=>kr) ax (by rfl) ?_;simp[ag4,XX,SE.den];refine fz l.length (λi (_:Unit)=>[iI i]) (λi _=>∀x∈l.take i,x≠n) () ?_ ax λi _ hi hI=>?_
 .simp[SE.den]
 by_cases aj:i<l.length
 .have hw:=aD aj hl;simp[SE.den,aj,hw];by_cases h1:l[i]=n
  .left;exact⟨h1,h1▸ayy aj⟩
  .right;exact⟨h1,by omega,aO aj hI h1⟩
 .have:=aU aj hI;simp[SE.den,aj];exactλh=>this _ h rfl
theorem avU(l:List Int)(n:Int)(hl:Sm l):CC 187 af [iL l,iI n] (iB (decide (n∈l))):=by
 refine CC.dJ aqq kr (λ_=>kr) ax (by rfl) ?_;simp[agU,XN,SE.den];refine fz l.length (λi (_:Unit)=>[iI i]) (λi _=>∀x∈l.take i,x≠n) () ?_ ax λi _ hi hI=>?_
 .simp[SE.den]
 by_cases aj:i<l.length
 .have hw:=aD aj hl;simp[SE.den,aj,hw];by_cases h1:l[i]=n
  .left;exact⟨h1,h1▸ayy aj⟩
  .right;exact⟨h1,by omega,aO aj hI h1⟩
 .have:=aU aj hI;simp[SE.den,aj];exactλh=>this _ h rfl
theorem k65(a b:List Int)(ha:Sm a):CC 65 af [iL a,iL b] (iB (decide (a=b))):=by
 refine CC.dJ auZ kr (λ_=>kr) ax (by rfl) ?_;simp[alk,SE.den];by_cases cn:a.length=b.length
 rotate_left
 .left;exact⟨λh=>cn ai,λh=>cn (by rw[h])⟩
 right;refine⟨by omega,?_⟩;simp[acG];refine fz a.length (λi (_:Unit)=>[iI i]) (λi _=>a.take i=b.take i) () ?_ ax λi _ hi hI=>?_
 .simp[SE.den]
 by_cases aj:i<a.length
 .have hw:=aD aj ha;have bJ:i<b.length:=ai;simp[SE.den,aj,bJ,hw];by_cases h1:a[i]=b[i]
  .right;exact⟨h1,by omega,by rw[ayE aj,ayE bJ,hI,h1]⟩
  .left;exact⟨h1,λh=>h1 (by subst h;rfl)⟩
 .have:a=b:=by
   rw[<-ayF (aBa aj),hI,ayF ai]
  subst this;simp[SE.den,aj]
theorem mV{ls:List (List Int)}{i:Nat}(h:i<ls.length):cz 1 (bg ls) (iI (i:Nat))=aa (iL ls[i]):=by
 simp[cz,ie,h,cellsOf]
theorem ams(a b:List (List Int))(ha:Sm a)(hs:∀l∈a,Sm l):CC 168 af [bg a,bg b] (iB (decide (a=b))):=by
 refine CC.dJ aqu kr (λ_=>kr) (by simp[AZ]) (by rfl) ?_;simp[agX,SE.den];by_cases cn:a.length=b.length
 rotate_left
 .left;exact⟨λh=>cn ai,λh=>cn (by rw[h])⟩
 right;refine⟨by omega,?_⟩;unfold XQ;refine az a.length (λi (_:Unit)=>[iI i]) (λi _=>a.take i=b.take i) () ?_ ax λi _ hi hI=>?_
 .simp[SE.den]
 by_cases aj:i<a.length
 .have hw:=aD aj ha;have bJ:i<b.length:=ai;have h65:=k65 a[i] b[i] (hs _ (ayy aj));simp[SE.den,aj,hw,mV aj,mV bJ];refine⟨_,h65,?_⟩;by_cases h1:a[i]=b[i]
  .simp[h1];exact .mk () rfl ai (by rw[ayE aj,ayE bJ,hI,h1])
  .simp[h1];exactλh=>h1 (by subst h;rfl)
 .have:a=b:=by
   rw[<-ayF (aBa aj),hI,ayF ai]
  subst this;simp[SE.den,aj]
section
structure Oc where
 r:Int
 h:Int
 k:Bool
 deriving DecidableEq
def fG(o:Oc):IV:=.agg [iI o.r,iI o.h,iB o.k]
abbrev qH(l:List Oc):IV:=.tree 3 (l.map fG)
theorem uY(o:Oc):Pure (fG o):=.agg _ ax
@[simp] theorem U4(l:List Oc):Pure (qH l):=kV 3 fG (λa=>⟨_,rfl,by simp⟩) l
theorem ahw{a b:List Oc}(h:a.length+b.length<=1000):dz 3 24 (qH a) (qH b)=aa (qH (a++b)):=by
 have h2:=zJ (s:=3) (enc:=fG) (λx=>⟨_,rfl,rfl,rfl⟩) b;simp[dz,h2];omega
theorem afF{l:List Oc}{i:Nat}(h:i<l.length):cz 3 (qH l) (iI (i:Nat))=aa (.agg [iI l[i].r,iI l[i].h,iB l[i].k]):=ef (by simp[h,fG]) rfl
def uo(i kl n:Nat):List Oc:=(azR n).map λj=>⟨i,((n- 1- j:Nat):Int),decide (n- 1- j<kl)⟩
@[simp] theorem afG(i kl n:Nat):(uo i kl n).length=n:=by simp[uo]
def Dx(i:Nat)(r:Rl):List Oc:=uo i r.aq.length (r.aq.length+r.av.length)
def occs(l:List Rl):List Oc:=l.zipIdx.flatMap λq=>Dx q.2 q.1
theorem adC(l:List Rl)(r:Rl):occs (l++[r])=occs l++Dx l.length r:=by simp[occs,List.zipIdx_append]
theorem QB{l:List Rl}{i:Nat}(h:i<l.length):occs (l.take (i+1))=occs (l.take i)++Dx i l[i]:=by
 rw[ayE h,adC,azq,Nat.min_eq_left ai]
theorem QC:∀(l:List Rl) (k:Nat),(∀r∈l,iY r)->((l.zipIdx k).flatMap λq=>Dx q.2 q.1).length<=3*l.length
 |[],_,_=>by simp
 |r::l,k,h=>by
  have h1:=QC l (k+1) λr hr=>h r (by simp[hr]);have h2:=(h r ax).h;rw[List.zipIdx_cons,List.flatMap_cons,ayC];simp only[Dx,afG,ay6];simp only[Dx]at h1;omega
theorem xc(l:List Rl)(h:∀r∈l,iY r):(occs l).length<=3*l.length:=QC l 0 h
theorem CI{m:Nat}(h:m<=1000):ay1.wrap ((m:Int) - 1)=(m:Int) - 1:=by
 exact dD ai ai
theorem QD{i kl n m:Nat}(hm:m<n):(uo i kl n).take (n-(m+1)+1)=(uo i kl n).take (n-(m+1))++[⟨i,(m:Int),decide (m<kl)⟩]:=by
 have h:n-(m+1)<(uo i kl n).length:=by simp;omega
 rw[ayE h]
 congr 2
 simp only[uo,aDi,List.getElem_range];rw[show n- 1-(n-(m+1))=m by omega]
section
variable{Q:IV->Prop}{k0:List IV->Prop}{x0:IV}
theorem arx(i:Nat)(r:Rl)(acc:List Oc)(hi:i<1000)(avV:acc.length<=500)(hr:r.aq.length+r.av.length<=3)(hk:k0 [iI (i+1:Nat),qH (acc++Dx i r)]):
 Uh.sat ayu CC Q [k0] [x0,iI i,qH acc,bP r,bP r]:=by
 obtain⟨rn,rk,rr,rg,rb,rv⟩:=r;unfold Dx at hk;simp only[bP]at*
 generalize hn:rk.length+rr.length=n at hr hk;have oO:(rk.length:Int)+rr.length=n:=ai;unfold Uh;refine eM (λ(m:Nat)=>[iI ((m:Int) - 1),qH (acc++(uo i rk.length n).take (n- m))]) (λm=>m<=n) (λm=>m) n ?_ (ayA _) λm hm=>?_
 .simp[SE.den,oO,CI (show n<=1000 by omega),dD (show(-9223372036854775808:Int)<=n by omega) ai]
 cases m with
 |zero=>
  have hw:=aD hi ai;simp[SE.den,hw];rw[ayF ax];exact hk
 |succ m=>
  have hw:ay1.wrap ((m:Int) - 1)=(m:Int) - 1:=CI ai;have hc:dz 3 24 (qH (acc++(uo i rk.length n).take (n-(m+1)))) (.tree 3 [.agg [iI i,iI m,iB (decide (m<rk.length))]])=aa (qH (acc++(uo i rk.length n).take (n-(m+1))++[⟨i,(m:Int),decide (m<rk.length)⟩])):=ahw (b:=[⟨i,(m:Int),decide (m<rk.length)⟩]) (by simp;omega);simp[SE.den,aF,cellsOf,hc,hw];refine .mk m ?_ ai ai;rw[<-QD ai,show n-(m+1)+1=n- m by omega]
theorem k18(p:Pg)(h:jG p):CC 18 af [aW p] (qH (occs p.bc)):=by
 refine CC.of au1 kr kr (by simpa using eO p) ax ?_;obtain⟨ds,rs⟩:=p;have hr:=h.r;have hs:=h.rs;simp only at hr hs⊢;simp[alm,aW,SE.den,ao];unfold acI;refine az rs.length (λi (acc:List Oc)=>[iI i,qH acc]) (λi acc=>acc=occs (rs.take i)) [] ?_ (by simp[occs]) λi acc hi hI=>?_
 .simp[SE.den]
 by_cases aj:i<rs.length
 .have hsi:=(hs _ (ayy aj)).h;have hl:=xc (rs.take i) λr hr=>hs r (azI hr);rw[<-hI]at hl;simp only[azq]at hl;simp[SE.den,aj,q8 aj,ao];have hlen:(rs[i].aq.length:Int)+rs[i].av.length=((rs[i].aq.length+rs[i].av.length:Nat):Int):=ai;refine arx i rs[i] acc ai ai hsi ?_;exact .mk _ rfl ai (by rw[QB aj,<-hI])
 .simp[SE.den,aj];rw[hI,ayF ai]
theorem ary(i:Nat)(r:Rl)(acc:List Oc)(hi:i<1000)(avV:acc.length<=500)(hr:r.aq.length+r.av.length<=3)(hk:k0 [iI (i+1:Nat),qH (acc++Dx i r)]):
 Uk.sat ayu CC Q [k0] [x0,iI i,qH acc,bP r,dr (r.aq++r.av)]:=by
 obtain⟨rn,rk,rr,rg,rb,rv⟩:=r;unfold Dx at hk;simp only[bP]at*
 rw[<-ayC]at hr hk;generalize QE:rk++rr=hs at hr hk⊢;generalize hn:hs.length=n at hr hk;unfold Uk;refine eM (λ(m:Nat)=>[iI ((m:Int) - 1),qH (acc++(uo i rk.length n).take (n- m)),iS rn]) (λm=>m<=n) (λm=>m) n ?_ (ayA _) λm hm=>?_
 .simp[SE.den,hn,CI (show n<=1000 by omega)]
 cases m with
 |zero=>
  have hw:=aD hi ai;simp[SE.den,hw,ao];rw[ayF ax];exact hk
 |succ m=>
  have hw:ay1.wrap ((m:Int) - 1)=(m:Int) - 1:=CI ai;have aj:m<hs.length:=ai;have hc:dz 3 24 (qH (acc++(uo i rk.length n).take (n-(m+1)))) (.tree 3 [.agg [iI i,iI m,iB (decide (m<rk.length))]])=aa (qH (acc++(uo i rk.length n).take (n-(m+1))++[⟨i,(m:Int),decide (m<rk.length)⟩])):=ahw (b:=[⟨i,(m:Int),decide (m<rk.length)⟩]) (by simp;omega);simp[SE.den,ao,aF,cellsOf,hc,hw,gK aj];refine .mk m ?_ ai ai;rw[<-QD ai,show n-(m+1)+1=n- m by omega]
theorem k87(p:Pg)(h:jG p):CC 87 af [aW p] (qH (occs p.bc)):=by
 refine CC.of ava kr kr (by simpa using eO p) ax ?_;obtain⟨ds,rs⟩:=p;have hr:=h.r;have hs:=h.rs;simp only at hr hs⊢;simp[alu,aW,SE.den,ao];unfold acQ;refine az rs.length (λi (acc:List Oc)=>[iI i,qH acc]) (λi acc=>acc=occs (rs.take i)) [] ?_ (by simp[occs]) λi acc hi hI=>?_
 .simp[SE.den]
 by_cases aj:i<rs.length
 .have hsi:=(hs _ (ayy aj)).h;have hl:=xc (rs.take i) λr hr=>hs r (azI hr);rw[<-hI]at hl;simp only[azq]at hl;have Eo:=Yt rs[i] ai;rw[bx]at Eo;simp[SE.den,aj,q8 aj,ao];refine⟨_,Eo,?_⟩;simp;refine ary i rs[i] acc ai ai hsi ?_;exact .mk _ rfl ai (by rw[QB aj,<-hI])
 .simp[SE.den,aj];rw[hI,ayF ai]
theorem k81(p:Pg)(h:jG p)(o:Oc):CC 81 af [aW p,fG o] (iB (decide (o∈occs p.bc))):=by
 refine CC.dJ au6 kr (λ_=>kr) (by intro x hx;rcases ayN.1 hx with rfl|hx;exact eO p;obtain rfl:=ayQ.1 hx;exact uY o) (by rfl) ?_;have h18:=k18 p h;have hl:=xc p.bc h.rs;have hr:=h.r;generalize occs p.bc=l at h18 hl⊢;simp[alp,aW,fG,SE.den,ao]at h18⊢;refine⟨_,h18,?_⟩;simp;unfold acN;refine az l.length (λi (_:Unit)=>[iI i]) (λi _=>∀x∈l.take i,x≠o) () ?_ ax λi _ hi hI=>?_
 .simp[SE.den]
 by_cases aj:i<l.length
 .have hw:=aD aj ai;simp[SE.den,aj,hw,afF aj,ao];by_cases h1:l[i]=o
  .left;refine⟨by rw[h1];simp,h1▸ayy aj⟩
  .right;refine⟨?_,.mk () rfl ai (aO aj hI h1)⟩;intro e1 e2;refineλe3=>h1 ?_;cases Xx:l[i];cases o
   simp_all
 .have:=aU aj hI;simp[SE.den,aj];exactλh=>this _ h rfl
structure Pn where
 o:Oc
 aH:List Int
 cM:List (List Int)
 cj:List (List Int)
 deriving DecidableEq
def aZ(x:Pn):IV:=.agg [iI x.o.r,iI x.o.h,iB x.o.k,iL x.aH,bg x.cM,bg x.cj]
structure wE(x:Pn):Prop where
 o:Sm x.aH
 k:Sm x.cM
 t:Sm x.cj
 ks:∀l∈x.cM,Sm l
 ts:∀l∈x.cj,Sm l
theorem pe(x:Pn):Pure (aZ x):=.agg _ (by simp[AZ])
theorem avW(a b:Pn)(ha:wE a):CC 104 af [aZ a,aZ b] (iB (decide (a=b))):=by
 refine CC.dJ aqt kr (λ_=>kr) (by intro x hx;rcases ayN.1 hx with rfl|hx;exact pe a;obtain rfl:=ayQ.1 hx;exact pe b) (by rfl) ?_;obtain⟨⟨r,h,k⟩,o,kn,t⟩:=a;obtain⟨⟨r',h',k'⟩,o',kn',t'⟩:=b;have h1:=k65 o o' ha.o;have h2:=ams kn kn' ha.k ha.ks;have h3:=ams t t' ha.t ha.ts;simp[agW,aZ,SE.den,ao];by_cases e1:r=r'/\h=h'/\k=k'
 rotate_left
 .right;exact⟨λa b c=>e1 ⟨a,b,c⟩,by intro a b c;exact absurd ⟨a,b,c⟩ e1⟩
 left;refine⟨⟨⟨e1.1,e1.2.1⟩,e1.2.2⟩,_,h1,?_⟩;by_cases e2:o=o'
 rotate_left
 .simp[e2]
 simp[e1,e2];refine⟨_,h2,?_⟩;by_cases e3:kn=kn'
 rotate_left
 .simp[e3]
 simp[e3];refine⟨_,h3,?_⟩;simp
end
end
section
abbrev U5(ls:List (List At)):IV:=.tree 1 (ls.map dr)
abbrev QF(ls:List (List Gl)):IV:=.tree 1 (ls.map iX)
def jS(l:List At):List Int:=(l.map λa=>varsOf a.ts).flatten
def lZ(l:List Gl):List Int:=(l.map λa=>varsOf a.ts).flatten
def dT(ls:List (List At)):List Int:=(ls.map jS).flatten
def dw(ls:List (List Gl)):List Int:=(ls.map lZ).flatten
theorem adD{ls:List (List At)}{i:Nat}(h:i<ls.length):cz 1 (U5 ls) (iI (i:Nat))=aa (dr ls[i]):=ef (by simp[h]) rfl
theorem adE{ls:List (List Gl)}{i:Nat}(h:i<ls.length):cz 1 (QF ls) (iI (i:Nat))=aa (iX ls[i]):=ef (by simp[h]) rfl
theorem U6(ls:List (List At)):Pure (U5 ls):=by
 refine .tree 1 _ λe he c hc=>?_;obtain⟨x,_,rfl⟩:=azb.1 he;simp[cellsOf]at hc;subst hc;exact afq x
theorem U7(ls:List (List Gl)):Pure (QF ls):=by
 refine .tree 1 _ λe he c hc=>?_;obtain⟨x,_,rfl⟩:=azb.1 he;simp[cellsOf]at hc;subst hc;exact afx x
theorem CJ{O:Type}{f:O->List Int}{l:List O}{i:Nat}(h:i<l.length):((l.take (i+1)).map f).flatten=((l.take i).map f).flatten++f l[i]:=by
 rw[ayE h,aAx,azu];simp only[azs,aCb,aAl,aBh,ayO]
theorem Lc{O:Type}{f:O->List Int}{n:Nat}:∀{l:List O},(∀a∈l,(f a).length<=n)->((l.map f).flatten).length<=l.length*n
 |[],_=>by simp
 |a::l,h=>by
  have:=Lc (f:=f) (l:=l) λa ha=>h a (by simp[ha]);have h1:=h a ax;rw[azs,aAl,ayC,ay6,Nat.add_mul];omega
theorem Gg{O:Type}{f:O->List Int}(l:List O)(i:Nat):((l.take i).map f).flatten.length<=(l.map f).flatten.length:=by
 conv=>rhs;rw[<-azE i l,aAx,azu,ayC]
 omega
theorem q_(l:List Int):∀e∈l.map iI,(cellsOf e).length=1:=λe he=>by obtain⟨x,_,rfl⟩:=azb.1 he;rfl
theorem CK(l:List Int):∀c∈flat (l.map iI),(∃v,c=.raw v)/\ao c=ab:=λc hc=>by
 unfold flat at hc;obtain⟨e,he,hc⟩:=List.mem_flatMap.1 hc;obtain⟨x,_,rfl⟩:=azb.1 he;simp[cellsOf]at hc;subst hc;exact⟨⟨_,rfl⟩,rfl⟩
section
variable{k0:List IV->Prop}{Q:IV->Prop}
theorem amt(l:List At)(hl:Sm l)(hn:∀a∈l,s9 a/\Dv a){x0:IV}(acc:List Int)(i:Nat)(hi:i<1000)(hlen:acc.length+(jS l).length<=1000000000)(hk:k0 [iI (i+1:Nat),iL (acc++jS l)]):
 Qs.sat ayu CC Q [k0] [x0,iI i,iL acc,dr l]:=by
 have gD:=aD hi ai;refine az l.length (λj (q:List Int)=>[iI j,iL q]) (λj q=>q=acc++jS (l.take j)) acc ?_ (by simp[jS]) λj q hj hq=>?_
 .simp[SE.den]
 by_cases aj:j<l.length
 .have hw:=aD aj hl;obtain⟨h1,h2⟩:=hn _ (ayy aj);have JZ:=c46 af l[j] h1 h2;have ht:=CJ (f:=λa:At=>varsOf a.ts) aj;have bJ:=Gg (f:=λa:At=>varsOf a.ts) l (j+1);rw[ht,ayC]at bJ;have hc:=yz (a:=q) (b:=varsOf l[j].ts) (by rw[hq,ayC];unfold jS at hlen⊢;omega);simp[SE.den,aj,hw,gK aj,ao];refine⟨_,JZ,?_⟩;simp[hc, -azS];refine⟨λx a ha hx=>?_,.mk _ rfl ai (by rw[hq,jS,jS,ht,ayJ])⟩;simp[cellsOf]at hx;subst hx;rfl
 .rw[ayF ai]at hq;simp[SE.den,aj,gD];rw[hq];exact hk
theorem avX(ls:List (List At))(hl:ls.length<=1000)(hn:∀l∈ls,Sm l/\∀a∈l,s9 a/\Dv a)(hlen:(dT ls).length<=1000000000):
 Oz.sat ayu CC (·=iL (dT ls)) [] [U5 ls]:=by
 simp only[Oz,ui,SE.den,aAt,ayx,AW];refine⟨⟨_,rfl⟩,⟨_,rfl⟩,?_⟩;unfold Qt;refine az ls.length (λi (q:List Int)=>[iI i,iL q]) (λi q=>q=dT (ls.take i)) [] ?_ (by simp[dT]) λi q hi hq=>?_
 .simp[SE.den]
 by_cases aj:i<ls.length
 .obtain⟨h1,h2⟩:=hn _ (ayy aj);have ht:=CJ (f:=jS) aj;have bJ:=Gg (f:=jS) ls (i+1);rw[ht,ayC]at bJ;simp[SE.den,aj,adD aj, -azS];refine amt ls[i] h1 h2 q i ai (by rw[hq];unfold dT at hlen⊢;omega) ?_;exact .mk _ rfl ai (by rw[hq,dT,dT,ht])
 .rw[ayF ai]at hq;simp[SE.den,aj];rw[hq];exact⟨λx a ha hx=>by simp[cellsOf]at hx;subst hx;rfl,rfl⟩
theorem amu(l:List At)(hl:Sm l)(hn:∀a∈l,s9 a/\Dv a){x0:IV}(i:Nat)(hi:i<1000)(hz:∀a∈l,varsOf a.ts=[])(hk:k0 [iI (i+1:Nat)]):
 Qu.sat ayu CC Q [k0] [x0,iI i,dr l]:=by
 have gD:=aD hi ai;refine az l.length (λj (_:Unit)=>[iI j]) (λ_ _=>True) () ?_ trivial λj _ hj _=>?_
 .simp[SE.den]
 by_cases aj:j<l.length
 .have hw:=aD aj hl;obtain⟨h1,h2⟩:=hn _ (ayy aj);have JZ:=c46 af l[j] h1 h2;rw[hz _ (ayy aj)]at JZ;simp[SE.den,aj,hw,gK aj,ao];refine⟨_,JZ,?_⟩;simp;exact⟨⟨.tree 1 [],by simp[p6,ie]⟩,.mk () rfl ai trivial⟩
 .simp[SE.den,aj,gD];exact hk
theorem z139(ls:List (List At))(hl:ls.length<=1000)(hn:∀l∈ls,Sm l/\∀a∈l,s9 a/\Dv a)(hz:dT ls=[]):
 OA.sat ayu CC (·=iL []) [] [U5 ls]:=by
 simp only[OA,ui,SE.den,aAt,ayx,AW];refine⟨⟨_,rfl⟩,⟨_,rfl⟩,?_⟩;unfold Qv;refine az ls.length (λi (_:Unit)=>[iI i]) (λ_ _=>True) () ?_ trivial λi _ hi _=>?_
 .simp[SE.den]
 by_cases aj:i<ls.length
 .obtain⟨h1,h2⟩:=hn _ (ayy aj);simp[SE.den,aj,adD aj];refine amu ls[i] h1 h2 i ai (λa ha=>?_) (.mk () rfl ai trivial);have:=aAu.1 hz _ (azb.2 ⟨_,ayy aj,rfl⟩);exact aAu.1 this _ (azb.2 ⟨a,ha,rfl⟩)
 .simp[SE.den,aj]
theorem amv:bY ayu 195=1:=by kernel_rfl
theorem f139(ls:List (List At))(hl:ls.length<=1000)(hn:∀l∈ls,Sm l/\∀a∈l,s9 a/\Dv a)(hlen:(dT ls).length<=1000000000):oC ayu (bY ayu 195) 195 [U5 ls] ((dT ls).map iI):=by
 have h1:=amv;by_cases hp:dT ls=[]
 .exact .lT (nm:=ab) mixed qZ amk kr (by simpa using U6 ls) (by rw[h1];exact q_ _) (CK _) ax (by rw[h1,hp];exact z139 ls hl hn hp)
 .exact .lT (nm:=af) mixed qZ amj kr (by simpa using U6 ls) (by rw[h1];exact q_ _) (CK _) (λ_=>by simpa using hp) (by rw[h1];exact avX ls hl hn hlen)
theorem arz(new:Bool)(ls:List (List At))(hl:ls.length<=1000)(hn:∀l∈ls,Sm l/\∀a∈l,s9 a/\Dv a)(hlen:(dT ls).length<=1000000000):CC 1419 new [U5 ls] (iL (dT ls)):=by
 have h:=p_.fresh (new:=new) (s8 rfl) (f139 ls hl hn hlen);rw[eE,amv]at h;unfold CC;rw[eE];exact h
theorem amw(l:List Gl)(hl:Sm l)(hn:∀a∈l,s_ a/\Dw a){x0:IV}(acc:List Int)(i:Nat)(hi:i<1000)(hlen:acc.length+(lZ l).length<=1000000000)(hk:k0 [iI (i+1:Nat),iL (acc++lZ l)]):
 Qw.sat ayu CC Q [k0] [x0,iI i,iL acc,iX l]:=by
 have gD:=aD hi ai;refine az l.length (λj (q:List Int)=>[iI j,iL q]) (λj q=>q=acc++lZ (l.take j)) acc ?_ (by simp[lZ]) λj q hj hq=>?_
 .simp[SE.den]
 by_cases aj:j<l.length
 .have hw:=aD aj hl;obtain⟨h1,h2⟩:=hn _ (ayy aj);have J0:=c87 af l[j] h1 h2;have ht:=CJ (f:=λa:Gl=>varsOf a.ts) aj;have bJ:=Gg (f:=λa:Gl=>varsOf a.ts) l (j+1);rw[ht,ayC]at bJ;have hc:=yz (a:=q) (b:=varsOf l[j].ts) (by rw[hq,ayC];unfold lZ at hlen⊢;omega);simp[SE.den,aj,hw,gJ aj,ao];refine⟨_,J0,?_⟩;simp[hc, -azS];refine⟨λx a ha hx=>?_,.mk _ rfl ai (by rw[hq,lZ,lZ,ht,ayJ])⟩;simp[cellsOf]at hx;subst hx;rfl
 .rw[ayF ai]at hq;simp[SE.den,aj,gD];rw[hq];exact hk
theorem avY(ls:List (List Gl))(hl:ls.length<=1000)(hn:∀l∈ls,Sm l/\∀a∈l,s_ a/\Dw a)(hlen:(dw ls).length<=1000000000):
 OB.sat ayu CC (·=iL (dw ls)) [] [QF ls]:=by
 simp only[OB,ui,SE.den,aAt,ayx,AW];refine⟨⟨_,rfl⟩,⟨_,rfl⟩,?_⟩;unfold Qx;refine az ls.length (λi (q:List Int)=>[iI i,iL q]) (λi q=>q=dw (ls.take i)) [] ?_ (by simp[dw]) λi q hi hq=>?_
 .simp[SE.den]
 by_cases aj:i<ls.length
 .obtain⟨h1,h2⟩:=hn _ (ayy aj);have ht:=CJ (f:=lZ) aj;have bJ:=Gg (f:=lZ) ls (i+1);rw[ht,ayC]at bJ;simp[SE.den,aj,adE aj, -azS];refine amw ls[i] h1 h2 q i ai (by rw[hq];unfold dw at hlen⊢;omega) ?_;exact .mk _ rfl ai (by rw[hq,dw,dw,ht])
 .rw[ayF ai]at hq;simp[SE.den,aj];rw[hq];exact⟨λx a ha hx=>by simp[cellsOf]at hx;subst hx;rfl,rfl⟩
theorem amx(l:List Gl)(hl:Sm l)(hn:∀a∈l,s_ a/\Dw a){x0:IV}(i:Nat)(hi:i<1000)(hz:∀a∈l,varsOf a.ts=[])(hk:k0 [iI (i+1:Nat)]):
 Qy.sat ayu CC Q [k0] [x0,iI i,iX l]:=by
 have gD:=aD hi ai;refine az l.length (λj (_:Unit)=>[iI j]) (λ_ _=>True) () ?_ trivial λj _ hj _=>?_
 .simp[SE.den]
 by_cases aj:j<l.length
 .have hw:=aD aj hl;obtain⟨h1,h2⟩:=hn _ (ayy aj);have J0:=c87 af l[j] h1 h2;rw[hz _ (ayy aj)]at J0;simp[SE.den,aj,hw,gJ aj,ao];refine⟨_,J0,?_⟩;simp;exact⟨⟨.tree 1 [],by simp[p6,ie]⟩,.mk () rfl ai trivial⟩
 .simp[SE.den,aj,gD];exact hk
theorem avZ(ls:List (List Gl))(hl:ls.length<=1000)(hn:∀l∈ls,Sm l/\∀a∈l,s_ a/\Dw a)(hz:dw ls=[]):
 OC.sat ayu CC (·=iL []) [] [QF ls]:=by
 simp only[OC,ui,SE.den,aAt,ayx,AW];refine⟨⟨_,rfl⟩,⟨_,rfl⟩,?_⟩;unfold Qz;refine az ls.length (λi (_:Unit)=>[iI i]) (λ_ _=>True) () ?_ trivial λi _ hi _=>?_
 .simp[SE.den]
 by_cases aj:i<ls.length
 .obtain⟨h1,h2⟩:=hn _ (ayy aj);simp[SE.den,aj,adE aj];refine amx ls[i] h1 h2 i ai (λa ha=>?_) (.mk () rfl ai trivial);have:=aAu.1 hz _ (azb.2 ⟨_,ayy aj,rfl⟩);exact aAu.1 this _ (azb.2 ⟨a,ha,rfl⟩)
 .simp[SE.den,aj]
theorem amy:bY ayu 196=1:=by kernel_rfl
theorem f140(ls:List (List Gl))(hl:ls.length<=1000)(hn:∀l∈ls,Sm l/\∀a∈l,s_ a/\Dw a)(hlen:(dw ls).length<=1000000000):oC ayu (bY ayu 196) 196 [QF ls] ((dw ls).map iI):=by
 have h1:=amy;by_cases hp:dw ls=[]
 .exact .lT (nm:=ab) mixed qZ amm kr (by simpa using U7 ls) (by rw[h1];exact q_ _) (CK _) ax (by rw[h1,hp];exact avZ ls hl hn hp)
 .exact .lT (nm:=af) mixed qZ aml kr (by simpa using U7 ls) (by rw[h1];exact q_ _) (CK _) (λ_=>by simpa using hp) (by rw[h1];exact avY ls hl hn hlen)
theorem ahx(new:Bool)(ls:List (List Gl))(hl:ls.length<=1000)(hn:∀l∈ls,Sm l/\∀a∈l,s_ a/\Dw a)(hlen:(dw ls).length<=1000000000):CC 1420 new [QF ls] (iL (dw ls)):=by
 have h:=p_.fresh (new:=new) (s8 rfl) (f140 ls hl hn hlen);rw[eE,amy]at h;unfold CC;rw[eE];exact h
end
end
def amz:List Nat:=[266,24,25,7,69,257,72,26,71,137,70,139,225,145,183,75,76,136,186,140,184,224,138,185,9,28,27,143,77,142,141,74,144,73,146,78,39,268,192,154,227,33,85,155,233,199,164,230,194,166,204,95,93,162,280]
def amA:List Nat:=[]
def amB:List Nat:=[201]
def amC:List Nat:=[185,247,209,222000151,500195,500196]
def arA(l:List Hint):eS:=⟨amz,amA,amB,l++[⟨999999,0,0,[],[],[],[]⟩],amC⟩
def Yu:ak:=
 (Co 16 2 16 (pC 2 17 9 17 (eD 15) (Cf 16 16 7 7 (xP 233 15 0 (tM 15) (pD 18 18 9 9 (eA 5 14)))) (eA 6 16)) 7 7)
def Yv:ak:=
 (Co 18 2 18 (pC 2 19 9 19 (eD 17) (Cf 18 18 7 7 (xP 233 17 0 (tM 17) (pD 20 20 9 9 (lr 6 15 lA)))) (eA 7 18)) 7 7)
def Yw:ak:=
 (Co 19 2 19 (pC 2 20 9 20 (mL 18) (Cf 19 19 7 7 (xP 233 18 1 (mc 18 2) (pD 21 21 9 9 (eA 7 17)))) (eA 8 19)) 7 7)
def Yx:ak:=
 (Co 20 2 20 (pC 2 21 9 21 (mL 19) (Cf 20 20 7 7 (xP 233 19 1 (mc 19 2) (pD 22 22 9 9 (eA 8 18)))) (eA 9 20)) 7 7)
def Yy:ak:=
 (zD (B_ 21 aY) 24 22 (rF 22 24 (Ce 95 (.var 23) 22 24 (pD 25 25 17 17 (FW 24 1 (.next 11 (B_ 23 (B9 24 1))))))) qz)
def Yz:ak:=
 (jr dx 20 1 4 3 1 4 20 (jq 3 21 199 (eD 21) (gi 22 (vP (fj 22)) (pG (vP (fj 22)) (xo 10 10) (eA 10 20)))) (Cm 1419 (.tr 1 (zF 1 1 2)) (Cm 1420 (I1 rL) (zu 22 Yy))))
def YA:ak:=
 (rQ dx 19 1 3 3 1 3 19 (jq 3 20 199 (eD 20) (.nt (fj 21) (eA 9 19) (RG (IQ .eql (eD 20)) (IQ .eql (eD 20)) 10 10 (eA 9 19)))) 4 Yz)
def YB:ak:=
 (rQ dx 18 1 4 3 1 4 18 (pI (kj 3 19) (eD 19) (lq 19 2 kq Yx) (eA 8 18)) 3 YA)
def YC:ak:=
 (rQ dx 17 1 3 3 1 3 17 (pI (kj 3 18) (eD 18) (lq 18 2 kq Yw) (eA 7 17)) 4 YB)
def YD:ak:=
 (rQ I5 15 1 2 2 1 2 15 (qA 2 17 17 (Cc Yv)) 3 YC)
def U8:ak:=
 (rQ dx 14 1 1 2 1 1 14 (qA 2 15 15 (Cc Yu)) 2 YD)
def U9:ak:=
 (Co 17 2 17 (pC 2 18 9 18 (eD 16) (Cf 17 17 7 7 (xP 233 16 0 (tM 16) (pD 19 19 9 9 (eA 5 15)))) (eA 6 17)) 7 7)
def U_:ak:=
 (Co 19 2 19 (pC 2 20 9 20 (eD 18) (Cf 19 19 7 7 (xP 233 18 0 (tM 18) (pD 21 21 9 9 (lr 6 16 lA)))) (eA 7 19)) 7 7)
def Va:ak:=
 (Co 20 2 20 (pC 2 21 9 21 (mL 19) (Cf 20 20 7 7 (xP 233 19 1 (mc 19 2) (pD 22 22 9 9 (eA 7 18)))) (eA 8 20)) 7 7)
def Vb:ak:=
 (Co 21 2 21 (pC 2 22 9 22 (mL 20) (Cf 21 21 7 7 (xP 233 20 1 (mc 20 2) (pD 23 23 9 9 (eA 8 19)))) (eA 9 21)) 7 7)
def Vc:ak:=
 (zD (B_ 22 aY) 25 23 (rF 23 25 (Ce 95 (.var 24) 23 25 (pD 26 26 17 17 (FW 25 1 (.next 11 (B_ 24 (B9 25 1))))))) qz)
def Vd:ak:=
 (jr dx 21 1 4 3 1 4 21 (jq 3 22 199 (eD 22) (gi 23 (vP tJ) (pG (vP tJ) (xo 10 10) (eA 10 21)))) (Cm 1419 (.tr 1 (zF 1 1 2)) (Cm 1420 (I1 rL) (zu 23 Vc))))
def Ve:ak:=
 (rQ dx 20 1 3 3 1 3 20 (jq 3 21 199 (eD 21) (.nt (fj 22) (eA 9 20) (RG (IQ .eql (eD 21)) (IQ .eql (eD 21)) 10 10 (eA 9 20)))) 4 Vd)
def Vf:ak:=
 (rQ dx 19 1 4 3 1 4 19 (pI (kj 3 20) (eD 20) (lq 20 2 kq Vb) (eA 8 19)) 3 Ve)
def Vh:ak:=
 (rQ dx 18 1 3 3 1 3 18 (pI (kj 3 19) (eD 19) (lq 19 2 kq Va) (eA 7 18)) 4 Vf)
def Vi:ak:=
 (rQ I5 16 1 2 2 1 2 16 (qA 2 18 18 (Cc U_)) 3 Vh)
def Vj:ak:=
 (rQ dx 15 1 1 2 1 1 15 (qA 2 16 16 (Cc U9)) 2 Vi)
def Vk:ak:=
 (zD MH 12 11 (gh (mM 11 12) (mP .leq (eW 11 12) xz) (pG (mP .leq (eW 11 12) xz) (xo 2 2) (mU (eW 11 12) xz (FW 13 1 (lr 4 12 (B9 13 1))) (iQ 4 12 13)))) (RG (mP .eql (mY 1 5) xz) (mP .eql (mY 1 5) xz) 2 2 (FC .eql 9 1 0 m9 (xw 1 U8) (iP 154 pA (pD 14 14 7 7 (xw 1 Vj))))))
def Vl:ak:=
 (jr I5 7 1 4 3 1 4 7 (jq 3 9 166 (fe 9 9 9) (pD 10 10 2 2 (lr 3 7 lA))) (Cm 1419 (.tr 1 (zF 1 1 2)) (Cm 1420 (.tr 1 (zF 1 3 4)) (lU 1 8 9 rH (zu 11 Vk)))))
def Vm:ak:=
 (rQ dx 6 1 3 3 1 3 6 (jq 3 7 166 (fe 7 7 7) (pD 8 8 2 2 (eA 2 6))) 4 Vl)
def Vn:ak:=
 (rQ I5 4 1 2 2 1 2 4 (rI 2 6 194 6 6 (pD 7 7 2 2 (lr 1 4 lA))) 3 Vm)
def Vo:ak:=
 (rQ dx 3 1 1 2 1 1 3 (rI 2 4 194 4 4 (pD 5 5 2 2 nG)) 2 Vn)
def ahy:ak:=
 (FY 6 1 (oY 1069 (RF 221) (lq 1 1 Cb (oF (IZ 1 1 Cb) .gtr (IZ 1 1 Cb) (rE .leq (IZ 1 1 Cb) (.i 4) (rB kK .leq kK 12 (lq 1 4 (FD .leq 1 4 tL) (pG (FD .leq 1 4 tL) (xo 6 6) (xw 1 Vo))) (xo 6 6)) (xo 6 6)) (xo 6 6)))))
theorem av0:aE ayu (arA [⟨2,155008000,53,[(2,(203,0))],[(8,1)],[(2,0),(2,21),(2,180),(2,181),(2,182),(2,183),(2,184),(2,185),(2,186),(2,187),(2,188),(2,189),(2,190),(2,191),(2,192),(2,193),(2,194),(2,195),(2,196),(2,197),(2,198),(2,199),(2,200)],[(2,(22,2))]⟩,⟨2,155008000,47,[(2,(182,0))],[],[(2,19),(2,163),(2,164),(2,165),(2,166),(2,167),(2,168),(2,169),(2,170),(2,171),(2,172),(2,173),(2,174),(2,175),(2,176),(2,177),(2,178),(2,179)],[]⟩,⟨2,155008000,42,[(2,(165,0))],[],[(2,1),(2,15),(2,17),(2,135),(2,136),(2,137),(2,138),(2,139),(2,140),(2,141),(2,142),(2,143),(2,144),(2,145),(2,146),(2,147),(2,148),(2,149),(2,150),(2,151),(2,152),(2,153),(2,154),(2,155),(2,156),(2,157),(2,158),(2,159),(2,160),(2,161),(2,162)],[]⟩,⟨6,155008000162022010008,2,[(6,(8,0))],[],[],[]⟩,⟨3,155008000162,1,[(3,(8,0))],[],[],[]⟩,⟨6,155008000158022010008,2,[(6,(8,0))],[],[],[]⟩,⟨3,155008000158,1,[(3,(8,0))],[],[],[]⟩,⟨2,155008000,34,[(2,(142,0)),(2,(141,0))],[],[],[]⟩,⟨5,155008000152010008,2,[(5,(8,0))],[],[],[]⟩,⟨2,155008000,22,[(2,(11,0)),(2,(103,0))],[],[(2,8),(2,10),(2,74),(2,75),(2,76),(2,77),(2,78),(2,79),(2,80),(2,81),(2,82),(2,83),(2,84),(2,85),(2,86),(2,87),(2,88),(2,89),(2,90),(2,91),(2,92),(2,93),(2,94),(2,95),(2,96),(2,97),(2,98),(2,99),(2,100)],[]⟩,⟨2,155008000,15,[(2,(81,0)),(2,(80,0))],[],[(2,4),(2,6),(2,55),(2,56),(2,57),(2,58),(2,59),(2,60),(2,61),(2,62),(2,63),(2,64),(2,65),(2,66),(2,67),(2,68),(2,69),(2,70),(2,71),(2,72),(2,73)],[]⟩,⟨2,155008000,6,[(2,(62,0)),(2,(61,0))],[],[(2,2),(2,3),(2,5),(2,7),(2,25),(2,26),(2,27),(2,28),(2,29),(2,30),(2,31),(2,32),(2,33),(2,34),(2,35),(2,36),(2,37),(2,38),(2,39),(2,40),(2,41),(2,42),(2,43),(2,44),(2,45),(2,46),(2,47),(2,48),(2,49),(2,50),(2,51),(2,52),(2,53),(2,54)],[]⟩]) 400 af 155=ahy:=by kernel_rfl
end Go.Proofs.YtabefplkfkfdfaaGreat
namespace Go.Ev
section
variable{P:Program}{N:Nat}{Y al:St}{e:Env}{df:List Df}{Z:Io}{w:World}
def Gh(P:Program)(N:Nat)(c:Code)(e:Env)(df:List Df)(Y:St)(CD:Ex->Env->List Df->St->Prop):Prop:=
 ∀B F Z a w Q,kN F ah Z->Inv N Z Y w->dc Z e a.tmps->yY B Z w Y df a.defers->(∀ex e' Ep al,CD ex e' Ep al->xl B N 0 Z w Y ⟨ex,e',Ep,al⟩ Q)->c.wpIn F 0 P Q a w
variable{CD:Ex->Env->List Df->St->Prop}
theorem Gh.Jz{c:Code}{CW:lP}(h:dg P N ah c e df Y CW)(hc:∀ex e' al,CW ex e' al->CD ex e' df al):Gh P N c e df Y CD:=
 λB F Z a w Q hF hi he hd hQ=>h B F Z a w Q hF hi he hd λex e' al h1=>hQ ex e' df al (hc _ _ _ h1)
theorem Gh.seq{x y:Code}(h:Gh P N x e df Y (λex e1 sP au=>au.n<=N/\(ex=.normal->Gh P N y e1 sP au CD)/\(ex≠.normal->CD ex e1 sP au))):Gh P N (.seq x y) e df Y CD:=by
 intro B F Z a w Q hF hi he hd hQ;refine wpIn_seq (h B F Z a w _ hF hi he hd λex e1 sP au hc=>?_);obtain⟨hn,h1,h2⟩:=hc;intro a1 w1 bX fB i1 l1 dB d1 p1;cases ex with
 |normal=>exact h1 rfl B F bX a1 w1 Q (hF.mono l1.ext) i1 dB d1 λex e' Ep al hc=>(hQ ex e' Ep al hc).from hi l1 hn
 |exit id=>exact hQ _ _ _ _ (h2 ax) a1 w1 bX fB i1 l1 dB d1 p1
 |goto l=>exact hQ _ _ _ _ (h2 ax) a1 w1 bX fB i1 l1 dB d1 p1
 |ret=>exact hQ _ _ _ _ (h2 ax) a1 w1 bX fB i1 l1 dB d1 p1
 |cw v=>exact hQ _ _ _ _ (h2 ax) a1 w1 bX fB i1 l1 dB d1 p1
def Er(P:Program)(N:Nat)(c:Code)(e:Env)(df:List Df)(Y:St)(CD:Ex->Env->List Df->St->Prop):Prop:=
 ∀B F Z a w Q,B<=w.heap.size->kN F ah Z->Inv N Z Y w->dc Z e a.tmps->lD Z df a.defers->(∀ex e' Ep al,CD ex e' Ep al->xl B N 0 Z w Y ⟨ex,e',Ep,al⟩ Q)->c.wpIn F 0 P Q a w
theorem Er.ofD{c:Code}(h:Gh P N c e df Y CD):Er P N c e df Y CD:=
 λB F Z a w Q hB hF hi he hd hQ=>h B F Z a w Q hF hi he ⟨hB,[],hd,λ_ h=>(by cases h),List.nodup_nil⟩ hQ
theorem Er.amD{x y:Code}{fn:FuncId}{e1:Env}{sP:List Df}{au:St}(h:gu P 0 ah fn x e df Y ⟨.normal,e1,sP,au⟩)(hn:au.n<=N)(h1:Er P N y e1 sP au CD):Er P N (.seq x y) e df Y CD:=by
 intro B F Z a w Q hB hF hi he hd hQ;refine wpIn_seq (h.wp hn hF hi he hd ?_);intro a1 w1 bX fB i1 l1 dB d1 p1;exact h1 B F bX a1 w1 Q (ayU hB l1.size) (hF.mono l1.ext) i1 dB d1 λex e' Ep al hc=>(hQ ex e' Ep al hc).from hi l1 hn
theorem dM.arB{f:FuncId}{fn:Func}{c:Code}{args:List IV}{RW:IV->St->Prop}(cL:P.funcs[f]?=aa fn)(hb:fn.body=aa c)(hlen:args.length<=fn.ntmps)
 (h:Er P N c (dL args fn.ntmps) [] Y (λex e1 sP au=>∃S mi cU v,ff P S/\bS S/\(((ex=.normal\/ex=.ret)/\mi=ah)\/∃u,ex=.cw u/\mi=aa u)/\gU S 0 sP mi au=aa (ah,cU)/\cU.n<=N/\cC P fn e1 cU=aa v/\RW v cU)):dM P N f args Y RW:=by
 intro Z us w hi hr;refine callsIn_of_wp_marks cL hb trivial ?_;refine h w.heap.size ay8 Z {tmps:=us.toArray++Array.replicate (fn.ntmps- us.toArray.size) azk,defers:=[]} w _ (ayA _) (.inl ⟨rfl,rfl⟩) hi (Av hr hlen) trivial λex e1 sP au hc=>?_;obtain⟨S,mi,cU,v,hC,hk,hex,fX,hn,hv,sW⟩:=hc;have eC:au.n<=N:=ayU (lO hk fX) hn;intro a1 w1 bX fB i1 l1 dB d1 p1;obtain⟨_,ids,W8,W9,W_⟩:=d1
 have:∀u,pj bX mi u->LeavesInM ay8 0 P fn a1.tmps (λed w'=>∃v al,RW v al/\zh N 0 Z w Y v al ed w') a1.defers u w1:=λu hu=>
  Hm hu W8 W9 W_ i1 λw1' ds1 av1 i1' l1'=>EU hC hk fX av1 hu i1' hn λw2 r9 u2 i2 l2 Au=>by
   rw[show u2=_ from Au];obtain⟨u,k1,k2⟩:=vg hv i2 (dB.mono l2.ext);exact⟨u,k1,v,cU,sW,r9,k2,i2,Le.then hi eC (l1' _ _ _ _ (ayA _) l1) l2⟩
 rcases hex with⟨rfl|rfl,rfl⟩|⟨u,rfl,rfl⟩
 .exact this _ rfl
 .exact this _ rfl
 .obtain⟨x,rfl,hx⟩:=p1;exact this _ ⟨x,rfl,hx⟩
noncomputable def qg(c:Code)(e:Env)(Y:St)(cr:CR):Self:=
 ⟨λro rd _ c' e' Ep al=> @ite _ (ro=0/\rd=ah/\c'=c/\e'=e/\Ep=[]/\al=Y) (aEf _) (aa cr) ah,λ_ _ _ _=>ah,λ_ _ _ _=>ah,λ_ _ _ _ _=>ah⟩
theorem aa6{c:Code}{cr:CR}(h:∀fn,gu P 0 ah fn c e [] Y cr):(∃m,iv P (qg c e Y cr) m)/\ff P (qg c e Y cr)/\cu (qg c e Y cr)/\bS (qg c e Y cr):=by
 obtain⟨hle,m0,hm⟩:=h 0;refine⟨⟨m0,?_⟩,⟨λ_ _ _ _ _ _ _ h=>(by cases h),λ_ _ _ _ _ _ _ h=>(by cases h),λ_ _ _ _ _ _ _ _ h=>(by cases h),λ_ _ _ _ _ _ _ h=>(by cases h)⟩,?_,⟨λ_ _ _ _ _ _ h=>(by cases h),λ_ _ _ _ _ _ h=>(by cases h),λ_ _ _ _ _ _ _ h=>(by cases h)⟩⟩
 .intro N ro rd fn c' e' Ep al cr' hc;simp only[qg]at hc;split at hc
  .rename_i hh;obtain⟨rfl,rfl,rfl,rfl,rfl,rfl⟩:=hh;cases hc;exactλhN F Z a w Q hF hi he hd hQ=>hm m0 (ayA _) N hN F Z a w Q hF hi he hd hQ
  .cases hc
 .intro ro rd fn c' e' Ep al cr' hc;simp only[qg]at hc;split at hc
  .rename_i hh;obtain⟨_,_,_,_,_,rfl⟩:=hh;cases hc;exact hle
  .cases hc
theorem QG{h:FuncId}{fh:Func}{sa:Nat}{A:Array Oper}{φ:Code}{args:List IV}{mo:Option IV}{e1 e2:Env}{v:IV}(cL:P.funcs[h]?=aa fh)(hb:fh.body=aa (.seq (.region sa A af) φ))(oD:(fh.name != "runtime.NumGoroutine")=ab)
 (hlen:args.length<=fh.ntmps)(EV:A.any o7=ab)(afd:pT P 0 A A.toList (dL args fh.ntmps) mo Y=aa (e1,ah,Y))(hX:∀fn,gu P 0 ah fn φ e1 [] Y ⟨.normal,e2,[],al⟩)
 (hsh:∀S m,Be P S 0 h φ e1 m Y=(match S.code 0 ah h φ e1 [] Y with|some r=>aa (r,m)|none=>ah))(gr:cC P fh e2 al=aa v):
 ∃S,ff P S/\bS S/\gU S 0 [.call h args] mo Y=aa (ah,al):=by
 obtain⟨⟨m,hS⟩,hC,hm,hk⟩:=aa6 hX;refine⟨nf P (qg φ e1 Y ⟨.normal,e2,[],al⟩),Nl hS hC hm hk,G9 hm hk,?_⟩;have rA:(qg φ e1 Y ⟨.normal,e2,[],al⟩).code 0 ah h φ e1 [] Y=aa ⟨.normal,e2,[],al⟩:=by simp[qg]
 have hd:EG P (qg φ e1 Y ⟨.normal,e2,[],al⟩) 0 h args mo Y=aa (ah,al):=by
  unfold EG;rw[cL];simp only[hb,aCI,oD,aCl,az4,ayW,if_false];rw[if_neg ai];simp only[Be,EV,Bool.not_false,aCl,if_true];rw[show(List.foldl (λ(e:Env) (x:IV×Nat)=>e.put (aa x.snd) x.fst) ⟨fh.ntmps,.lf⟩ args.zipIdx)=dL args fh.ntmps from rfl,afd];simp only;rw[hsh,rA];simp only[gr]
 simp only[gU,nf,hd]
end
section
variable{P:Program}{N:Nat}{Y al:St}{e:Env}{df:List Df}
structure og(o:Oper)(op:Op)(dst:Option Nat):Prop where
 op:o.op=op
 dst:o.dst=dst
 guard:o.guard=ah
theorem og.Jg{o:Oper}{op:Op}{dst:Option Nat}(h:og o op dst)(ops:Array Oper)(e:Env):aT o ops e=ab:=by unfold aT;rw[h.guard]
theorem ua.sH{o:Oper}{op:Op}{dst:Option Nat}{ops:Array Oper}{l:List Oper}{v:IV}{au:St}{cr:CR}(ho:og o op dst)(hv:aA P 0 (aC e) o Y=aa (.val v au))(h:ua P 0 ah ops l (e.put dst v) df au cr):ua P 0 ah ops (o::l) e df Y cr:=by
 refine .val (ho.Jg _ _) hv ?_;rw[ho.dst];exact h
theorem eU.sH{rd:Option Nat}{o:Oper}{op:Op}{dst:Option Nat}{ops:Array Oper}{l:List Oper}{v:IV}{au:St}{CW:lP}(ho:og o op dst)(hv:aA P 0 (aC e) o Y=aa (.val v au))(hn:au.n<=N)(h:eU P N rd ops l (e.put dst v) df au CW):eU P N rd ops (o::l) e df Y CW:=by
 refine .val (ho.Jg _ _) hv hn ?_;rw[ho.dst];exact h
theorem QH{fn:FuncId}{i:Nat}{A:Array Oper}{l:List Oper}{cr:CR}(hl:A.toList=l)(h:ua P 0 ah A l e df Y cr):gu P 0 ah fn (.region i A af) e df Y cr:=.region (by rw[hl];exact h)
theorem Vp{t:TypeId}{x:IV}(ha:sx P t=aa af)(hs:aS P t=aa 1):partOf P t [x] 0=aa x:=by simp[partOf,ha,hs]
structure ra(P:Program)(g h:FuncId)(t et T y:TypeId)(f0 f1:Func)(A0 A1 A2 A3 B0 B3 B4 B5 B6 B7:Array Oper)(a0 a1 a2 a3 a4 a5 b0 b3 b4 b5 b6 b7 b8 b9 c0 c1 c2:Oper)(i0 i1 i2 i3 j0 j3 j4 j5 j6 j7:Nat)(ι:Code)(x3:TypeId)(bC:Array Field):Prop where
 fn:P.funcs[g]?=aa f0
 fh:P.funcs[h]?=aa f1
 fb:f0.body=aa (.seq (.region i0 A0 af) (.seq (.region i1 A1 af) (.seq (.region i2 A2 af) (.seq (.region i3 A3 af) .ret))))
 hb:f1.body=aa (.seq (.region j0 B0 af) (.block 0 (.seq (.region j3 B3 af) (.cond (.tmp 6) (.region j4 B4 af) (.seq (.region j5 B5 af) (.cond (.tmp 8) (.seq (.region j6 B6 af) (.region j7 B7 af)) ι))))))
 nt:f0.ntmps=6
 nh:f1.ntmps=12
 name:(f1.name != "runtime.NumGoroutine")=ab
 res:f0.results.toList=[.cell 2 et]
 resh:f1.results.toList=[]
 lA0:A0.toList=[a0]
 lA1:A1.toList=[a1,a2]
 lA2:A2.toList=[a3,a4]
 lA3:A3.toList=[a5]
 lB0:B0.toList=[b0]
 lB3:B3.toList=[b3]
 lB4:B4.toList=[b4]
 lB5:B5.toList=[b5,b6,b7]
 lB6:B6.toList=[b8,b9]
 lB7:B7.toList=[c0,c1,c2]
 oa0:og a0 (.alloc et) (aa 2)
 oa1:og a1 (.makeFunc (.func h) #[] #[.tmp 2]) (aa 3)
 oa2:og a2 (.defer {callee:=.value (.tmp 3),args:= #[],argTypes:= #[]}) ah
 oa3:og a3 (.move (.tmp 0)) (aa 4)
 oa4:og a4 (.call {callee:=.value (.tmp 4),args:= #[],argTypes:= #[]}) (aa 5)
 oa5:og a5 (.store et (.tmp 2) (.const (.int .i64 0))) ah
 ob0:og b0 (.call {callee:=.builtin .recover,args:= #[],argTypes:= #[]}) (aa 4)
 ob3:og b3 (.binOp .eql T (.tmp 4) (.const .nilIface) x3) (aa 6)
 ob4:og b4 (.assign (.tmp 4)) (aa 1)
 ob5:og b5 (.typeAssert (.tmp 4) y t ab) (aa 7)
 ob6:og b6 (.extract (.tmp 7) 1) (aa 8)
 ob7:og b7 (.extract (.tmp 7) 0) (aa 9)
 ob8:og b8 (.alloc t) (aa 2)
 ob9:og b9 (.store t (.tmp 2) (.tmp 9)) ah
 oc0:og c0 (.fieldAddr t (.tmp 2) 0) (aa 10)
 oc1:og c1 (.load et (.tmp 10)) (aa 11)
 oc2:og c2 (.store et (.tmp 0) (.tmp 11)) ah
 ze:dj P et=aa (.int .i64 0)
 se:aS P et=aa 1
 ae:sx P et=aa af
 zt:dj P t=aa (.agg #[.int .i64 0])
 st:aS P t=aa 1
 ut:P.underlying t=aa (.struct bC)
 fl:bC[0]?=aa bC[0]! /\bC[0]!.type=et/\bC[0]!.offset=0
 eq0:tU P .eql T (.tmp 4) (.const .nilIface) (.raw .nilIface) (.raw .nilIface)=aa (.bool ab)
 eq1:∀u,tU P .eql T (.tmp 4) (.const .nilIface) (.dR t (.agg [.raw u])) (.raw .nilIface)=aa (.bool af)
variable{g h:FuncId}{t et T y:TypeId}{f0 f1:Func}{A0 A1 A2 A3 B0 B3 B4 B5 B6 B7:Array Oper}{a0 a1 a2 a3 a4 a5 b0 b3 b4 b5 b6 b7 b8 b9 c0 c1 c2:Oper}{i0 i1 i2 i3 j0 j3 j4 j5 j6 j7:Nat}{ι:Code}{x3:TypeId}{bC:Array Field}
theorem ra.amE(H:ra P g h t et T y f0 f1 A0 A1 A2 A3 B0 B3 B4 B5 B6 B7 a0 a1 a2 a3 a4 a5 b0 b3 b4 b5 b6 b7 b8 b9 c0 c1 c2 i0 i1 i2 i3 j0 j3 j4 j5 j6 j7 ι x3 bC)(p:IV)(Y:St):
 ∃S,ff P S/\bS S/\gU S 0 [.call h [p]] ah Y=aa (ah,Y):=by
 have afH:(dL [p] f1.ntmps).n=12:=by rw[(ej (t:=0) (by rw[H.nh];simp)).1,H.nh]
 refine QG (e1:=(dL [p] f1.ntmps).put (aa 4) (.raw .nilIface)) (e2:=(((dL [p] f1.ntmps).put (aa 4) (.raw .nilIface)).put (aa 6) (.bool ab)).put (aa 1) (.raw .nilIface)) (v:=.aL []) H.fh H.hb H.name (by rw[H.nh];simp) ?_ ?_ (λfn=>?_) (λS m=>rfl) ?_
 .rw[<-aC_,H.lB0];simp[o7,H.ob0.op]
 .rw[H.lB0];have:aT b0 B0 (dL [p] f1.ntmps)=ab:=H.ob0.Jg _ _;simp[pT,this,o7,H.ob0.op,H.ob0.dst]
 .refine .PN (.seq (au:=Y) (sP:=[]) (QH H.lB3 (.sH H.ob3 (v:=.bool ab) ?_ .nil)) (.cond (t:=ab) ?_ ?_)) ax
  .simp only[aA,H.ob3.op,aC,lift];rw[dG (by rw[afH];decide),H.eq0];rfl
  .simp only[aC];rw[dG (by rw[fc,afH];decide)]
  .rw[if_pos rfl];refine QH H.lB4 (.sH H.ob4 (v:=.raw .nilIface) ?_ .nil);simp only[aA,H.ob4.op,aC];rw[gd (by decide),dG (by rw[afH];decide)];rfl
 .simp[cC,H.resh]
theorem ra.amF(H:ra P g h t et T y f0 f1 A0 A1 A2 A3 B0 B3 B4 B5 B6 B7 a0 a1 a2 a3 a4 a5 b0 b3 b4 b5 b6 b7 b8 b9 c0 c1 c2 i0 i1 i2 i3 j0 j3 j4 j5 j6 j7 ι x3 bC)(id:Nat)(u:Value)(hu:ao (.raw u)=ab)(Y:St)(hid:id<Y.n)(aK:Y.at id=aa (.cells [.int 0] 0 0)):
 ∃S,ff P S/\bS S/\gU S 0 [.call h [.ptr id 0 0 1]] (aa (.dR t (.agg [.raw u]))) Y=aa (ah,zY Y id (.raw u)):=by
 have hn:(dL [.ptr id 0 0 1] f1.ntmps).n=12:=by rw[(ej (t:=0) (by rw[H.nh];simp)).1,H.nh]
 have h0:(dL [.ptr id 0 0 1] f1.ntmps).at 0=.ptr id 0 0 1:=by rw[(ej (t:=0) (by rw[H.nh];simp)).2 ax];rfl
 generalize hE:dL [.ptr id 0 0 1] f1.ntmps=E0 at hn h0;obtain⟨e1,lF⟩:∃e1,e1=E0.put (aa 4) (.dR t (.agg [.raw u])):=⟨_,rfl⟩;obtain⟨e2,Bp⟩:∃e2,e2=e1.put (aa 6) (.bool af):=⟨_,rfl⟩;obtain⟨e3,PE⟩:∃e3,e3=e2.put (aa 7) (.aL [.agg [.raw u],.bool ab]):=⟨_,rfl⟩;obtain⟨e4,J1⟩:∃e4,e4=e3.put (aa 8) (.bool ab):=⟨_,rfl⟩;obtain⟨e5,he5⟩:∃e5,e5=e4.put (aa 9) (.agg [.raw u]):=⟨_,rfl⟩;obtain⟨e6,he6⟩:∃e6,e6=e5.put (aa 2) (.ptr Y.n 0 0 1):=⟨_,rfl⟩;obtain⟨e7,he7⟩:∃e7,e7=e6.put ah .undef:=⟨_,rfl⟩;obtain⟨e8,he8⟩:∃e8,e8=e7.put (aa 10) (.ptr Y.n 0 0 1):=⟨_,rfl⟩;obtain⟨e9,he9⟩:∃e9,e9=e8.put (aa 11) (.raw u):=⟨_,rfl⟩;have n1:e1.n=12:=by rw[lF,fc,hn]
 have n2:e2.n=12:=by rw[Bp,fc,n1]
 have n3:e3.n=12:=by rw[PE,fc,n2]
 have n4:e4.n=12:=by rw[J1,fc,n3]
 have n5:e5.n=12:=by rw[he5,fc,n4]
 have n6:e6.n=12:=by rw[he6,fc,n5]
 have n7:e7.n=12:=by rw[he7,fc,n6]
 have n8:e8.n=12:=by rw[he8,fc,n7]
 have cV:e1.at 4=.dR t (.agg [.raw u]):=by rw[lF,dG (by rw[hn];decide)]
 have bN:e1.at 0=.ptr id 0 0 1:=by rw[lF,gd (by decide),h0]
 have YE:e2.at 6=.bool af:=by rw[Bp,dG (by rw[n1];decide)]
 have Vq:e2.at 4=.dR t (.agg [.raw u]):=by rw[Bp,gd (by decide),cV]
 have x37:e3.at 7=.aL [.agg [.raw u],.bool ab]:=by rw[PE,dG (by rw[n2];decide)]
 have x47:e4.at 7=.aL [.agg [.raw u],.bool ab]:=by rw[J1,gd (by decide),x37]
 have x58:e5.at 8=.bool ab:=by rw[he5,gd (by decide),J1,dG (by rw[n3];decide)]
 have x69:e6.at 9=.agg [.raw u]:=by rw[he6,gd (by decide),he5,dG (by rw[n4];decide)]
 have x62:e6.at 2=.ptr Y.n 0 0 1:=by rw[he6,dG (by rw[n5];decide)]
 have x72:e7.at 2=.ptr Y.n 0 0 1:=by rw[he7];exact x62
 have x8:e8.at 10=.ptr Y.n 0 0 1:=by rw[he8,dG (by rw[n7];decide)]
 have x9:e9.at 11=.raw u:=by rw[he9,dG (by rw[n8];decide)]
 have x90:e9.at 0=.ptr id 0 0 1:=by
  rw[he9,gd (by decide),he8,gd (by decide),he7];show e6.at 0=_;rw[he6,gd (by decide),he5,gd (by decide),J1,gd (by decide),PE,gd (by decide),Bp,gd (by decide),bN]
 refine QG (e1:=e1) (e2:=e9.put ah .undef) (v:=.aL []) H.fh H.hb H.name (by rw[H.nh];simp) ?_ ?_ (λfn=>?_) (λS m=>rfl) ?_
 .rw[<-aC_,H.lB0];simp[o7,H.ob0.op]
 .rw[H.lB0,hE];have:aT b0 B0 E0=ab:=H.ob0.Jg _ _;simp[pT,this,o7,H.ob0.op,H.ob0.dst,lF]
 .refine .PN (.seq (e1:=e2) (au:=Y) (sP:=[]) (QH H.lB3 (.sH H.ob3 (v:=.bool af) ?_ (by rw[<-Bp];exact .nil))) (.cond (t:=af) (by simp only[aC];exact YE) ?_)) ax
  .simp only[aA,H.ob3.op,aC,lift];rw[cV,H.eq1];rfl
  .rw[if_neg (by decide)]
   refine .seq (e1:=e5) (au:=Y) (sP:=[]) (QH H.lB5 (.sH H.ob5 (v:=.aL [.agg [.raw u],.bool ab]) (au:=Y) ?_ (by
    rw[<-PE]
    refine .sH H.ob6 (v:=.bool ab) (au:=Y) ?_ (by
     rw[<-J1];refine .sH H.ob7 (v:=.agg [.raw u]) (au:=Y) ?_ (by rw[<-he5];exact .nil);simp only[aA,H.ob7.op,aC,x47];rfl)
    simp only[aA,H.ob6.op,aC,x37];rfl))) (.cond (t:=ab) (by simp only[aC];exact x58) ?_)
   .simp only[aA,H.ob5.op,aC,Vq,H.ut,H.zt];simp;rfl
   .rw[if_pos rfl]
    refine .seq (e1:=e7) (au:=(Y.add (.cells [.int 0] 0 0)).put Y.n (.cells [.raw u] 0 0)) (sP:=[]) (QH H.lB6 (.sH H.ob8 (v:=.ptr Y.n 0 0 1) (au:=Y.add (.cells [.int 0] 0 0)) ?_ (by
     rw[<-he6];refine .sH H.ob9 (v:=.undef) (au:=(Y.add (.cells [.int 0] 0 0)).put Y.n (.cells [.raw u] 0 0)) ?_ (by rw[<-he7];exact .nil);simp only[aA,H.ob9.op,aC,x62,x69,H.st,St.gz,if_true];rw[if_pos ⟨azi _,rfl,ayA _,trivial,ayA _,by simp[cellsOf,hu]⟩];rfl))) (QH H.lB7 (.sH H.oc0 (v:=.ptr Y.n 0 0 1) (au:=(Y.add (.cells [.int 0] 0 0)).put Y.n (.cells [.raw u] 0 0)) ?_ (by
     rw[<-he8]
     refine .sH H.oc1 (v:=.raw u) (au:=(Y.add (.cells [.int 0] 0 0)).put Y.n (.cells [.raw u] 0 0)) ?_ (by
      rw[<-he9];refine .sH H.oc2 (v:=.undef) (au:=zY Y id (.raw u)) ?_ .nil;have bt:¬Y.n=id:=ai;simp only[aA,H.oc2.op,aC,x90,x9,H.se,St.dv,St.gz,bt,if_false,aK];rw[if_pos ⟨azi _,rfl,ayA _,trivial,ayA _,by simp[cellsOf,hu]⟩];rfl)
     simp only[aA,H.oc1.op,aC,x8,H.se,St.dv,if_true];rw[if_pos ⟨ayA _,ayA _,ayA _⟩,Vp H.ae H.se];rfl)))
    .simp only[aA,H.ob8.op,H.zt];rfl
    .simp only[aA,H.oc0.op,aC,x72,H.ut,H.fl.1,H.fl.2.1,H.fl.2.2,H.se];rfl
 .simp[cC,H.resh]
theorem ra.Ue(H:ra P g h t et T y f0 f1 A0 A1 A2 A3 B0 B3 B4 B5 B6 B7 a0 a1 a2 a3 a4 a5 b0 b3 b4 b5 b6 b7 b8 b9 c0 c1 c2 i0 i1 i2 i3 j0 j3 j4 j5 j6 j7 ι x3 bC):Hn P g t:=by
 intro N cl f a_ Y RW PW Xa kO hN hX hR hPa;have hn:(dL [cl] f0.ntmps).n=6:=by rw[(ej (t:=0) (by rw[H.nt];simp)).1,H.nt]
 have h0:(dL [cl] f0.ntmps).at 0=cl:=by rw[(ej (t:=0) (by rw[H.nt];simp)).2 ax];rfl
 refine dM.arB H.fn H.fb (by rw[H.nt];simp) ?_;generalize hE:dL [cl] f0.ntmps=E0 at hn h0;obtain⟨e1,lF⟩:∃e1,e1=E0.put (aa 2) (.ptr Y.n 0 0 1):=⟨_,rfl⟩;obtain⟨e2,Bp⟩:∃e2,e2=(e1.put (aa 3) (.fn (.func h) [] [.ptr Y.n 0 0 1])).put ah .undef:=⟨_,rfl⟩;obtain⟨e4,J1⟩:∃e4,e4=e2.put (aa 4) cl:=⟨_,rfl⟩;have n1:e1.n=6:=by rw[lF,fc,hn]
 have n2:e2.n=6:=by rw[Bp,fc,fc,n1]
 have n4:e4.n=6:=by rw[J1,fc,n2]
 have cT:e1.at 2=.ptr Y.n 0 0 1:=by rw[lF,dG (by rw[hn];decide)]
 have wF:(e1.put (aa 3) (.fn (.func h) [] [.ptr Y.n 0 0 1])).at 3=.fn (.func h) [] [.ptr Y.n 0 0 1]:=dG (by rw[n1];decide);have wG:e2.at 2=.ptr Y.n 0 0 1:=by rw[Bp];show(e1.put (aa 3) _).at 2=_;rw[gd (by decide),cT]
 have iZ:e2.at 0=cl:=by rw[Bp];show(e1.put (aa 3) _).at 0=_;rw[gd (by decide),lF,gd (by decide),h0]
 have x44:e4.at 4=cl:=by rw[J1,dG (by rw[n2];decide)]
 have x42:e4.at 2=.ptr Y.n 0 0 1:=by rw[J1,gd (by decide),wG]
 have arC:gT P (.fn (.func h) [] [.ptr Y.n 0 0 1]) []=aa (.enter h [.ptr Y.n 0 0 1]):=by
  simp only[gT,H.fh,H.hb,aCI,H.name,aCl,if_true];rfl
 refine .amD (fn:=0) (e1:=e1) (sP:=[]) (au:=Y.add (.cells [.int 0] 0 0)) (QH H.lA0 (.sH H.oa0 (v:=.ptr Y.n 0 0 1) ?_ (by rw[<-lF];exact .nil))) hN ?_
 .simp only[aA,H.oa0.op,H.ze];rfl
 refine .amD (fn:=0) (e1:=e2) (sP:=[.call h [.ptr Y.n 0 0 1]]) (au:=Y.add (.cells [.int 0] 0 0)) (QH H.lA1 (.sH (au:=Y.add (.cells [.int 0] 0 0)) H.oa1 (v:=.fn (.func h) [] [.ptr Y.n 0 0 1]) ?_ ?_)) hN ?_
 .simp only[aA,H.oa1.op];show ret (IV.fn _ [] [aC e1 (.tmp 2)]) _=_;simp only[aC,cT];rfl
 .refine .defer (d:=.call h [.ptr Y.n 0 0 1]) (H.oa2.Jg _ _) ?_ (by rw[H.oa2.dst,<-Bp];exact .nil);simp only[aA,H.oa2.op,aC,wF];show(match gT P _ []with|some (.enter f args)=>aa (gq.WE (.call f args))|_=>ah)=_;rw[arC]
 have leave:∀{ex:Ex} {e5:Env} {mi:Option IV} {cU l6:St} {x:IV},e5.at 2=.ptr Y.n 0 0 1->(((ex=.normal\/ex=.ret)/\mi=ah)\/∃u,ex=.cw u/\mi=aa u)->
  (∃S,ff P S/\bS S/\gU S 0 [.call h [.ptr Y.n 0 0 1]] mi cU=aa (ah,l6))->l6.n<=N->l6.at Y.n=aa (.cells [x] 0 0)->Xa x l6->
  ∃S mi aa7 v,ff P S/\bS S/\(((ex=.normal\/ex=.ret)/\mi=ah)\/∃u,ex=.cw u/\mi=aa u)/\gU S 0 [.call h [.ptr Y.n 0 0 1]] mi cU=aa (ah,aa7)/\aa7.n<=N/\cC P f0 e5 aa7=aa v/\Xa v aa7:=by
  intro ex e5 mi cU l6 x h2 hex ⟨S,s1,s2,s3⟩ wv aK sW;refine⟨S,mi,l6,x,s1,s2,hex,s3,wv,?_,sW⟩;simp only[cC,H.res,h2,H.se,aK];rw[if_pos ⟨ayA _,ayA _,ayA _⟩,Vp H.ae H.se]
 refine .ofD (.seq (.Jz (CW:=λex e5 cU=>(∃v,ex=.normal/\e5=e4.put (aa 5) v/\RW v cU)\/∃v,ex=.cw v/\e5=e4/\PW v cU) (.region ?_) ?_))
 .rw[H.lA2];refine .sH (au:=Y.add (.cells [.int 0] 0 0)) H.oa3 (v:=cl) ?_ hN ?_
  .simp only[aA,H.oa3.op,aC,iZ];rfl
  .rw[<-J1];refine .ZH (H.oa4.Jg _ _) (f:=f) (args:=a_) ?_ hX (λv cU hv=>⟨(hR v cU hv).2.1,?_⟩) (λv cU hv=>.inr ⟨v,rfl,rfl,hv⟩)
   .simp only[aA,H.oa4.op,aC,x44];exact kO
   .rw[H.oa4.dst];exact .nil (.inl ⟨v,rfl,rfl,hv⟩)
 .intro ex e5 cU hc;rcases hc with⟨v,rfl,rfl,hv⟩|⟨v,rfl,rfl,hv⟩
  .obtain⟨r1,r2,r3⟩:=hR v cU hv;have x52:(e4.put (aa 5) v).at 2=.ptr Y.n 0 0 1:=by rw[gd (by decide),x42]
   refine⟨r2,λ_=>?_,λh=>absurd rfl h⟩;refine .seq (.Jz (CW:=λex e6 l6=>ex=.normal/\e6=(e4.put (aa 5) v).put ah .undef/\l6=cU.put Y.n (.cells [.int 0] 0 0)) (.region ?_) ?_)
   .rw[H.lA3];refine .sH H.oa5 (v:=.undef) (au:=cU.put Y.n (.cells [.int 0] 0 0)) ?_ r2 (.nil ⟨rfl,rfl,rfl⟩);simp only[aA,H.oa5.op,aC,x52,H.se,r1,lift];rw[if_pos ⟨azi _,rfl,ayA _,trivial,ayA _,rfl⟩];rfl
   .rintro ex e6 l6 ⟨rfl,rfl,rfl⟩;refine⟨r2,λ_=>.Jz (.ret (CW:=λex e6 l6=>ex=.ret/\e6=(e4.put (aa 5) v).put ah .undef/\l6=cU.put Y.n (.cells [.int 0] 0 0)) ⟨rfl,rfl,rfl⟩) ?_,λh=>absurd rfl h⟩;rintro ex e6 l6 ⟨rfl,rfl,rfl⟩;exact leave (by exact x52) (.inl ⟨.inr rfl,rfl⟩) (H.amE _ _) r2 ax r3
  .obtain⟨u,rfl,hu,r1,r2,r3,r4⟩:=hPa v cU hv;refine⟨by omega,λh=>absurd h ax,λ_=>?_⟩;exact leave x42 (.inr ⟨_,rfl,rfl⟩) (H.amF Y.n u hu cU r3 r1) r2 (by simp[zY]) r4
end
end Go.Ev
namespace Go.Proofs.YtabefplkfkfdfaaGreat
open Go Go.Ev
theorem amG:(λu:Value=>tU ayu .eql 20 (.tmp 4) (.const .nilIface) (.dR 221 (.agg [.raw u])) (.raw .nilIface))=λ_=>aa (.bool af):=by kernel_rfl
theorem arD(u:Value):tU ayu .eql 20 (.tmp 4) (.const .nilIface) (.dR 221 (.agg [.raw u])) (.raw .nilIface)=aa (.bool af):=congrFun amG u
theorem afI:Hn ayu 151 221:=by
 apply ra.Ue (P:=ayu) (g:=151) (h:=190) (t:=221) (et:=38) (f0:=Tryz.f151) (f1:=Tryz.f190);constructor
 case fn=>exact Tryz.func151
 case fh=>exact Tryz.func190
 case fb=>exact rfl
 case hb=>exact rfl
 case nt=>exact rfl
 case nh=>exact rfl
 case name=>decide
 case res=>exact rfl
 case resh=>exact rfl
 case lA0=>exact rfl
 case lA1=>exact rfl
 case lA2=>exact rfl
 case lA3=>exact rfl
 case lB0=>exact rfl
 case lB3=>exact rfl
 case lB4=>exact rfl
 case lB5=>exact rfl
 case lB6=>exact rfl
 case lB7=>exact rfl
 case oa0=>exact⟨rfl,rfl,rfl⟩
 case oa1=>exact⟨rfl,rfl,rfl⟩
 case oa2=>exact⟨rfl,rfl,rfl⟩
 case oa3=>exact⟨rfl,rfl,rfl⟩
 case oa4=>exact⟨rfl,rfl,rfl⟩
 case oa5=>exact⟨rfl,rfl,rfl⟩
 case ob0=>exact⟨rfl,rfl,rfl⟩
 case ob3=>exact⟨rfl,rfl,rfl⟩
 case ob4=>exact⟨rfl,rfl,rfl⟩
 case ob5=>exact⟨rfl,rfl,rfl⟩
 case ob6=>exact⟨rfl,rfl,rfl⟩
 case ob7=>exact⟨rfl,rfl,rfl⟩
 case ob8=>exact⟨rfl,rfl,rfl⟩
 case ob9=>exact⟨rfl,rfl,rfl⟩
 case oc0=>exact⟨rfl,rfl,rfl⟩
 case oc1=>exact⟨rfl,rfl,rfl⟩
 case oc2=>exact⟨rfl,rfl,rfl⟩
 case ze=>kernel_rfl
 case se=>kernel_rfl
 case ae=>kernel_rfl
 case zt=>kernel_rfl
 case st=>kernel_rfl
 case ut=>exact Tryz.underlying221
 case fl=>exact⟨rfl,rfl,rfl⟩
 case eq0=>kernel_rfl
 case eq1=>exact arD
section
abbrev aR(r:Rl):IV:=.agg [iS r.name,dr r.aq,dr r.av,iX r.aw,iX r.aI,iI r.vars]
section
variable{k0 k1 k2 k3 k4 k5 k6 k7 k8 k9 k10 JV JW:List IV->Prop}{x2 x3 x4 x5 x6 x7 x8 x9 bN bW cT cG cV gp dP eT g_ gj iZ ow wG wF Vq x25 YE:IV}
structure lB(ds:List De)(r:Rl):Prop where
 d:Sm ds
 s:iY r
 n:qG r
 f:fY r
theorem lB.aq{ds:List De}{r:Rl}(h:lB ds r):r.aq.length<=3/\∀a∈r.aq,s9 a/\Dv a:=
 ⟨by have:=h.s.h;omega,λa ha=>⟨h.n.hs a (ay9 _ ha),λt ht=>(h.f.hs a (ay9 _ ha) t ht).2⟩⟩
theorem lB.av{ds:List De}{r:Rl}(h:lB ds r):r.av.length<=3/\∀a∈r.av,s9 a/\Dv a:=
 ⟨by have:=h.s.h;omega,λa ha=>⟨h.n.hs a (azt _ ha),λt ht=>(h.f.hs a (azt _ ha) t ht).2⟩⟩
theorem lB.aw{ds:List De}{r:Rl}(h:lB ds r):r.aw.length<=6/\∀a∈r.aw,s_ a/\Dw a:=
 ⟨h.s.g,λa ha=>⟨h.n.gs a (ay9 _ ha),λt ht=>((h.f.gs a (ay9 _ ha)).2 t ht).2⟩⟩
theorem lB.aI{ds:List De}{r:Rl}(h:lB ds r):r.aI.length<=6/\∀a∈r.aI,s_ a/\Dw a:=
 ⟨h.s.b,λa ha=>⟨h.n.gs a (azt _ ha),λt ht=>((h.f.gs a (azt _ ha)).2 t ht).2⟩⟩
theorem amH{l:List At}{n:Nat}(hl:l.length<=n)(h:∀a∈l,s9 a/\Dv a):(jS l).length<=n*1048577:=
 ayU (Lc λa ha=>U2 (h a ha).2) (ay4 _ hl)
theorem afJ{l:List Gl}{n:Nat}(hl:l.length<=n)(h:∀a∈l,s_ a/\Dw a):(lZ l).length<=n*1048577:=
 ayU (Lc λa ha=>U2 (h a ha).2) (ay4 _ hl)
theorem OD{ds:List De}{r:Rl}(h:lB ds r):(dT [r.aq,r.av]).length<=100000000/\CC 1419 ab [U5 [r.aq,r.av]] (iL (dT [r.aq,r.av])):=by
 have h1:=amH h.aq.1 h.aq.2;have h2:=amH h.av.1 h.av.2;have hl:(dT [r.aq,r.av]).length<=100000000:=by simp[dT, -azS];omega
 refine⟨hl,arz ab _ ax (λl hl=>?_) ai⟩;simp at hl;rcases hl with rfl|rfl
 .exact⟨by have:=h.aq.1;unfold Sm;omega,h.aq.2⟩
 .exact⟨by have:=h.av.1;unfold Sm;omega,h.av.2⟩
theorem YF{ds:List De}{r:Rl}(h:lB ds r):(dw [r.aw]).length<=100000000/\CC 1420 ab [QF [r.aw]] (iL (dw [r.aw])):=by
 have h1:=afJ h.aw.1 h.aw.2;have hl:(dw [r.aw]).length<=100000000:=by simp[dw, -azS];omega
 refine⟨hl,ahx ab _ ax (λl hl=>?_) ai⟩;simp at hl;rcases hl with rfl;exact⟨by have:=h.aw.1;unfold Sm;omega,h.aw.2⟩
theorem ai6{ds:List De}{r:Rl}(h:lB ds r):(dw [r.aw,r.aI]).length<=100000000/\CC 1420 ab [QF [r.aw,r.aI]] (iL (dw [r.aw,r.aI])):=by
 have h1:=afJ h.aw.1 h.aw.2;have h2:=afJ h.aI.1 h.aI.2;have hl:(dw [r.aw,r.aI]).length<=100000000:=by simp[dw, -azS];omega
 refine⟨hl,ahx ab _ ax (λl hl=>?_) ai⟩;simp at hl;rcases hl with rfl|rfl
 .exact⟨by have:=h.aw.1;unfold Sm;omega,h.aw.2⟩
 .exact⟨by have:=h.aI.1;unfold Sm;omega,h.aI.2⟩
theorem ahz(new:Bool)(z:IV):CC 1069 new [iI 221] z:=by
 have h:=p_.Ue (new:=new) (z:=z) (n:=ayu.funcs.size) (f:=151) (t:=221) (by rw[eE];decide) afI;rw[eE]at h;unfold CC;rw[eE];exact h
end
end
def fk(l:List At):List Tm:=(l.map At.ts).flatten
def oJ(l:List Gl):List Tm:=(l.map Gl.ts).flatten
theorem zK{l:List At}{i:Nat}(h:i<l.length):fk (l.take (i+1))=fk (l.take i)++l[i].ts:=by
 unfold fk;rw[ayE h,aAx,azu];simp
theorem aa8{l:List Gl}{i:Nat}(h:i<l.length):oJ (l.take (i+1))=oJ (l.take i)++l[i].ts:=by
 unfold oJ;rw[ayE h,aAx,azu];simp
theorem CL{l:List At}{t:Tm}:t∈fk l↔∃a∈l,t∈a.ts:=by
 simp only[fk,aAI,azb];exact⟨λ⟨_,⟨a,h1,h2⟩,h3⟩=>⟨a,h1,h2▸h3⟩,λ⟨a,h1,h2⟩=>⟨_,⟨a,h1,rfl⟩,h2⟩⟩
theorem QI{l:List Gl}{t:Tm}:t∈oJ l↔∃a∈l,t∈a.ts:=by
 simp only[oJ,aAI,azb];exact⟨λ⟨_,⟨a,h1,h2⟩,h3⟩=>⟨a,h1,h2▸h3⟩,λ⟨a,h1,h2⟩=>⟨_,⟨a,h1,rfl⟩,h2⟩⟩
theorem gR{ts:List Tm}(h:∀t∈ts,dA t):Vr (varsOf ts):=by
 show Vr (En (eP ts));rw[<-A4];exact Vr.nil.di (aa4 h)
theorem v203(r:Rl)(h:iY r)(hf:fY r):CC 144 af [bP r] (iL (varsOf (fk (r.aq++r.av)))):=by
 refine CC.tS ara kr (λ_=>kr) (by simpa using fv r) (by rfl) ?_;have ur:=aaY r (by have:=h.h;omega);have hl:=h.h;have h1:=h.hs;have h2:=hf.hs;rw[<-ayC]at hl;rw[bx]at ur⊢;generalize r.aq++r.av=hs at ur hl h1 h2⊢;simp[adi,SE.den,ao];refine⟨_,ur,?_⟩;simp;unfold UF;refine az hs.length (λi (a:List Tm)=>[iI i,iT a]) (λi a=>a=fk (hs.take i)/\a.length<=8*i/\∀t∈a,WF t) [] ?_ (by simp[fk]) λi a hi hI=>?_
 .simp[SE.den]
 obtain⟨pf,zb,nK⟩:=hI;by_cases aj:i<hs.length
 .have hw:=aD aj ai;have hm:=ayy aj;have hk:=h1 _ hm;have hc:=CB (a:=a) (b:=hs[i].ts) ai;simp[SE.den,aj,hw,gK aj,ao,hc]
  exact .mk (a++hs[i].ts) ax ai ⟨by rw[zK aj,pf],by simp;omega,λt ht=>by
   rcases ayS.1 ht with ht|ht
   .exact nK t ht
   .exact h2 _ hm t ht⟩
 .rw[ayF ai]at pf;have hb:=ahu a (by unfold Sm;omega) nK;simp[SE.den,aj,ao];rw[pf]at hb⊢;exact⟨_,hb,by simp⟩
def xV(r:Rl):List Tm:=fk (r.aq++r.av)++oJ (r.aw++r.aI)
theorem av2(r:Rl)(h:iY r)(hf:fY r):CC 77 af [bP r] (iL (varsOf (xV r))):=by
 refine CC.tS aq5 kr (λ_=>kr) (by simpa using fv r) (by rfl) ?_;have ur:=aaY r (by have:=h.h;omega);have A5:=afz r (by have:=h.g;have:=h.b;omega);have hl:=h.h;have MV:r.aw.length+r.aI.length<=12:=by have:=h.g;have:=h.b;omega
 have h1:=h.hs;have h2:=hf.hs;have g1:=h.gs;have g2:=hf.gs;unfold xV;rw[<-ayC]at hl MV;rw[bx]at ur A5⊢;generalize r.aq++r.av=hs at ur hl h1 h2⊢;generalize r.aw++r.aI=gs at A5 MV g1 g2⊢;simp[adb,SE.den,ao];refine⟨_,ur,?_⟩;simp;unfold Uw;refine az hs.length (λi (a:List Tm)=>[iI i,iT a]) (λi a=>a=fk (hs.take i)/\a.length<=8*i/\∀t∈a,WF t) [] ?_ (by simp[fk]) λi a hi hI=>?_
 .simp[SE.den]
 obtain⟨pf,zb,nK⟩:=hI;by_cases aj:i<hs.length
 .have hw:=aD aj ai;have hm:=ayy aj;have hk:=h1 _ hm;have hc:=CB (a:=a) (b:=hs[i].ts) ai;simp[SE.den,aj,hw,gK aj,ao,hc]
  exact .mk (a++hs[i].ts) ax ai ⟨by rw[zK aj,pf],by simp;omega,λt ht=>by
   rcases ayS.1 ht with ht|ht
   .exact nK t ht
   .exact h2 _ hm t ht⟩
 .rw[ayF ai]at pf;simp[SE.den,aj,ao];refine⟨_,A5,?_⟩;simp;unfold Uv;refine az gs.length (λi (a:List Tm)=>[iI i,iT a]) (λi a=>a=fk hs++oJ (gs.take i)/\a.length<=24+8*i/\∀t∈a,WF t) a ?_ ⟨by simp[oJ,pf],by omega,nK⟩ λj a hj hJ=>?_
  .simp[SE.den]
  obtain⟨l_,bR,fE⟩:=hJ;by_cases aj:j<gs.length
  .have hw:=aD aj ai;have hm:=ayy aj;have hk:=g1 _ hm;have hc:=CB (a:=a) (b:=gs[j].ts) ai;simp[SE.den,aj,hw,gJ aj,ao,hc]
   exact .mk (a++gs[j].ts) ax ai ⟨by rw[aa8 aj,l_,ayJ],by simp;omega,λt ht=>by
    rcases ayS.1 ht with ht|ht
    .exact fE t ht
    .exact(g2 _ hm).2 t ht⟩
  .rw[ayF ai]at l_;have hb:=ahu a (by unfold Sm;omega) fE;simp[SE.den,aj,ao];rw[l_]at hb⊢;exact⟨_,hb,by simp⟩
structure xW(ds:List De)(r:Rl):Prop where
 h:∀a∈r.aq++r.av,bU ds a.s a.ts.length=ab
 c:MU ds (r.aw++r.aI)
 g:∀g∈r.aw,mG g.op=ab\/g.op=1
 b:∀g∈r.aI,mG g.op=af
 v:∀g∈r.aw,∀v∈varsOf g.ts,v∈varsOf (fk (r.aq++r.av))
theorem v154(ds:List De)(hd:Sm ds)(r:Rl)(h:iY r)(hf:fY r):∃n,(n=0↔xW ds r)/\CC 78 af [dO ds,bP r] (iI n):=by
 refine CC.K7 _ aq7 kr (λ_=>kr) (by intro x hx;rcases ayN.1 hx with rfl|hx;exact K5 _;obtain rfl:=ayQ.1 hx;exact fv r) (by rfl) ?_;have Vs:=v203 r h hf
 have aa9:Vr (varsOf (fk (r.aq++r.av))):=gR λt ht=>by
  obtain⟨a,ha,ht⟩:=CL.1 ht;exact(hf.hs a ha t ht).2
 have amI:=aa9.len;have ur:=aaY r (by have:=h.h;omega);have A5:=afz r (by have:=h.g;have:=h.b;omega);have hl:=h.h;have MV:r.aw.length+r.aI.length<=12:=by have:=h.g;have:=h.b;omega
 have hg:=h.g;have hb:=h.b;have g2:=hf.gs;have g1:=h.gs;have hM1:=λm:xW ds r=>m.h;have Xt:=λm:xW ds r=>m.c;have hM3:=λm:xW ds r=>m.g;have hM4:=λm:xW ds r=>m.b;have hM5:=λm:xW ds r=>m.v;have hM:=λa b c d e=>(⟨a,b,c,d,e⟩:xW ds r);generalize xW ds r=M at hM1 Xt hM3 hM4 hM5 hM⊢;rw[<-ayC]at hl MV;rw[bx]at ur A5 Vs⊢;generalize hV:varsOf (fk (r.aq++r.av))=Vt at Vs aa9 amI hM5 hM;generalize r.aq++r.av=hs at ur hl hM1 hM;obtain⟨av3,afK,amJ⟩:=v201 ds (r.aw++r.aI) hd (by unfold Sm;omega);generalize QJ:r.aw++r.aI=gs at A5 MV amJ afK Xt hM;obtain⟨rn,rk,rr,rg,rb,rv⟩:=r;simp only at*
 simp[ade,SE.den,ao];refine⟨_,ur,?_⟩;simp;unfold UC;refine az hs.length (λi (_:Unit)=>[iI i]) (λi _=>∀a∈hs.take i,bU ds a.s a.ts.length=ab) () ?_ ax λi _ hi hI=>?_
 .simp[SE.den]
 by_cases aj:i<hs.length
 .have hw:=aD aj ai;obtain⟨b,hz,hb⟩:=amn ds hs[i].s hs[i].ts.length hd;simp[SE.den,aj,hw,gK aj,ao];refine⟨_,hb,?_⟩;simp;by_cases h0:b=0
  .right;exact⟨h0,.mk () rfl ai (aO aj hI (hz.1 h0))⟩
  .left;exact⟨h0,by simp[h0];exactλm=>h0 (hz.2 (hM1 m _ (ayy aj)))⟩
 have hA:=aU aj hI;simp[SE.den,aj,ao];refine⟨_,A5,?_⟩;simp;refine⟨_,amJ,?_⟩;simp;by_cases h0:av3=0
 rotate_left
 .left;exact⟨h0,by simp[h0];exactλm=>h0 (afK.2 (Xt m))⟩
 right;refine⟨h0,?_⟩;have hB:=afK.1 h0;unfold UB;refine az rg.length (λi (_:Unit)=>[iI i]) (λi _=>∀g∈rg.take i,mG g.op=ab\/g.op=1) () ?_ ax λi3 _ hi3 GU=>?_
 .simp[SE.den]
 by_cases ET:i3<rg.length
 .have hw:=aD ET ai;have hb:=amo rg[i3].op;have hs3:=λh=>aO (p:=λg:Gl=>mG g.op=ab\/g.op=1) ET GU h;have wv:=λm=>hM3 m _ (ayy ET);simp[SE.den,ET,hw,gJ ET,ao];refine⟨_,hb,?_⟩;cases hq:mG rg[i3].op<;>simp
  .by_cases h0:rg[i3].op=1
   .right;exact⟨h0,.mk () rfl ai (hs3 (.inr h0))⟩
   .left;exact⟨h0,λm=>by have:=wv m;simp[hq,h0]at this⟩
  .exact .mk () rfl ai (hs3 (.inl hq))
 have hC:=aU ET GU;simp[SE.den,ET,ao];unfold UA;refine az rb.length (λi (_:Unit)=>[iI i]) (λi _=>∀g∈rb.take i,mG g.op=af) () ?_ ax λi2 _ hi2 nK=>?_
 .simp[SE.den]
 by_cases bJ:i2<rb.length
 .have hw:=aD bJ ai;have hb:=amo rb[i2].op;simp[SE.den,bJ,hw,gJ bJ,ao];refine⟨_,hb,?_⟩;cases hq:mG rb[i2].op<;>simp
  .exact .mk () rfl ai (aO bJ nK hq)
  .exactλm=>by have:=hM4 m _ (ayy bJ);simp[hq]at this
 have hD:=aU bJ nK;simp[SE.den,bJ,ao];refine⟨_,Vs,?_⟩;simp;unfold Uz;refine az rg.length (λi (_:Unit)=>[iI i]) (λi _=>∀g∈rg.take i,∀v∈varsOf g.ts,v∈Vt) () ?_ ax λi1 _ hi1 zb=>?_
 .simp[SE.den]
 by_cases oN:i1<rg.length
 .have hw1:=aD oN ai;have hm:rg[i1]∈gs:=QJ▸ay9 _ (ayy oN);have hff:=g2 _ (by simpa[QJ]using hm);have hb:=v93 rg[i1] (by have:=g1 _ (by simpa[QJ]using hm);unfold Sm;omega) hff.2;have QK:=(gR λt ht=>(hff.2 t ht).2).len;simp[SE.den,oN,gJ oN,ao];refine⟨_,hb,?_⟩;simp;unfold Uy;generalize hl:varsOf rg[i1].ts=l at*
  refine az l.length (λi (_:Unit)=>[iI i]) (λi _=>∀v∈l.take i,v∈Vt) () ?_ ax λj _ hj hJ=>?_
  .simp[SE.den]
  by_cases aj:j<l.length
  .have hw:=aD aj ai;have hb:=avS Vt l[j] (by unfold Sm;omega);simp[SE.den,aj,hw,eF aj];refine⟨_,hb,?_⟩;by_cases hq:l[j]∈Vt
   .simp[hq];exact .mk () rfl ai (aO aj hJ hq)
   .simp[hq];exactλm=>hq (hM5 m _ (ayy oN) _ (by rw[hl];exact ayy aj))
  .have hE:=aU aj hJ;simp[SE.den,aj,hw1];exact .mk () rfl ai (aO (p:=λg:Gl=>∀v∈varsOf g.ts,v∈Vt) oN zb (by rw[hl];exact hE))
 .simp[SE.den,oN];exact hM hA hB hC hD (aU oN zb)
def okV(ts:List Tm)(n:Int):Prop:=(∀(i:Nat) (h:i<(varsOf ts).length),(varsOf ts)[i]=(i:Int))/\n=((varsOf ts).length:Int)
structure yB(ds:List De)(r:Rl):Prop where
 ne:r.aq++r.av≠[]
 hs:∀a∈r.aq++r.av,eZ a=ab
 gs:∀g∈r.aw++r.aI,eo g=ab
 v:okV (xV r) r.vars
 n:r.name=[]\/gQ r.name=ab
 m:xW ds r
theorem uu{a:At}(h:eZ a=ab):∀t∈a.ts,dA t:=by
 simp only[eZ,ayz]at h;exact U3 h.2
theorem re{a:Gl}(h:eo a=ab):(a.op≠0->lK a.op=a.ts.length)/\∀t∈a.ts,dA t:=by
 unfold eo at h;split at h
 .rename_i h0;exact⟨λh1=>absurd h0 h1,uu (a:=⟨a.s,a.ts⟩) h⟩
 .simp only[ayz]at h;exact⟨λ_=>of_decide_eq_true h.1.2,U3 h.2⟩
structure zd(r:Rl):Prop where
 hs:∀a∈r.aq++r.av,dI a.ts<=1000000000000
 gs:∀a∈r.aw++r.aI,dI a.ts<=1000000000000
theorem s9.b{a:At}(h:s9 a)(hz:dI a.ts<=1000000000000):MQ a.ts:=⟨h.2.1,h.2.2,hz⟩
theorem s_.b{a:Gl}(h:s_ a)(hz:dI a.ts<=1000000000000):MQ a.ts:=⟨h.2.1,h.2.2,hz⟩
theorem fY.len{r:Rl}(h:fY r):(varsOf (xV r)).length<=1048577:=by
 refine(gR λt ht=>?_).len;rcases ayS.1 ht with ht|ht
 .obtain⟨a,ha,ht⟩:=CL.1 ht;exact(h.hs a ha t ht).2
 .obtain⟨a,ha,ht⟩:=QI.1 ht;exact((h.gs a ha).2 t ht).2
theorem v90(ds:List De)(hd:Sm ds)(r:Rl)(h:iY r)(hn:qG r)(hz:zd r):∃n,(n=0↔yB ds r)/\CC 28 af [dO ds,bP r] (iI n):=by
 refine CC.K7 _ avi kr (λ_=>kr) (by intro x hx;rcases ayN.1 hx with rfl|hx;exact K5 _;obtain rfl:=ayQ.1 hx;exact fv r) (by rfl) ?_;have ur:=aaY r (by have:=h.h;omega);have A5:=afz r (by have:=h.g;have:=h.b;omega);have hl:=h.h;have MV:r.aw.length+r.aI.length<=12:=by have:=h.g;have:=h.b;omega
 have hg:=h.g;have hb:=h.b;have n1:=hn.hs;have n2:=hn.gs;have z1:=hz.hs;have z2:=hz.gs;have afL:=hn.for;rw[<-ayC]at hl MV;have Vu:=av2 r h;have OE:=v154 ds hd r h;have h89:=v89 r.name hn.n;have ya:fY r->(varsOf (xV r)).length<=1048577:=λh=>h.len;have MW:=λm:yB ds r=>m.ne;have MX:=λm:yB ds r=>m.hs;have YG:=λm:yB ds r=>m.gs;have hO4:=λm:yB ds r=>m.v;have hO5:=λm:yB ds r=>m.n;have hO6:=λm:yB ds r=>m.m;have hO:=λa b c d e f=>(⟨a,b,c,d,e,f⟩:yB ds r);generalize yB ds r=α at MW MX YG hO4 hO5 hO6 hO⊢;generalize xW ds r=M at hO6 OE hO;generalize xV r=ar at Vu hO4 hO ya;unfold okV at hO4 hO;rw[bx]at ur A5 Vu OE⊢;generalize QE:r.aq++r.av=hs at ur hl n1 afL z1 MW MX hO;generalize QJ:r.aw++r.aI=gs at A5 MV n2 afL z2 YG hO;obtain⟨rn,rk,rr,rg,rb,rv⟩:=r;simp only at*
 simp[ahb,SE.den,ao];refine⟨_,ur,?_⟩;simp;refine⟨_,A5,?_⟩;simp;by_cases z0:hs=[]
 .left;exact⟨z0,λm=>MW m z0⟩
 right;refine⟨z0,?_⟩;right;refine⟨by omega,?_⟩;right;refine⟨by omega,?_⟩;right;refine⟨by omega,?_⟩;unfold Yc;refine az hs.length (λi (_:Unit)=>[iI i]) (λi _=>∀a∈hs.take i,eZ a=ab) () ?_ ax λi _ hi hI=>?_
 .simp[SE.den]
 by_cases aj:i<hs.length
 .have hw:=aD aj ai;have hm:=ayy aj;have hb:=v49 hs[i] (n1 _ hm).1 ((n1 _ hm).b (z1 _ hm));simp[SE.den,aj,hw,gK aj,ao];refine⟨_,hb,?_⟩;cases hq:eZ hs[i]<;>simp
  .exactλm=>by have:=MX m _ hm;simp[hq]at this
  .exact .mk () rfl ai (aO aj hI hq)
 have hA:=aU aj hI;simp[SE.den,aj,ao];unfold Yb;refine az gs.length (λi (_:Unit)=>[iI i]) (λi _=>∀a∈gs.take i,eo a=ab) () ?_ ax λi1 _ hi1 zb=>?_
 .simp[SE.den]
 by_cases oN:i1<gs.length
 .have hw:=aD oN ai;have hm:=ayy oN;have hb:=v152 gs[i1] (n2 _ hm).1 ((n2 _ hm).b (z2 _ hm));simp[SE.den,oN,hw,gJ oN,ao];refine⟨_,hb,?_⟩;cases hq:eo gs[i1]<;>simp
  .exactλm=>by have:=YG m _ hm;simp[hq]at this
  .exact .mk () rfl ai (aO oN zb hq)
 have hB:=aU oN zb;have hF:fY ⟨rn,rk,rr,rg,rb,rv⟩:=afL (λa ha=>uu (hA a ha)) (λa ha=>re (hB a ha));have Vu:=Vu hF;obtain⟨kr,amK,OE⟩:=OE hF;have ya:=ya hF;generalize varsOf ar=v at*
 simp[SE.den,oN,ao];refine⟨_,Vu,?_⟩;simp;unfold Ya;refine az v.length (λi (_:Unit)=>[iI i]) (λi _=>∀(j:Nat) (h:j<v.length),j<i->v[j]=(j:Int)) () ?_ (λ_ _ h=>absurd h ai) λi0 _ PK pf=>?_
 .simp[SE.den]
 by_cases uw:i0<v.length
 .have hw:=aD uw ai;simp[SE.den,uw,hw,eF uw];by_cases he:v[i0]=i0
  .right;exact⟨he,.mk () rfl ai λj hj J2=>by
    rcases aCo.1 J2 with J2|rfl
    .exact pf j hj J2
    .exact he⟩
  .left;exact⟨he,λm=>he ((hO4 m).1 i0 uw)⟩
 have hC:∀(j:Nat) (h:j<v.length),v[j]=(j:Int):=λj hj=>pf j hj ai;simp[SE.den,uw];by_cases hv:rv=v.length
 rotate_left
 .left;exact⟨hv,λm=>hv (hO4 m).2⟩
 right;refine⟨hv,?_⟩;by_cases gB:rn=[]
 .right;refine⟨gB,_,OE,?_⟩;simp;rw[amK];exact⟨λm=>hO z0 hA hB ⟨hC,hv⟩ (.inl gB) m,hO6⟩
 .left;refine⟨gB,_,h89,?_⟩;cases hq:gQ rn<;>simp
  .exactλm=>by have:=hO5 m;simp[gB,hq]at this
  refine⟨_,OE,?_⟩;simp;rw[amK];exact⟨λm=>hO z0 hA hB ⟨hC,hv⟩ (.inr hq) m,hO6⟩
structure wH(p:Pg):Prop where
 d:∀d∈p.eN,gQ d.s=ab/\0<=d.n/\d.n<=6
 u:∀(i:Nat) (h:i<p.eN.length),bU (p.eN.take i) p.eN[i].s p.eN[i].n=af
 r:∀r∈p.bc,yB p.eN r
theorem v34(p:Pg)(h:jG p)(hz:∀r∈p.bc,zd r):∃a n,(n=0↔wH p)/\CC 9 af [aW p] (.aL [iI a,iI n]):=by
 refine CC.alZ _ avf kr t34 (by simpa using eO p) (by rfl) ?_;have MW:=λm:wH p=>m.d;have MX:=λm:wH p=>m.u;have YG:=λm:wH p=>m.r;have hO:=λa b c=>(⟨a,b,c⟩:wH p);generalize wH p=α at MW MX YG hO⊢;obtain⟨ds,rs⟩:=p;obtain⟨hd,hr,dn,lL,LI⟩:=h;simp only at*
 show aaU.sat _ _ _ _ [.agg [dO ds,jF rs]];simp[aaU,SE.den,ao];right;refine⟨by omega,?_⟩;unfold X9;refine az ds.length (λi (_:Unit)=>[iI i]) (λi _=>(∀d∈ds.take i,gQ d.s=ab/\0<=d.n/\d.n<=6)/\∀(j:Nat) (h:j<ds.length),j<i->bU (ds.take j) ds[j].s ds[j].n=af) () ?_ ⟨by simp,λ_ _ h=>absurd h ai⟩ λi _ hi hI=>?_
 .simp[SE.den]
 by_cases aj:i<ds.length
 .have hw:=aD aj ai;have hm:=ayy aj;have h1:=v89 ds[i].s (dn _ hm);have h2:=avR (ds.take i) ds[i].s ds[i].n (by unfold Sm;simp;omega);have jJ:=arp (L:=ds) (l:=i) ai;have cS:=λm=>MW m _ hm;simp[SE.den,aj,hw,wb aj,ao];refine⟨_,h1,?_⟩;cases b1:gQ ds[i].s<;>simp
  .exactλm=>by have:=(cS m).1;simp[b1]at this
  by_cases z1:ds[i].n<0
  .left;exact⟨z1,λm=>by have:=(cS m).2;omega⟩
  right;refine⟨by omega,?_⟩;by_cases z2:6<ds[i].n
  .left;exact⟨z2,λm=>by have:=(cS m).2;omega⟩
  right;refine⟨by omega,?_⟩;refine⟨_,jJ,_,h2,?_⟩;simp;cases b2:bU (ds.take i) ds[i].s ds[i].n<;>simp
  .exact .mk () rfl ai ⟨aO aj hI.1 ⟨b1,by omega,by omega⟩,λj hj J2=>by
    rcases aCo.1 J2 with J2|rfl
    .exact hI.2 j hj J2
    .exact b2⟩
  .exactλm=>by have:=MX m i aj;simp[b2]at this
 have hA:=aU aj hI.1;simp[SE.den,aj,ao];right;refine⟨by omega,?_⟩;unfold X8;refine az rs.length (λi (_:Unit)=>[iI i]) (λi _=>∀r∈rs.take i,yB ds r) () ?_ ax λi0 _ PK pf=>?_
 .simp[SE.den]
 by_cases uw:i0<rs.length
 .have hw:=aD uw ai;have hm:=ayy uw;obtain⟨n,hF,hb⟩:=v90 ds (by unfold Sm;omega) rs[i0] (lL _ hm) (LI _ hm) (hz _ hm);rw[bx]at hb;simp[SE.den,uw,hw,q8 uw,ao];refine⟨_,hb,?_⟩;simp;by_cases z:n=0
  .right;exact⟨z,.mk () rfl ai (aO uw pf (hF.1 z))⟩
  .left;exact⟨z,by simp[z];exactλm=>z (hF.2 (YG m _ hm))⟩
 .simp[SE.den,uw];exact hO hA (λj hj=>hI.2 j hj ai) (aU uw pf)
def Es(a:Int):List Int->Option Int
 |[]=>aa a
 |v::l=>if v<=a then Es (if v=a then a+1 else a) l else ah
def aa_(u:List Int):Prop:=∀(i:Nat) (h:i<u.length),u[i]=(i:Int)
def nj(n:Nat):List Int:=(azR n).map λ(i:Nat)=>(i:Int)
theorem uZ(n:Nat):(nj n).length=n:=by simp[nj]
theorem Vv(n:Nat):nj (n+1)=nj n++[(n:Int)]:=by simp[nj,List.range_succ]
theorem Et{n:Nat}{v:Int}:v∈nj n↔0<=v/\v<n:=by
 simp only[nj,azb,List.mem_range];exact⟨λ⟨i,h1,h2⟩=>by omega,λ⟨h1,h2⟩=>⟨v.toNat,by omega,by omega⟩⟩
theorem Vw(n:Nat):aa_ (nj n):=λi h=>by simp[nj]
theorem Vx:∀(w l:List Int),∃t,di l w=l++t
 |[],l=>⟨[],by simp[di]⟩
 |v::w,l=>by
  obtain⟨t,h⟩:=Vx w (sG l v);show∃t,di (sG l v) w=l++t;rw[h];unfold sG;split
  .exact⟨t,rfl⟩
  .exact⟨[v]++t,by simp⟩
theorem OF:∀(w:List Int) (a:Nat) (n:Int),(∀v∈w,0<=v)->(Es a w=aa n↔aa_ (di (nj a) w)/\n=((di (nj a) w).length:Int))
 |[],a,n,_=>by
  have:di (nj a) []=nj a:=rfl;rw[this,uZ];simp only[Es,ayB];exact⟨λh=>⟨Vw a,h.symm⟩,λh=>h.2.symm⟩
 |v::w,a,n,h=>by
  have h0:=h v ax;have hw:=λu hu=>h u (List.mem_cons_of_mem _ hu);show _↔aa_ (di (sG (nj a) v) w)/\n=((di (sG (nj a) v) w).length:Int);unfold Es sG;by_cases h1:v<a
  .rw[if_pos ai,if_neg ai,if_pos (Et.2 ⟨h0,h1⟩)];exact OF w a n hw
  .rw[if_neg (λhm=>h1 (Et.1 hm).2)];by_cases h2:v=a
   .subst h2;rw[if_pos ai,if_pos rfl,<-Vv];exact OF w (a+1) n hw
   .rw[if_neg ai];obtain⟨t,ht⟩:=Vx w (nj a++[v]);refine⟨λh=>(by cases h),λ⟨hr,_⟩=>?_⟩;rw[ht]at hr;have:=hr a (by simp[uZ]);simp[uZ]at this;exact absurd this h2
theorem rf{v:Int}:∀(w l:List Int),v∈di l w↔v∈l\/v∈w
 |[],l=>by simp[di]
 |x::w,l=>by
  show v∈di (sG l x) w↔_;rw[rf w];unfold sG;split
  .rename_i hx;simp only[ayN];exact⟨λh=>h.elim .inl λh=>.inr (.inr h),λh=>h.elim .inl λh=>h.elim (λe=>.inl (e▸hx)) .inr⟩
  .simp only[ayS,ayN,List.not_mem_nil,or_false,or_assoc]
theorem Ic(l xs:List Int)(x:Int):di l (xs++[x])=sG (di l xs) x:=by simp[di,aBc]
theorem YH(l xs:List Int):di l (En xs)=di l xs:=by
 have key:∀n,di l (En (xs.take n))=di l (xs.take n):=λn=>by
  induction n with
  |zero=>rfl
  |succ n ih=>
   by_cases hn:n<xs.length
   .rw[ayE hn];generalize xs.take n=ys at ih;generalize xs[n]=x;rw[<-A4,Ic,Ic,A4];have hm:x∈En ys↔x∈ys:=by rw[<-A4,rf];simp
    unfold sG;by_cases hx:x∈ys
    .rw[if_pos (hm.2 hx),if_pos ((rf _ _).2 (.inr hx)),ih]
    .rw[if_neg (λh=>hx (hm.1 h)),Ic,ih];rfl
   .rw[ayF ai]at ih⊢;exact ih
 have:=key xs.length;rwa[List.take_length]at this
theorem adF(m:List Int):∀l:List At,di m (jS l)=di m (eP (fk l)):=λl=>by
 induction l generalizing m with
 |nil=>rfl
 |cons a l ih=>
  have h1:jS (a::l)=varsOf a.ts++jS l:=by simp[jS]
  have h2:eP (fk (a::l))=eP a.ts++eP (fk l):=by simp[fk,eP]
  rw[h1,h2,me,me,ih];show di (di m (En (eP a.ts))) _=_;rw[YH]
theorem amL(m:List Int):∀l:List Gl,di m (lZ l)=di m (eP (oJ l)):=λl=>by
 induction l generalizing m with
 |nil=>rfl
 |cons a l ih=>
  have h1:lZ (a::l)=varsOf a.ts++lZ l:=by simp[lZ]
  have h2:eP (oJ (a::l))=eP a.ts++eP (oJ l):=by simp[oJ,eP]
  rw[h1,h2,me,me,ih];show di (di m (En (eP a.ts))) _=_;rw[YH]
theorem mf(a b:List Tm):eP (a++b)=eP a++eP b:=by simp[eP]
theorem Ie(a b:List At):fk (a++b)=fk a++fk b:=by simp[fk]
theorem Vy(a b:List Gl):oJ (a++b)=oJ a++oJ b:=by simp[oJ]
theorem QL(r:Rl):di [] (dT [r.aq,r.av]++dw [r.aw,r.aI])=varsOf (xV r):=by
 have e1:dT [r.aq,r.av]=jS r.aq++jS r.av:=by simp[dT]
 have e2:dw [r.aw,r.aI]=lZ r.aw++lZ r.aI:=by simp[dw]
 show _=di [] (eP (xV r));rw[e1,e2,xV,mf,Ie,Vy,mf,mf];simp only[me,adF,amL]
theorem ai7{r:Rl}{n:Int}(h:∀v∈dT [r.aq,r.av]++dw [r.aw,r.aI],0<=v):okV (xV r) n↔Es 0 (dT [r.aq,r.av]++dw [r.aw,r.aI])=aa n:=by
 have:=OF _ 0 n h;have e:nj 0=[]:=rfl;rw[e,QL]at this;exact this.symm
theorem jt{v:Int}{ts:List Tm}:v∈varsOf ts↔v∈eP ts:=by
 show v∈En (eP ts)↔_;rw[<-A4,rf];simp
theorem QM{v:Int}(l:List At):v∈jS l↔v∈eP (fk l):=by
 have:=rf (v:=v) (jS l) [];rw[adF,rf]at this;simpa using this.symm
theorem QN(r:Rl)(v:Int):v∈dT [r.aq,r.av]↔v∈varsOf (fk (r.aq++r.av)):=by
 have e1:dT [r.aq,r.av]=jS r.aq++jS r.av:=by simp[dT]
 rw[e1,ayS,QM,QM,jt,Ie,mf,ayS]
theorem adG(r:Rl)(p:Int->Prop):(∀v∈dw [r.aw],p v)↔∀g∈r.aw,∀v∈varsOf g.ts,p v:=by
 have e1:dw [r.aw]=lZ r.aw:=by simp[dw]
 rw[e1];simp only[lZ,aAI,azb];exact⟨λh g hg v hv=>h v ⟨_,⟨g,hg,rfl⟩,hv⟩,λh v ⟨_,⟨g,hg,e⟩,hv⟩=>h g hg v (e▸hv)⟩
theorem WC{r:Rl}(h1:∀a∈r.aq++r.av,∀t∈a.ts,dA t)(h2:∀a∈r.aw++r.aI,∀t∈a.ts,dA t):∀v∈dT [r.aq,r.av]++dw [r.aw,r.aI],0<=v:=λv hv=>by
 have hv:v∈di [] (dT [r.aq,r.av]++dw [r.aw,r.aI]):=(rf _ _).2 (.inr hv);rw[QL]at hv;refine((gR λt ht=>?_).2 v hv).1;rcases ayS.1 ht with ht|ht
 .obtain⟨a,ha,ht⟩:=CL.1 ht;exact h1 a ha t ht
 .obtain⟨a,ha,ht⟩:=QI.1 ht;exact h2 a ha t ht
end Go.Proofs.YtabefplkfkfdfaaGreat
