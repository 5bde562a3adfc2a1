/- A part of the proof, no condition: what functions of the program and of the reference compute. -/
import Derived.Test.YtabefplkfkfdfaaGreatPAg
import Derived.Test.YtabefplkfkfdfaaGreatPAf
import Derived.Test.YtabefplkfkfdfaaGreatPAb
import Derived.RowKit3
import Derived.Below
open List renaming getElem_mem->ayy,drop_eq_getElem_cons->ay5,drop_of_length_le->ay3,mem_append->ayS,mem_append_right->azt,length_append->ayC,mem_append_left->ay9,mem_cons->ayN,mem_singleton->ayQ,eq_nil_of_length_eq_zero->ayZ,take_succ_eq_append_getElem->ayE,take_of_length_le->ayF,getElem?_eq_some_iff->ayw,flatMap_cons->aAm,length_cons->ay6,flatMap_append->aA3,length_take->azq,getElem?_eq_none->azU,getElem?_eq_getElem->ayv,flatten_eq_nil_iff->aAu,mem_map->azb,getElem_cons_zero->aCu,getElem?_map->ayR,mem_of_getElem?->ayM,append_nil->ayO,mem_range->aAv,mem_flatMap->azJ,mem_zipIdx_iff_getElem?->aCc,append_of_mem->aCT,nodup_cons->aAC,mem_cons_of_mem->azA,map_set->aDU,take_append_drop->azE,length_map->aAq,map_cons->azs,map_append->aAx,set_append_right->aBq,map_nil->aCb,append_assoc->ayJ,singleton_append->aCC,isEmpty_iff->az8,mk_mem_zipIdx_iff_getElem?->az6,findIdx?_eq_some_iff_getElem->aBR,findIdx?_eq_none_iff->aCj,perm_middle->aDj,pairwise_append->aCJ,cons_append->azv,getElem?_append_right->ay0,append_eq_nil_iff->aCv
open Go.Proofs.Tryz renaming prog->ayu
open Go.IntKind renaming i64->ay1,u64->aBn
open Bool renaming true_and->aAP,eq_iff_iff->aAy,or_eq_true->azf,false_and->aAf,and_eq_true->ayz,not_eq_true->aA0
open Go.Value renaming int->aAc
open Go.Instr renaming sameNow->aBD
open Option renaming bind_some->ayx
open Eq renaming symm->aDp
open List.Pairwise renaming map->aBQ
open Nat renaming min_eq_left->aBx,le_of_lt->aD0,beq->ayI,ble->azD,blt_eq->aCq,beq_eq->azc,le_refl->ayA,le_of_not_lt->aBa
open List.Perm renaming eq_of_pairwise->aEg
open And renaming intro->azL
open Option renaming some->aa,none->ah
open Bool renaming true->ab,false->af
set_option linter.all false
namespace Go.Proofs.YtabefplkfkfdfaaGreat
open Go Go.Ev
section
theorem QO(ds:List De)(s:List UInt8)(n:Int)(hl:Sm ds):CC 233 af [dO ds,iS s,iI n] (iB (bU ds s n)):=by
 refine CC.dJ avL kr (λ_=>kr) ax (by rfl) ?_;simp[ahs,Yp,SE.den];refine az ds.length (λi (_:Unit)=>[iI i]) (λi _=>∀d∈ds.take i,d.s=s->¬d.n=n) () ?_ ax λi _ hi hI=>?_
 .simp[SE.den]
 by_cases aj:i<ds.length
 .have hw:=aD aj hl;simp[SE.den,aj,hw,wb aj,ao,ama];by_cases h1:s=ds[i].s/\n=ds[i].n
  .left;exact⟨h1,Ib (ayy aj) ⟨h1.1.symm,h1.2.symm⟩⟩
  .right;exact⟨λh=>λh'=>h1 ⟨h,h'⟩,.mk () rfl ai (aO (p:=λd:De=>d.s=s->¬d.n=n) aj hI λh h'=>h1 ⟨h.symm,h'.symm⟩)⟩
 .simp[SE.den,aj];exact mF (aU aj hI)
theorem v143(n:Int):CC 199 af [iI n] (iB (mG n)):=by
 refine CC.dJ aru kr (λ_=>kr) ax (by rfl) ?_;simp[adv,SE.den,mG];omega
abbrev DK(ds:List De)(r:Rl):Prop:=∀a∈r.aq,bU ds a.s a.ts.length=ab
abbrev DR(ds:List De)(r:Rl):Prop:=∀a∈r.av,bU ds a.s a.ts.length=ab
abbrev KG(r:Rl):Prop:=∀g∈r.aw,mG g.op=ab\/g.op=1
abbrev KB(r:Rl):Prop:=∀g∈r.aI,mG g.op=af
abbrev VV(r:Rl):Prop:=∀v∈dw [r.aw],v∈dT [r.aq,r.av]
abbrev R5(r:Rl):Prop:=KB r/\VV r
abbrev R6(r:Rl):Prop:=KG r/\R5 r
abbrev R7(ds:List De)(r:Rl):Prop:=MU ds r.aI/\R6 r
abbrev R8(ds:List De)(r:Rl):Prop:=MU ds r.aw/\R7 ds r
abbrev R9(ds:List De)(r:Rl):Prop:=DR ds r/\R8 ds r
abbrev R10(ds:List De)(r:Rl):Prop:=DK ds r/\R9 ds r
theorem iC{A B α:Prop}(h:(A/\B)↔α)(a:A):B↔α:=⟨λb=>h.1 ⟨a,b⟩,λo=>(h.2 o).2⟩
theorem ju{A B α:Prop}(h:(A/\B)↔α)(a:¬A):¬α:=λo=>a (h.2 o).1
section
variable{α:Prop}{k0 k1 k2 k3 k4 k5 k6 k7 k8 k9 k10 JV JW:List IV->Prop}{x2 x3 x4 x5 x6 x7 x8 x9 bN bW cT cG cV gp dP eT g_ gj iZ ow wG wF Vq x25 YE:IV}
theorem arE(ds:List De)(hd:Sm ds)(r:Rl)(s:List UInt8)(ts:List Tm)(i:Nat)(hi:i<1000)(hk:bU ds s ts.length=ab->k5 [iI (i+1:Nat)])(cS:bU ds s ts.length=af->¬α):
 Yu.sat ayu CC (iU λn=>n=0↔α) [k0,k1,k2,k3,k4,k5] [dO ds,aR r,x2,x3,x4,x5,x6,x7,x8,x9,bN,bW,cT,cG,iI i,.agg [iS s,iT ts]]:=by
 have gD:=aD hi ai;have A6:=QO ds s ts.length hd;refine az ds.length (λj (_:Unit)=>[iI j]) (λj _=>∀d∈ds.take j,¬d.s=s) () ?_ ax λj _ hj hI=>?_
 .simp[SE.den]
 by_cases aj:j<ds.length
 .have hw:=aD aj hd;simp[SE.den,aj,hw,gD,wb aj,ao,aF];by_cases h1:ds[j].s=s
  .left;refine⟨h1,_,A6,?_⟩;cases hb:bU ds s ts.length<;>simp
   .exact cS hb
   .exact hk hb
  .right;exact⟨h1,.mk () rfl ai (aO (p:=λd:De=>¬d.s=s) aj hI h1)⟩
 .have:=aU aj hI;simp[SE.den,aj,aF];exact cS (mF λd hd h=>absurd h (this d hd))
theorem arF(ds:List De)(hd:Sm ds)(r:Rl)(s:List UInt8)(ts:List Tm)(i:Nat)(hi:i<1000)(hk:bU ds s ts.length=ab->k6 [iI (i+1:Nat),iB ab])(cS:bU ds s ts.length=af->¬α):
 Yv.sat ayu CC (iU λn=>n=0↔α) [k0,k1,k2,k3,k4,k5,k6] [dO ds,aR r,x2,x3,x4,x5,x6,x7,x8,x9,bN,bW,cT,cG,cV,iI i,dP,.agg [iS s,iT ts]]:=by
 have gD:=aD hi ai;have A6:=QO ds s ts.length hd;refine az ds.length (λj (_:Unit)=>[iI j]) (λj _=>∀d∈ds.take j,¬d.s=s) () ?_ ax λj _ hj hI=>?_
 .simp[SE.den]
 by_cases aj:j<ds.length
 .have hw:=aD aj hd;simp[SE.den,aj,hw,gD,wb aj,ao,aF];by_cases h1:ds[j].s=s
  .left;refine⟨h1,_,A6,?_⟩;cases hb:bU ds s ts.length<;>simp
   .exact cS hb
   .exact hk hb
  .right;exact⟨h1,.mk () rfl ai (aO (p:=λd:De=>¬d.s=s) aj hI h1)⟩
 .have:=aU aj hI;simp[SE.den,aj,aF];exact cS (mF λd hd h=>absurd h (this d hd))
theorem arG(ds:List De)(hd:Sm ds)(r:Rl)(op:Int)(s:List UInt8)(ts:List Tm)(i:Nat)(hi:i<1000)(hk:bU ds s ts.length=ab->k7 [iI (i+1:Nat)])(cS:bU ds s ts.length=af->¬α):
 Yw.sat ayu CC (iU λn=>n=0↔α) [k0,k1,k2,k3,k4,k5,k6,k7] [dO ds,aR r,x2,x3,x4,x5,x6,x7,x8,x9,bN,bW,cT,cG,cV,gp,dP,iI i,.agg [iI op,iS s,iT ts]]:=by
 have gD:=aD hi ai;have A6:=QO ds s ts.length hd;refine az ds.length (λj (_:Unit)=>[iI j]) (λj _=>∀d∈ds.take j,¬d.s=s) () ?_ ax λj _ hj hI=>?_
 .simp[SE.den]
 by_cases aj:j<ds.length
 .have hw:=aD aj hd;simp[SE.den,aj,hw,gD,wb aj,ao,aF];by_cases h1:ds[j].s=s
  .left;refine⟨h1,_,A6,?_⟩;cases hb:bU ds s ts.length<;>simp
   .exact cS hb
   .exact hk hb
  .right;exact⟨h1,.mk () rfl ai (aO (p:=λd:De=>¬d.s=s) aj hI h1)⟩
 .have:=aU aj hI;simp[SE.den,aj,aF];exact cS (mF λd hd h=>absurd h (this d hd))
theorem arH(ds:List De)(hd:Sm ds)(r:Rl)(op:Int)(s:List UInt8)(ts:List Tm)(i:Nat)(hi:i<1000)(hk:bU ds s ts.length=ab->k8 [iI (i+1:Nat)])(cS:bU ds s ts.length=af->¬α):
 Yx.sat ayu CC (iU λn=>n=0↔α) [k0,k1,k2,k3,k4,k5,k6,k7,k8] [dO ds,aR r,x2,x3,x4,x5,x6,x7,x8,x9,bN,bW,cT,cG,cV,gp,dP,eT,iI i,.agg [iI op,iS s,iT ts]]:=by
 have gD:=aD hi ai;have A6:=QO ds s ts.length hd;refine az ds.length (λj (_:Unit)=>[iI j]) (λj _=>∀d∈ds.take j,¬d.s=s) () ?_ ax λj _ hj hI=>?_
 .simp[SE.den]
 by_cases aj:j<ds.length
 .have hw:=aD aj hd;simp[SE.den,aj,hw,gD,wb aj,ao,aF];by_cases h1:ds[j].s=s
  .left;refine⟨h1,_,A6,?_⟩;cases hb:bU ds s ts.length<;>simp
   .exact cS hb
   .exact hk hb
  .right;exact⟨h1,.mk () rfl ai (aO (p:=λd:De=>¬d.s=s) aj hI h1)⟩
 .have:=aU aj hI;simp[SE.den,aj,aF];exact cS (mF λd hd h=>absurd h (this d hd))
theorem amM(ds:List De)(hd:Sm ds)(r:Rl)(s:List UInt8)(ts:List Tm)(i:Nat)(hi:i<1000)(hk:bU ds s ts.length=ab->k5 [iI (i+1:Nat)])(cS:bU ds s ts.length=af->¬α):
 U9.sat ayu CC (iU λn=>n=0↔α) [k0,k1,k2,k3,k4,k5] [dO ds,aR r,x2,x3,x4,x5,x6,x7,x8,x9,bN,bW,cT,cG,cV,iI i,.agg [iS s,iT ts]]:=by
 have gD:=aD hi ai;have A6:=QO ds s ts.length hd;refine az ds.length (λj (_:Unit)=>[iI j]) (λj _=>∀d∈ds.take j,¬d.s=s) () ?_ ax λj _ hj hI=>?_
 .simp[SE.den]
 by_cases aj:j<ds.length
 .have hw:=aD aj hd;simp[SE.den,aj,hw,gD,wb aj,ao,aF];by_cases h1:ds[j].s=s
  .left;refine⟨h1,_,A6,?_⟩;cases hb:bU ds s ts.length<;>simp
   .exact cS hb
   .exact hk hb
  .right;exact⟨h1,.mk () rfl ai (aO (p:=λd:De=>¬d.s=s) aj hI h1)⟩
 .have:=aU aj hI;simp[SE.den,aj,aF];exact cS (mF λd hd h=>absurd h (this d hd))
theorem amN(ds:List De)(hd:Sm ds)(r:Rl)(s:List UInt8)(ts:List Tm)(i:Nat)(hi:i<1000)(hk:bU ds s ts.length=ab->k6 [iI (i+1:Nat),iB ab])(cS:bU ds s ts.length=af->¬α):
 U_.sat ayu CC (iU λn=>n=0↔α) [k0,k1,k2,k3,k4,k5,k6] [dO ds,aR r,x2,x3,x4,x5,x6,x7,x8,x9,bN,bW,cT,cG,cV,gp,iI i,eT,.agg [iS s,iT ts]]:=by
 have gD:=aD hi ai;have A6:=QO ds s ts.length hd;refine az ds.length (λj (_:Unit)=>[iI j]) (λj _=>∀d∈ds.take j,¬d.s=s) () ?_ ax λj _ hj hI=>?_
 .simp[SE.den]
 by_cases aj:j<ds.length
 .have hw:=aD aj hd;simp[SE.den,aj,hw,gD,wb aj,ao,aF];by_cases h1:ds[j].s=s
  .left;refine⟨h1,_,A6,?_⟩;cases hb:bU ds s ts.length<;>simp
   .exact cS hb
   .exact hk hb
  .right;exact⟨h1,.mk () rfl ai (aO (p:=λd:De=>¬d.s=s) aj hI h1)⟩
 .have:=aU aj hI;simp[SE.den,aj,aF];exact cS (mF λd hd h=>absurd h (this d hd))
theorem amO(ds:List De)(hd:Sm ds)(r:Rl)(op:Int)(s:List UInt8)(ts:List Tm)(i:Nat)(hi:i<1000)(hk:bU ds s ts.length=ab->k7 [iI (i+1:Nat)])(cS:bU ds s ts.length=af->¬α):
 Va.sat ayu CC (iU λn=>n=0↔α) [k0,k1,k2,k3,k4,k5,k6,k7] [dO ds,aR r,x2,x3,x4,x5,x6,x7,x8,x9,bN,bW,cT,cG,cV,gp,dP,eT,iI i,.agg [iI op,iS s,iT ts]]:=by
 have gD:=aD hi ai;have A6:=QO ds s ts.length hd;refine az ds.length (λj (_:Unit)=>[iI j]) (λj _=>∀d∈ds.take j,¬d.s=s) () ?_ ax λj _ hj hI=>?_
 .simp[SE.den]
 by_cases aj:j<ds.length
 .have hw:=aD aj hd;simp[SE.den,aj,hw,gD,wb aj,ao,aF];by_cases h1:ds[j].s=s
  .left;refine⟨h1,_,A6,?_⟩;cases hb:bU ds s ts.length<;>simp
   .exact cS hb
   .exact hk hb
  .right;exact⟨h1,.mk () rfl ai (aO (p:=λd:De=>¬d.s=s) aj hI h1)⟩
 .have:=aU aj hI;simp[SE.den,aj,aF];exact cS (mF λd hd h=>absurd h (this d hd))
theorem amP(ds:List De)(hd:Sm ds)(r:Rl)(op:Int)(s:List UInt8)(ts:List Tm)(i:Nat)(hi:i<1000)(hk:bU ds s ts.length=ab->k8 [iI (i+1:Nat)])(cS:bU ds s ts.length=af->¬α):
 Vb.sat ayu CC (iU λn=>n=0↔α) [k0,k1,k2,k3,k4,k5,k6,k7,k8] [dO ds,aR r,x2,x3,x4,x5,x6,x7,x8,x9,bN,bW,cT,cG,cV,gp,dP,eT,g_,iI i,.agg [iI op,iS s,iT ts]]:=by
 have gD:=aD hi ai;have A6:=QO ds s ts.length hd;refine az ds.length (λj (_:Unit)=>[iI j]) (λj _=>∀d∈ds.take j,¬d.s=s) () ?_ ax λj _ hj hI=>?_
 .simp[SE.den]
 by_cases aj:j<ds.length
 .have hw:=aD aj hd;simp[SE.den,aj,hw,gD,wb aj,ao,aF];by_cases h1:ds[j].s=s
  .left;refine⟨h1,_,A6,?_⟩;cases hb:bU ds s ts.length<;>simp
   .exact cS hb
   .exact hk hb
  .right;exact⟨h1,.mk () rfl ai (aO (p:=λd:De=>¬d.s=s) aj hI h1)⟩
 .have:=aU aj hI;simp[SE.den,aj,aF];exact cS (mF λd hd h=>absurd h (this d hd))
theorem arI(ds:List De)(r:Rl)(l u:List Int)(hl:Sm l)(hu:Sm u)(hR:(∀v∈u,v∈l)↔α):
 Yy.sat ayu CC (iU λn=>n=0↔α) [k0,k1,k2,k3,k4,k5,k6,k7,k8,k9,k10] [dO ds,aR r,x2,x3,x4,x5,x6,x7,x8,x9,bN,bW,cT,cG,cV,gp,dP,eT,g_,gj,iZ,iL l,iL u]:=by
 refine az u.length (λj (_:Unit)=>[iL l,iI j]) (λj _=>∀v∈u.take j,v∈l) () ?_ ax λj _ hj hI=>?_
 .simp[SE.den]
 by_cases aj:j<u.length
 .have hw:=aD aj hu;have afM:=RQ l u[j] hl;simp[SE.den,aj,hw,eF aj,aF,cellsOf];refine⟨_,afM,?_⟩;by_cases z:u[j]∈l
  .simp[z];exact .mk () rfl ai (aO aj hI z)
  .simp[z];exactλo=>z (hR.2 o _ (ayy aj))
 .simp[SE.den,aj];exact hR.1 (aU aj hI)
theorem amQ(ds:List De)(r:Rl)(l u:List Int)(hl:Sm l)(hu:Sm u)(hR:(∀v∈u,v∈l)↔α):
 Vc.sat ayu CC (iU λn=>n=0↔α) [k0,k1,k2,k3,k4,k5,k6,k7,k8,k9,k10] [dO ds,aR r,x2,x3,x4,x5,x6,x7,x8,x9,bN,bW,cT,cG,cV,gp,dP,eT,g_,gj,iZ,ow,iL l,iL u]:=by
 refine az u.length (λj (_:Unit)=>[iL l,iI j]) (λj _=>∀v∈u.take j,v∈l) () ?_ ax λj _ hj hI=>?_
 .simp[SE.den]
 by_cases aj:j<u.length
 .have hw:=aD aj hu;have afM:=RQ l u[j] hl;simp[SE.den,aj,hw,eF aj,aF,cellsOf];refine⟨_,afM,?_⟩;by_cases z:u[j]∈l
  .simp[z];exact .mk () rfl ai (aO aj hI z)
  .simp[z];exactλo=>z (hR.2 o _ (ayy aj))
 .simp[SE.den,aj];exact hR.1 (aU aj hI)
theorem arJ(ds:List De)(r:Rl)(h:lB ds r)(hR:R5 r↔α):Yz.sat ayu CC (iU λn=>n=0↔α) [k0,k1,k2,k3,k4,k5,k6,k7,k8,k9] [dO ds,aR r,x2,x3,x4,x5,x6,x7,x8,x9,bN,bW,cT,cG,cV,gp,dP,eT,g_,gj]:=by
 have hl:=h.aI.1;refine az r.aI.length (λj (_:Unit)=>[iI j]) (λj _=>∀x∈r.aI.take j,mG x.op=af) () ?_ ax λj b hj hI=>?_
 .simp[SE.den]
 by_cases aj:j<r.aI.length
 .have hw:=aD aj ai;have hm:=ayy aj;have Ld:=v143 r.aI[j].op;simp[SE.den,aj,hw,gJ aj,ao,aF];refine⟨_,Ld,?_⟩;cases hq:mG r.aI[j].op<;>simp
  .exact .mk () rfl ai (aO aj hI hq)
  .exact ju hR λm=>by have:=m _ hm;simp[hq]at this
 .obtain⟨g1,g2⟩:=OD h;obtain⟨g3,g4⟩:=YF h;have hR:=iC hR (aU aj hI);unfold VV at hR;generalize dT [r.aq,r.av]=u at g1 g2 hR;generalize dw [r.aw]=v at g3 g4 hR;simp[SE.den,aj,ao,cellsOf];exact⟨_,g2,_,g4,⟨_,rfl⟩,arI ds r u v (by unfold Sm;omega) (by unfold Sm;omega) hR⟩
theorem amR(ds:List De)(r:Rl)(h:lB ds r)(hR:R5 r↔α):Vd.sat ayu CC (iU λn=>n=0↔α) [k0,k1,k2,k3,k4,k5,k6,k7,k8,k9] [dO ds,aR r,x2,x3,x4,x5,x6,x7,x8,x9,bN,bW,cT,cG,cV,gp,dP,eT,g_,gj,iZ]:=by
 have hl:=h.aI.1;refine az r.aI.length (λj (_:Unit)=>[iI j]) (λj _=>∀x∈r.aI.take j,mG x.op=af) () ?_ ax λj b hj hI=>?_
 .simp[SE.den]
 by_cases aj:j<r.aI.length
 .have hw:=aD aj ai;have hm:=ayy aj;have Ld:=v143 r.aI[j].op;simp[SE.den,aj,hw,gJ aj,ao,aF];refine⟨_,Ld,?_⟩;cases hq:mG r.aI[j].op<;>simp
  .exact .mk () rfl ai (aO aj hI hq)
  .exact ju hR λm=>by have:=m _ hm;simp[hq]at this
 .obtain⟨g1,g2⟩:=OD h;obtain⟨g3,g4⟩:=YF h;have hR:=iC hR (aU aj hI);unfold VV at hR;generalize dT [r.aq,r.av]=u at g1 g2 hR;generalize dw [r.aw]=v at g3 g4 hR;simp[SE.den,aj,ao,cellsOf];exact⟨_,g2,_,g4,⟨_,rfl⟩,amQ ds r u v (by unfold Sm;omega) (by unfold Sm;omega) hR⟩
theorem arK(ds:List De)(r:Rl)(h:lB ds r)(hR:R6 r↔α):YA.sat ayu CC (iU λn=>n=0↔α) [k0,k1,k2,k3,k4,k5,k6,k7,k8] [dO ds,aR r,x2,x3,x4,x5,x6,x7,x8,x9,bN,bW,cT,cG,cV,gp,dP,eT,g_]:=by
 have hl:=h.aw.1;refine az r.aw.length (λj (_:Unit)=>[iI j]) (λj _=>∀x∈r.aw.take j,(mG x.op=ab\/x.op=1)) () ?_ ax λj b hj hI=>?_
 .simp[SE.den]
 by_cases aj:j<r.aw.length
 .have hw:=aD aj ai;have hm:=ayy aj;have Ld:=v143 r.aw[j].op;have hs:=λq=>aO (p:=λx:Gl=>mG x.op=ab\/x.op=1) aj hI q;simp[SE.den,aj,hw,gJ aj,ao,aF];refine⟨_,Ld,?_⟩;cases hq:mG r.aw[j].op<;>simp
  .by_cases z:r.aw[j].op=1
   .right;exact⟨z,.mk () rfl ai (hs (.inr z))⟩
   .left;exact⟨z,ju hR λm=>by have:=m _ hm;simp[hq,z]at this⟩
  .exact .mk () rfl ai (hs (.inl hq))
 .have hR:=iC hR (aU aj hI);simp[SE.den,aj,ao];exact arJ ds r h hR
theorem amS(ds:List De)(r:Rl)(h:lB ds r)(hR:R6 r↔α):Ve.sat ayu CC (iU λn=>n=0↔α) [k0,k1,k2,k3,k4,k5,k6,k7,k8] [dO ds,aR r,x2,x3,x4,x5,x6,x7,x8,x9,bN,bW,cT,cG,cV,gp,dP,eT,g_,gj]:=by
 have hl:=h.aw.1;refine az r.aw.length (λj (_:Unit)=>[iI j]) (λj _=>∀x∈r.aw.take j,(mG x.op=ab\/x.op=1)) () ?_ ax λj b hj hI=>?_
 .simp[SE.den]
 by_cases aj:j<r.aw.length
 .have hw:=aD aj ai;have hm:=ayy aj;have Ld:=v143 r.aw[j].op;have hs:=λq=>aO (p:=λx:Gl=>mG x.op=ab\/x.op=1) aj hI q;simp[SE.den,aj,hw,gJ aj,ao,aF];refine⟨_,Ld,?_⟩;cases hq:mG r.aw[j].op<;>simp
  .by_cases z:r.aw[j].op=1
   .right;exact⟨z,.mk () rfl ai (hs (.inr z))⟩
   .left;exact⟨z,ju hR λm=>by have:=m _ hm;simp[hq,z]at this⟩
  .exact .mk () rfl ai (hs (.inl hq))
 .have hR:=iC hR (aU aj hI);simp[SE.den,aj,ao];exact amR ds r h hR
theorem arL(ds:List De)(r:Rl)(h:lB ds r)(hR:R7 ds r↔α):YB.sat ayu CC (iU λn=>n=0↔α) [k0,k1,k2,k3,k4,k5,k6,k7] [dO ds,aR r,x2,x3,x4,x5,x6,x7,x8,x9,bN,bW,cT,cG,cV,gp,dP,eT]:=by
 have hl:=h.aI.1;refine az r.aI.length (λj (_:Unit)=>[iI j]) (λj _=>∀x∈r.aI.take j,(x.op=0->bU ds x.s x.ts.length=ab)) () ?_ ax λj b hj hI=>?_
 .simp[SE.den]
 by_cases aj:j<r.aI.length
 .have hw:=aD aj ai;have hm:=ayy aj;have hs:=λq=>aO (p:=λx:Gl=>x.op=0->bU ds x.s x.ts.length=ab) aj hI q;simp[SE.den,aj,hw,gJ aj,ao];by_cases z:r.aI[j].op=0
  .left;exact⟨z,arH ds h.d r r.aI[j].op r.aI[j].s r.aI[j].ts j ai (λq=>.mk () rfl ai (hs λ_=>q)) λq=>ju hR λm=>by have:=m _ hm z;simp[q]at this⟩
  .right;exact⟨z,.mk () rfl ai (hs λq=>absurd q z)⟩
 .have hR:=iC hR (aU aj hI);simp[SE.den,aj,ao];exact arK ds r h hR
theorem amT(ds:List De)(r:Rl)(h:lB ds r)(hR:R7 ds r↔α):Vf.sat ayu CC (iU λn=>n=0↔α) [k0,k1,k2,k3,k4,k5,k6,k7] [dO ds,aR r,x2,x3,x4,x5,x6,x7,x8,x9,bN,bW,cT,cG,cV,gp,dP,eT,g_]:=by
 have hl:=h.aI.1;refine az r.aI.length (λj (_:Unit)=>[iI j]) (λj _=>∀x∈r.aI.take j,(x.op=0->bU ds x.s x.ts.length=ab)) () ?_ ax λj b hj hI=>?_
 .simp[SE.den]
 by_cases aj:j<r.aI.length
 .have hw:=aD aj ai;have hm:=ayy aj;have hs:=λq=>aO (p:=λx:Gl=>x.op=0->bU ds x.s x.ts.length=ab) aj hI q;simp[SE.den,aj,hw,gJ aj,ao];by_cases z:r.aI[j].op=0
  .left;exact⟨z,amP ds h.d r r.aI[j].op r.aI[j].s r.aI[j].ts j ai (λq=>.mk () rfl ai (hs λ_=>q)) λq=>ju hR λm=>by have:=m _ hm z;simp[q]at this⟩
  .right;exact⟨z,.mk () rfl ai (hs λq=>absurd q z)⟩
 .have hR:=iC hR (aU aj hI);simp[SE.den,aj,ao];exact amS ds r h hR
theorem arM(ds:List De)(r:Rl)(h:lB ds r)(hR:R8 ds r↔α):YC.sat ayu CC (iU λn=>n=0↔α) [k0,k1,k2,k3,k4,k5,k6] [dO ds,aR r,x2,x3,x4,x5,x6,x7,x8,x9,bN,bW,cT,cG,cV,gp,dP]:=by
 have hl:=h.aw.1;refine az r.aw.length (λj (_:Unit)=>[iI j]) (λj _=>∀x∈r.aw.take j,(x.op=0->bU ds x.s x.ts.length=ab)) () ?_ ax λj b hj hI=>?_
 .simp[SE.den]
 by_cases aj:j<r.aw.length
 .have hw:=aD aj ai;have hm:=ayy aj;have hs:=λq=>aO (p:=λx:Gl=>x.op=0->bU ds x.s x.ts.length=ab) aj hI q;simp[SE.den,aj,hw,gJ aj,ao];by_cases z:r.aw[j].op=0
  .left;exact⟨z,arG ds h.d r r.aw[j].op r.aw[j].s r.aw[j].ts j ai (λq=>.mk () rfl ai (hs λ_=>q)) λq=>ju hR λm=>by have:=m _ hm z;simp[q]at this⟩
  .right;exact⟨z,.mk () rfl ai (hs λq=>absurd q z)⟩
 .have hR:=iC hR (aU aj hI);simp[SE.den,aj,ao];exact arL ds r h hR
theorem amU(ds:List De)(r:Rl)(h:lB ds r)(hR:R8 ds r↔α):Vh.sat ayu CC (iU λn=>n=0↔α) [k0,k1,k2,k3,k4,k5,k6] [dO ds,aR r,x2,x3,x4,x5,x6,x7,x8,x9,bN,bW,cT,cG,cV,gp,dP,eT]:=by
 have hl:=h.aw.1;refine az r.aw.length (λj (_:Unit)=>[iI j]) (λj _=>∀x∈r.aw.take j,(x.op=0->bU ds x.s x.ts.length=ab)) () ?_ ax λj b hj hI=>?_
 .simp[SE.den]
 by_cases aj:j<r.aw.length
 .have hw:=aD aj ai;have hm:=ayy aj;have hs:=λq=>aO (p:=λx:Gl=>x.op=0->bU ds x.s x.ts.length=ab) aj hI q;simp[SE.den,aj,hw,gJ aj,ao];by_cases z:r.aw[j].op=0
  .left;exact⟨z,amO ds h.d r r.aw[j].op r.aw[j].s r.aw[j].ts j ai (λq=>.mk () rfl ai (hs λ_=>q)) λq=>ju hR λm=>by have:=m _ hm z;simp[q]at this⟩
  .right;exact⟨z,.mk () rfl ai (hs λq=>absurd q z)⟩
 .have hR:=iC hR (aU aj hI);simp[SE.den,aj,ao];exact amT ds r h hR
theorem arN(ds:List De)(r:Rl)(h:lB ds r)(hR:R9 ds r↔α):YD.sat ayu CC (iU λn=>n=0↔α) [k0,k1,k2,k3,k4,k5] [dO ds,aR r,x2,x3,x4,x5,x6,x7,x8,x9,bN,bW,cT,cG,cV]:=by
 have hl:=h.av.1;refine az r.av.length (λj (b:Bool)=>[iI j,iB b]) (λj _=>∀x∈r.av.take j,bU ds x.s x.ts.length=ab) af ?_ ax λj b hj hI=>?_
 .simp[SE.den]
 by_cases aj:j<r.av.length
 .have hw:=aD aj ai;have hm:=ayy aj;simp[SE.den,aj,gK aj,ao];exact arF ds h.d r r.av[j].s r.av[j].ts j ai (λq=>.mk ab rfl ai (aO (p:=λx:At=>bU ds x.s x.ts.length=ab) aj hI q)) λq=>ju hR λm=>by have:=m _ hm;simp[q]at this
 .have hR:=iC hR (aU aj hI);simp[SE.den,aj,ao];exact arM ds r h hR
theorem amV(ds:List De)(r:Rl)(h:lB ds r)(hR:R9 ds r↔α):Vi.sat ayu CC (iU λn=>n=0↔α) [k0,k1,k2,k3,k4,k5] [dO ds,aR r,x2,x3,x4,x5,x6,x7,x8,x9,bN,bW,cT,cG,cV,gp]:=by
 have hl:=h.av.1;refine az r.av.length (λj (b:Bool)=>[iI j,iB b]) (λj _=>∀x∈r.av.take j,bU ds x.s x.ts.length=ab) af ?_ ax λj b hj hI=>?_
 .simp[SE.den]
 by_cases aj:j<r.av.length
 .have hw:=aD aj ai;have hm:=ayy aj;simp[SE.den,aj,gK aj,ao];exact amN ds h.d r r.av[j].s r.av[j].ts j ai (λq=>.mk ab rfl ai (aO (p:=λx:At=>bU ds x.s x.ts.length=ab) aj hI q)) λq=>ju hR λm=>by have:=m _ hm;simp[q]at this
 .have hR:=iC hR (aU aj hI);simp[SE.den,aj,ao];exact amU ds r h hR
theorem amW(ds:List De)(r:Rl)(h:lB ds r)(hR:R10 ds r↔α):U8.sat ayu CC (iU λn=>n=0↔α) [k0,k1,k2,k3,k4] [dO ds,aR r,x2,x3,x4,x5,x6,x7,x8,x9,bN,bW,cT,cG]:=by
 have hl:=h.aq.1;refine az r.aq.length (λj (_:Unit)=>[iI j]) (λj _=>∀x∈r.aq.take j,bU ds x.s x.ts.length=ab) () ?_ ax λj b hj hI=>?_
 .simp[SE.den]
 by_cases aj:j<r.aq.length
 .have hw:=aD aj ai;have hm:=ayy aj;simp[SE.den,aj,gK aj,ao];exact arE ds h.d r r.aq[j].s r.aq[j].ts j ai (λq=>.mk () rfl ai (aO (p:=λx:At=>bU ds x.s x.ts.length=ab) aj hI q)) λq=>ju hR λm=>by have:=m _ hm;simp[q]at this
 .have hR:=iC hR (aU aj hI);simp[SE.den,aj,ao];exact arN ds r h hR
theorem amX(ds:List De)(r:Rl)(h:lB ds r)(hR:R10 ds r↔α):Vj.sat ayu CC (iU λn=>n=0↔α) [k0,k1,k2,k3,k4] [dO ds,aR r,x2,x3,x4,x5,x6,x7,x8,x9,bN,bW,cT,cG,cV]:=by
 have hl:=h.aq.1;refine az r.aq.length (λj (_:Unit)=>[iI j]) (λj _=>∀x∈r.aq.take j,bU ds x.s x.ts.length=ab) () ?_ ax λj b hj hI=>?_
 .simp[SE.den]
 by_cases aj:j<r.aq.length
 .have hw:=aD aj ai;have hm:=ayy aj;simp[SE.den,aj,gK aj,ao];exact amM ds h.d r r.aq[j].s r.aq[j].ts j ai (λq=>.mk () rfl ai (aO (p:=λx:At=>bU ds x.s x.ts.length=ab) aj hI q)) λq=>ju hR λm=>by have:=m _ hm;simp[q]at this
 .have hR:=iC hR (aU aj hI);simp[SE.den,aj,ao];exact amV ds r h hR
abbrev NM(r:Rl):Prop:=r.name=[]\/gQ r.name=ab
theorem amY(ds:List De)(r:Rl)(h:lB ds r)(l:List Int)(hl:l.length<=1000000000)(hR:(Es 0 l=aa r.vars/\NM r/\R10 ds r)↔α):Vk.sat ayu CC (iU λn=>n=0↔α) [k0,k1,k2,k3] [dO ds,aR r,x2,x3,x4,x5,x6,x7,x8,x9,bN,iL l]:=by
 have YI:=v83 r.name;refine az l.length (λj (a:Int)=>[iI j,iI a]) (λj a=>0<=a/\a<=j/\Es 0 l=Es a (l.drop j)) 0 ?_ ax λj a hj hI=>?_
 .simp[SE.den]
 obtain⟨zb,nK,GU⟩:=hI;by_cases aj:j<l.length
 .have hw:=aD aj ai;have hwa:ay1.wrap (a+1)=a+1:=dD ai ai;rw[ay5 aj]at GU;simp[SE.den,aj,hw,eF aj,cellsOf,aF];by_cases z1:l[j]<=a
  .right;refine⟨by omega,?_⟩;by_cases z2:l[j]=a
   .left;refine⟨z2,.mk (a+1) (by rw[hwa];rfl) ai ⟨by omega,by omega,?_⟩⟩;rw[GU,Es,if_pos z1,if_pos z2]
   .right;refine⟨z2,.mk a rfl ai ⟨by omega,by omega,?_⟩⟩;rw[GU,Es,if_pos z1,if_neg z2]
  .left;refine⟨by omega,ju hR ?_⟩;rw[GU,Es,if_neg z1];exactλh=>by cases h
 .rw[ay3 ai,Es]at GU;simp[SE.den,aj,aF];by_cases z1:r.vars=a
  .right;refine⟨z1,?_⟩;have hR:=iC hR (by rw[GU,z1]);by_cases z2:r.name=[]
   .left;exact⟨z2,amW ds r h (iC hR (.inl z2))⟩
   .right;refine⟨z2,_,YI,?_⟩;cases hb:gQ r.name<;>simp
    .exact ju hR λm=>by rcases m with m|m;exact z2 m;simp[hb]at m
    exact amX ds r h (iC hR (.inr hb))
  .left;refine⟨z1,ju hR ?_⟩;rw[GU];exactλh=>by cases h;exact z1 rfl
structure Vz(ds:List De)(r:Rl):Prop where
 d:Sm ds
 s:iY r
 n:qG r
theorem Vz.ok{ds:List De}{r:Rl}(h:Vz ds r)(h1:∀a∈r.aq,eZ a=ab)(h2:∀a∈r.av,eZ a=ab)(h3:∀a∈r.aw,eo a=ab)(h4:∀a∈r.aI,eo a=ab):lB ds r:=
 ⟨h.d,h.s,h.n,h.n.for (λa ha=>(ayS.1 ha).elim (λq=>uu (h1 a q)) λq=>uu (h2 a q)) (λa ha=>(ayS.1 ha).elim (λq=>re (h3 a q)) λq=>re (h4 a q))⟩
abbrev R22(ds:List De)(r:Rl):Prop:=Es 0 (dT [r.aq,r.av]++dw [r.aw,r.aI])=aa r.vars/\NM r/\R10 ds r
abbrev R23(ds:List De)(r:Rl):Prop:=(∀a∈r.aI,eo a=ab)/\R22 ds r
abbrev R24(ds:List De)(r:Rl):Prop:=(∀a∈r.aw,eo a=ab)/\R23 ds r
abbrev R25(ds:List De)(r:Rl):Prop:=(∀a∈r.av,eZ a=ab)/\R24 ds r
abbrev R26(ds:List De)(r:Rl):Prop:=(∀a∈r.aq,eZ a=ab)/\R25 ds r
theorem amZ(ds:List De)(r:Rl)(h:Vz ds r)(h1:∀a∈r.aq,eZ a=ab)(h2:∀a∈r.av,eZ a=ab)(h3:∀a∈r.aw,eo a=ab)(hR:R23 ds r↔α):Vl.sat ayu CC (iU λn=>n=0↔α) [k0,k1,k2] [dO ds,aR r,x2,x3,x4,x5,x6]:=by
 have hl:=h.s.b;refine az r.aI.length (λj (b:Bool)=>[iI j,iB b]) (λj _=>∀x∈r.aI.take j,eo x=ab) af ?_ ax λj b hj hI=>?_
 .simp[SE.den]
 by_cases aj:j<r.aI.length
 .have hw:=aD aj ai;have hm:=ayy aj;have VA:=v138 r.aI[j] (h.n.gs _ (azt _ hm));simp[SE.den,aj,hw,gJ aj,ao,aF];refine⟨_,VA,?_⟩;cases hq:eo r.aI[j]<;>simp
  .exact ju hR λm=>by have:=m _ hm;simp[hq]at this
  exact .mk ab rfl ai (aO (p:=λx=>eo x=ab) aj hI hq)
 .have h4:=aU aj hI;have h:=h.ok h1 h2 h3 h4;have hR:=iC hR h4;obtain⟨g1,g2⟩:=OD h;obtain⟨g3,g4⟩:=ai6 h;have hc:=yz (a:=dT [r.aq,r.av]) (b:=dw [r.aw,r.aI]) ai;unfold R22 at hR;generalize dT [r.aq,r.av]=u at g1 g2 hc hR;generalize dw [r.aw,r.aI]=v at g3 g4 hc hR;simp[SE.den,aj,ao,cellsOf];refine⟨_,g2,_,g4,?_⟩;simp[hc];exact amY ds r h (u++v) (by rw[ayC];omega) hR
theorem am0(ds:List De)(r:Rl)(h:Vz ds r)(h1:∀a∈r.aq,eZ a=ab)(h2:∀a∈r.av,eZ a=ab)(hR:R24 ds r↔α):Vm.sat ayu CC (iU λn=>n=0↔α) [k0,k1] [dO ds,aR r,x2,x3,x4,x5]:=by
 have hl:=h.s.g;refine az r.aw.length (λj (_:Unit)=>[iI j]) (λj _=>∀x∈r.aw.take j,eo x=ab) () ?_ ax λj b hj hI=>?_
 .simp[SE.den]
 by_cases aj:j<r.aw.length
 .have hw:=aD aj ai;have hm:=ayy aj;have VA:=v138 r.aw[j] (h.n.gs _ (ay9 _ hm));simp[SE.den,aj,hw,gJ aj,ao,aF];refine⟨_,VA,?_⟩;cases hq:eo r.aw[j]<;>simp
  .exact ju hR λm=>by have:=m _ hm;simp[hq]at this
  exact .mk () rfl ai (aO (p:=λx=>eo x=ab) aj hI hq)
 .have h3:=aU aj hI;simp[SE.den,aj,ao];exact amZ ds r h h1 h2 h3 (iC hR h3)
theorem am1(ds:List De)(r:Rl)(h:Vz ds r)(h1:∀a∈r.aq,eZ a=ab)(hR:R25 ds r↔α):Vn.sat ayu CC (iU λn=>n=0↔α) [k0] [dO ds,aR r,x2,x3]:=by
 have hl:=h.s.h;refine az r.av.length (λj (b:Bool)=>[iI j,iB b]) (λj _=>∀x∈r.av.take j,eZ x=ab) af ?_ ax λj b hj hI=>?_
 .simp[SE.den]
 by_cases aj:j<r.av.length
 .have hw:=aD aj ai;have hm:=ayy aj;have h45:=v45 r.av[j] (h.n.hs _ (azt _ hm));simp[SE.den,aj,hw,gK aj,ao,aF];refine⟨_,h45,?_⟩;cases hq:eZ r.av[j]<;>simp
  .exact ju hR λm=>by have:=m _ hm;simp[hq]at this
  exact .mk ab rfl ai (aO (p:=λx=>eZ x=ab) aj hI hq)
 .have h2:=aU aj hI;simp[SE.den,aj,ao];exact am0 ds r h h1 h2 (iC hR h2)
theorem am2(ds:List De)(r:Rl)(h:Vz ds r)(hR:R26 ds r↔α):Vo.sat ayu CC (iU λn=>n=0↔α) [] [dO ds,aR r,x2]:=by
 have hl:=h.s.h;refine az r.aq.length (λj (_:Unit)=>[iI j]) (λj _=>∀x∈r.aq.take j,eZ x=ab) () ?_ ax λj b hj hI=>?_
 .simp[SE.den]
 by_cases aj:j<r.aq.length
 .have hw:=aD aj ai;have hm:=ayy aj;have h45:=v45 r.aq[j] (h.n.hs _ (ay9 _ hm));simp[SE.den,aj,hw,gK aj,ao,aF];refine⟨_,h45,?_⟩;cases hq:eZ r.aq[j]<;>simp
  .exact ju hR λm=>by have:=m _ hm;simp[hq]at this
  exact .mk () rfl ai (aO (p:=λx=>eZ x=ab) aj hI hq)
 .have h1:=aU aj hI;simp[SE.den,aj,ao];exact am1 ds r h h1 (iC hR h1)
theorem ai8(ds:List De)(r:Rl):(r.aq++r.av≠[]/\R26 ds r)↔yB ds r:=by
 have hw:=λh1 h2=>ai7 (r:=r) (n:=r.vars) (WC h1 h2)
 have hv:VV r↔∀g∈r.aw,∀v∈varsOf g.ts,v∈varsOf (fk (r.aq++r.av)):=by
  rw[<-adG];exact⟨λh v hv=>(QN r v).1 (h v hv),λh v hv=>(QN r v).2 (h v hv)⟩
 constructor
 .rintro⟨h0,h1,h2,h3,h4,h5,h6,h7,h8,h9,Hi,Hj,JF,Xf⟩;have hA:∀a∈r.aq++r.av,eZ a=ab:=λa ha=>(ayS.1 ha).elim (h1 a) (h2 a);have hG:∀a∈r.aw++r.aI,eo a=ab:=λa ha=>(ayS.1 ha).elim (h3 a) (h4 a)
  exact⟨h0,hA,hG,(hw (λa ha=>uu (hA a ha)) (λa ha=>(re (hG a ha)).2)).2 h5,h6,
   λa ha=>(ayS.1 ha).elim (h7 a) (h8 a),λa ha=>(ayS.1 ha).elim (h9 a) (Hi a),Hj,JF,hv.1 Xf⟩
 .rintro⟨h0,hA,hG,h5,h6,hM⟩
  exact⟨h0,λa ha=>hA a (ay9 _ ha),λa ha=>hA a (azt _ ha),λa ha=>hG a (ay9 _ ha),λa ha=>hG a (azt _ ha),
   (hw (λa ha=>uu (hA a ha)) (λa ha=>(re (hG a ha)).2)).1 h5,h6,λa ha=>hM.h a (ay9 _ ha),λa ha=>hM.h a (azt _ ha),
   λa ha=>hM.c a (ay9 _ ha),λa ha=>hM.c a (azt _ ha),hM.g,hM.b,hv.2 hM.v⟩
theorem v84(ds:List De)(r:Rl)(h:Vz ds r):∃n,(n=0↔yB ds r)/\CC 155 af [dO ds,bP r] (iI n):=by
 have h3:=h.s.h;have hg:=h.s.g;have hb:=h.s.b;have hw:ay1.wrap ((r.aq.length:Int)+r.av.length)=r.aq.length+r.av.length:=dD ai ai;refine CC.K7 _ av0 kr (λ_=>kr) (by intro x hx;rcases ayN.1 hx with rfl|hx;exact K5 _;obtain rfl:=ayQ.1 hx;exact fv r) (by rfl) ?_;have hR:=ai8 ds r;generalize yB ds r=α at hR;rw[bx];simp[ahy,SE.den,ao,hw];refine⟨_,ahz ab (.aL []),?_⟩;by_cases hp:0<r.aq.length+r.av.length
 .have bt:r.aq++r.av≠[]:=λe=>by have:=congrArg List.length e;simp at this;simp[this]at hp
  left;refine⟨by omega,?_⟩;left;refine⟨by omega,?_⟩;left;refine⟨by omega,?_⟩;right;refine⟨by omega,?_⟩;exact am2 ds r h (iC hR bt)
 .right;refine⟨by omega,?_⟩;have:r.aq++r.av=[]:=ayZ (by rw[ayC];omega);exact⟨rfl,λo=>(hR.2 o).1 this⟩
end
end
section
def clG(a:List Int):List Gl->Prop
 |[]=>True
 |g::l=>if g.op=3 then False else if g.op=0 then(∀v∈varsOf g.ts,v∈a)/\clG a l
  else if g.op=4 then∃t0 t1,g.ts=[t0,t1]/\t0.k=1/\t0.n∉a/\(∀v∈varsOf [t1],v∈a)/\clG (a++[t0.n]) l
  else clG a l
def ClR(r:Rl):Prop:=clG (jS (r.aq++r.av)) r.aI
theorem v95(t:Tm)(h:WF t):CC 186 af [dm t] (iL (varsOf [t])):=by
 refine CC.tS avm kr (λ_=>kr) (by simpa using kU t) (by rfl) ?_;have hb:=aa5 t h.1 h.2 [] Vr.nil;have e:di [] (fP t)=varsOf [t]:=by show _=di [] (eP [t]);simp[eP]
 rw[e]at hb;rw[bp]at hb⊢;simp[ahf,SE.den,ao,aF,cellsOf];exact⟨_,hb,by simp⟩
section rule
variable{Q:IV->Prop}{k0 k1 k2 k3 k4 k5:List IV->Prop}
end rule
structure OkC(p:Pg):Prop where
 o:wH p
 c:∀r∈p.bc,ClR r
end
section
structure ayq(p:Pg):Prop where
 s:jG p
 f:∀r∈p.bc,fY r
section
variable{Q:IV->Prop}{k0:List IV->Prop}
theorem t32(a b:Int):mK ayu 85 (.aL [iI a,iI b])=ab:=by kernel_rfl
end
end
section
section
variable{Q:IV->Prop}{k0 k1 k2:List IV->Prop}{x0 x1 x2 x3 x4 x5 x6 x7 x8 x9 bN bW:IV}
end
end
section
section
variable{Q:IV->Prop}{k0:List IV->Prop}{D:Prop}
def YJ(ds:List De):Prop:=(∀d∈ds,gQ d.s=ab/\0<=d.n/\d.n<=6)/\∀(i:Nat) (h:i<ds.length),bU (ds.take i) ds[i].s ds[i].n=af
theorem VB{ds:List De}{d:De}:bU ds d.s d.n=ab↔d∈ds:=by
 rw[Ia];refine⟨λ⟨e,h1,h2,h3⟩=>?_,λh=>⟨d,h,rfl,rfl⟩⟩;cases d;cases e;simp only at h2 h3;subst h2;subst h3;exact h1
theorem arO(p:Pg)(h:jG p){x1:IV}(hk:∀n:Int,(n=0↔YJ p.eN)->k0 [iI n]):Yq.sat ayu CC Q [k0] [.agg [dO p.eN,jF p.bc],x1]:=by
 obtain⟨ds,rs⟩:=p;obtain⟨hd,hr,dn,lL,LI⟩:=h;simp only at*
 refine az ds.length (λj (dl:List De)=>[iI j,.aL (dl.map CE)]) (λj dl=>dl=ds.take j/\(∀d∈ds.take j,gQ d.s=ab/\0<=d.n/\d.n<=6)/\∀(i:Nat) (h:i<ds.length),i<j->bU (ds.take i) ds[i].s ds[i].n=af) [] ?_ ⟨rfl,by simp,λ_ _ h=>absurd h ai⟩ λj dl hj hI=>?_
 .simp[SE.den]
 obtain⟨hdl,zb,nK⟩:=hI;by_cases aj:j<ds.length
 .have hw:=aD aj ai;have hme:=ayy aj;have YI:=v83 ds[j].s;have cS:∀n:Int,n≠0->¬YJ ds->k0 [iI n]:=λn h1 h2=>hk n ⟨λh=>absurd h h1,λh=>absurd h h2⟩;simp[SE.den,aj,hw,wb aj,ao,aF];refine⟨_,YI,?_⟩;cases b83:gQ ds[j].s<;>simp
  .exact cS 7 ai λm=>by have:=(m.1 _ hme).1;simp[b83]at this
  by_cases z1:0<=ds[j].n
  rotate_left
  .right;exact⟨by omega,cS 9 ai λm=>z1 (m.1 _ hme).2.1⟩
  left;refine⟨z1,?_⟩;by_cases z2:ds[j].n<=6
  rotate_left
  .left;exact⟨by omega,cS 9 ai λm=>z2 (m.1 _ hme).2.2⟩
  right;refine⟨by omega,?_⟩;by_cases hm:ds[j]∈dl
  .obtain⟨q,g1,g2⟩:=(Yk dl ds[j]).1 hm;simp only[iS,iI]at g1;simp[g1,g2,CE];exact cS 8 ai λm=>by have:=m.2 j aj;rw[VB.2 (hdl▸hm)]at this;cases this
  .have g1:=(Yk dl ds[j]).2 hm;simp only[iS,iI]at g1
   have hf:bU (ds.take j) ds[j].s ds[j].n=af:=by
    cases hb:bU (ds.take j) ds[j].s ds[j].n with
    |false=>rfl
    |true=>exact absurd (hdl▸VB.1 hb) hm
   simp[g1];refine .mk (dl++[ds[j]]) (by simp[CE]) ai ⟨by rw[ayE aj,hdl],aO aj zb ⟨b83,z1,z2⟩,λi hi oM=>?_⟩;rcases Nat.lt_succ_iff_lt_or_eq.1 oM with oM|rfl
   .exact nK i hi oM
   .exact hf
 .have hD:YJ ds:=⟨aU aj zb,λi hi=>nK i hi ai⟩;simp[SE.den,aj,aF,ao];right;exact⟨by omega,hk 0 ⟨λ_=>hD,λ_=>rfl⟩⟩
theorem v32(p:Pg)(h:jG p):∃a n,(n=0↔wH p)/\CC 85 af [aW p] (.aL [iI a,iI n]):=by
 refine CC.alZ _ avM kr t32 (by simpa using eO p) (by rfl) ?_;show aa3.sat _ _ _ _ [.agg [dO p.eN,jF p.bc]];have hd:=h.d;have hr:=h.r;have MW:=λm:wH p=>(⟨m.d,m.u⟩:YJ p.eN);have MX:=λm:wH p=>m.r;have hO:=λ(a:YJ p.eN) b=>(⟨a.1,a.2,b⟩:wH p);generalize wH p=α at MW MX hO⊢;simp[aa3,SE.den,ao];unfold Ys;refine fA (λvs=>∃n:Int,vs=[iI n]/\(n=0↔YJ p.eN)) ?_ ?_
 .simp[SE.den];refine⟨_,ahz ab (.aL []),?_⟩;by_cases z:30<p.eN.length
  .omega
  .right;exact⟨by omega,arO p h λn hn=>⟨n,rfl,hn⟩⟩
 .rintro vs ⟨n,rfl,hn⟩;refine⟨rfl,?_⟩;simp[SE.den];by_cases z:n=0
  rotate_left
  .left;exact⟨z,by simp[z];exactλo=>z (hn.2 (MW o))⟩
  right;refine⟨z,?_⟩;unfold Yr;refine az p.bc.length (λi (_:Unit)=>[iI i]) (λi _=>∀r∈p.bc.take i,yB p.eN r) () ?_ ax λi _ hi hI=>?_
  .simp[SE.den]
  by_cases aj:i<p.bc.length
  .have hw:=aD aj ai;have hm:=ayy aj;obtain⟨m,hF,hb⟩:=v84 p.eN p.bc[i] ⟨by unfold Sm;omega,h.rs _ hm,h.rn _ hm⟩;rw[bx]at hb;simp[SE.den,aj,hw,q8 aj,ao];refine⟨_,hb,?_⟩;simp;by_cases z:m=0
   .right;exact⟨z,.mk () rfl ai (aO aj hI (hF.1 z))⟩
   .left;exact⟨z,by simp[z];exactλo=>z (hF.2 (MX o _ hm))⟩
  .simp[SE.den,aj];exact hO (hn.1 z) (aU aj hI)
end
section
variable{Q:IV->Prop}{k0 k1 k2:List IV->Prop}{x0 x1 x2 x3 x4 x5 x6 x7 x8 x9 bN bW:IV}
end
end
end Go.Proofs.YtabefplkfkfdfaaGreat
namespace Go.Proofs.YtabefplkfkfdfaaGreat
open Go Go.RowKit Go.Shelf Go.Sort
attribute [local go_sem] Oper.semAt_some
open Go.Ev
end Go.Proofs.YtabefplkfkfdfaaGreat
namespace Go.Proofs.YtabefplkfkfdfaaGreat
open Go Go.Ev
section
abbrev Asc(l:List Int):Prop:=l.Pairwise (·<·)
section
variable{Q:IV->Prop}{k0 k1 k2:List IV->Prop}
end
end
def JOk(l:List Int):Prop:=(∀x∈l,1<=x/\x<=64)/\Asc l
structure arP(ds:List De)(given:Int)(f:Fa):Prop where
 a:eZ f.a=ab
 v:varsOf f.a.ts=[]
 d:bU ds f.a.s f.a.ts.length=ab
 n:f.j≠[]
 j:JOk f.j
 g:∀j∈f.j,j<=given
structure axD(ds:List De)(next given:Int)(l:List Fa):Prop where
 i:∀f∈l,1<=f.id/\f.id<next
 f:∀f∈l,arP ds given f
 s:afA l
end Go.Proofs.YtabefplkfkfdfaaGreat
namespace Go.Proofs.YtabefplkfkfdfaaGreat
end Go.Proofs.YtabefplkfkfdfaaGreat
namespace Go.Proofs.YtabefplkfkfdfaaGreat
open Go Go.Ev
section
section
variable{K:List (List IV->Prop)}{x0 x1 x2 x3 x4 x5 x6 x7 x8 x9 bN bW cT cG cV gp dP eT g_ gj iZ ow wG wF Vq:IV}{Q':IV->Prop}
variable{k0 k1 k2 k3 k4 k5:List IV->Prop}
end
end
section
section
variable{k0 k1 k2:List IV->Prop}{x0 x1 x2 x3 x4 x5 x6 x7 x8 bN:IV}
end
end
section
structure ayr(cs:List (Int×Int))(g:Int->Int):Prop where
 n:(cs.map (·.1)).Nodup
 v:∀c∈cs,c.2=g c.1
 k:∀k,k∉cs.map (·.1)->g k=0
section
variable{K:List (List IV->Prop)}{x0 x1 x2 x3 x4 x5 x6 x7 x8 x9 bN bW cT cG cV gp dP eT g_ gj iZ ow wG wF Vq:IV}{Q':IV->Prop}
variable{k0 k1 k2 k3 k4 k5:List IV->Prop}
end
end
theorem afN(a b:List Int)(hl:Sm a):CC 93 ab [iL a,iL b] (iB (a==b)):=by
 refine CC.dJ arv kr (λ_=>kr) ax (by rfl) ?_;generalize hS:(a==b)=S;simp[adw,SE.den];by_cases cn:a.length=b.length
 .right;simp[cn];unfold U1;refine az a.length (λi (_:Unit)=>[iI i]) (λi _=>a.take i=b.take i) () ?_ ax λi _ hi hI=>?_
  .simp[SE.den]
  by_cases aj:i<a.length
  .have WL:i<b.length:=ai;have hw:=aD aj hl;simp[SE.den,aj,hw,eF aj,eF WL,aF];by_cases h:a[i]=b[i]
   .right;exact⟨h,.mk () rfl ai (by rw[ayE aj,ayE WL,hI,h])⟩
   .left;refine⟨h,?_⟩;subst S;simp;exactλe=>h (by subst e;rfl)
  .rw[ayF ai,ayF ai]at hI;simp[SE.den,aj,aF];subst S;simp[hI]
 .left;refine⟨by omega,?_⟩;simp[aF];subst S;simp;exactλe=>cn (by rw[e])
structure Ac where
 s:List UInt8
 n:Int
 ps:List Int
 deriving DecidableEq
def oi(a:Ac):IV:=.agg [iS a.s,iI a.n,iL a.ps]
abbrev fL(l:List Ac):IV:=.tree 3 (l.map oi)
theorem u5(a:Ac):Pure (oi a):=.agg _ ax
@[simp] theorem VC(l:List Ac):Pure (fL l):=kV 3 oi (λa=>⟨_,rfl,by simp⟩) l
theorem Gi{l:List Ac}{i:Nat}(h:i<l.length):cz 3 (fL l) (iI (i:Nat))=aa (.agg [iS l[i].s,iI l[i].n,iL l[i].ps]):=ef (by simp[h,oi]) rfl
def Gj(a:Ac):List Ac->Nat->Int
 |[],_=> -1
 |x::l,i=>if x=a then i else Gj a l (i+1)
def ux(l:List Ac)(a:Ac):Int:=Gj a l 0
theorem YK{a:Ac}{l:List Ac}{i:Nat}(h:i<l.length):Gj a (l.drop i) i=if l[i]=a then(i:Int)else Gj a (l.drop (i+1)) (i+1):=by
 rw[ay5 h,Gj]
structure Eu(l:List Ac):Prop where
 len:l.length<=30
 p:∀a∈l,a.ps.length<=8
theorem CC.VD{n:Nat}{new:Bool}{f:FuncId}{c9:ak}{args:List IV}{cfg:eS}{s:Int}(he:aE ayu cfg n new f=c9)(hl:(ayu.funcs[f]?).map (·.params.size)=aa args.length)(ht:∀z,mK ayu f z=ab)(hp:∀x∈args,Pure x)(hn:noTwo c9=ab)
 (hs:c9.sat ayu CC (iU (·=s)) [] args):CC f new args (iI s):=by
 obtain⟨_,rfl,h⟩:=CC.K7 (·=s) he hl ht hp hn hs;exact h
theorem ai9{P:Program}{f:FuncId}{xs:List IV}{z:IV}(h:dX P af ab f xs z):dX P af af f xs z:=by
 intro M w us hM hr;refine(h M w us hM hr).mono λe w' hR=>?_;cases e with
 |panicked ch=>exact absurd hR.1 ax
 |outgrown=>exact hR.elim
 |returned u=>
  obtain⟨_,M',h1,h2,_,h4,h5,h6,h7,h8,h9⟩:=hR
  have u_:∀b c,M' b=aa c->w.heap.size<=b:=λb c hb=>by
   rcases h2 b c hb with⟨h,_⟩|h
   .cases h
   .exact h
  refine⟨rfl,λb=>if b<w.heap.size then M b else M' b,λb c hb=>?_,λb c hb=>?_,λ_ b c hb=>?_,Rv.mono (Z:=fW M') (aJ:=fW λb=>if b<w.heap.size then M b else M' b) ⟨λ_ _ _ h=>h,λb c hb=>?_⟩ h4,h5,h6,h7,h8,h9⟩
  .simp only at hb;split at hb
   .rename_i aj;obtain⟨e,f,hh⟩:=hM b c hb;exact⟨e,f,by rw[h9 b aj];exact hh⟩
   .exact h1 b c hb
  .simp only at hb;split at hb
   .exact .inl ⟨rfl,hb⟩
   .exact .inr ai
  .simp only;rw[if_pos (hM.lt hb)];exact hb
  .have o8:M' b=aa c:=hb;show(if _ then _ else _)=_;rw[if_neg (by have:=u_ b c o8;omega)];exact o8
theorem CC.aba{f:FuncId}{xs:List IV}{z:IV}(hf:f<ayu.funcs.size)(h:CC f ab xs z):CC f af xs z:=
 CC.plain hf (ai9 (h.1 hf).1) (h.1 hf).2.1 (h.1 hf).2.2
theorem k93(a b:List Int)(hl:Sm a):CC 93 af [iL a,iL b] (iB (a==b)):=(afN a b hl).aba (s8 rfl)
theorem av4(a b:Ac)(ha:Sm a.ps):CC 169 af [oi a,oi b] (iB (decide (a=b))):=by
 refine CC.dJ aqA kr (λ_=>kr) (by intro x hx;rcases ayN.1 hx with rfl|hx;exact u5 a;obtain rfl:=ayQ.1 hx;exact u5 b) (by rfl) ?_;obtain⟨s,n,p⟩:=a;obtain⟨s',n',p'⟩:=b;have h1:=k65 p p' ha;simp[ag3,oi,SE.den,ao];by_cases e1:s=s'
 rotate_left
 .simp[e1]
 by_cases e2:n=n'
 rotate_left
 .simp[e1,e2]
 simp[e1,e2];refine⟨_,h1,?_⟩;simp
theorem av5(l:List Ac)(a:Ac)(hl:Eu l):CC 107 af [fL l,oi a] (iI (ux l a)):=by
 refine CC.VD aqz kr (λ_=>kr) (by intro x hx;rcases ayN.1 hx with rfl|hx;exact VC l;obtain rfl:=ayQ.1 hx;exact u5 a) (by rfl) ?_;have ha:oi a=.agg [iS a.s,iI a.n,iL a.ps]:=rfl;have QK:=hl.len;simp[ag2,ha,SE.den,ao];unfold XW;refine az l.length (λi (_:Unit)=>[iI i]) (λi _=>ux l a=Gj a (l.drop i) i) () ?_ (by simp[ux]) λi _ hi hI=>?_
 .simp[SE.den]
 by_cases aj:i<l.length
 .have hw:=aD aj ai;have afO:=av4 l[i] a (by have:=hl.p _ (ayy aj);unfold Sm;omega);rw[ha]at afO;simp only[oi]at afO;rw[YK aj]at hI;simp[SE.den,aj,hw,Gi aj,ao];refine⟨_,afO,?_⟩;by_cases h1:l[i]=a
  .rw[if_pos h1]at hI;simp[h1,hI]
  .rw[if_neg h1]at hI;simp[h1];exact .mk () rfl ai hI
 .rw[ay3 ai]at hI;simp[SE.den,aj,hI,Gj]
theorem av6(l:List Ac)(a:At)(ps:List Int)(hl:Eu l):CC 116 af [fL l,jL a,iL ps] (iI (ux l ⟨a.s,a.ts.length,ps⟩)):=by
 refine CC.VD aqK kr (λ_=>kr) (by intro x hx;rcases ayN.1 hx with rfl|hx;exact VC l;rcases ayN.1 hx with rfl|hx;exact uV a;obtain rfl:=ayQ.1 hx;simp) (by rfl) ?_;have ha:jL a=.agg [iS a.s,iT a.ts]:=rfl;have QK:=hl.len;simp[ag7,ha,SE.den,ao];unfold X5;refine az l.length (λi (_:Unit)=>[iI i]) (λi _=>ux l ⟨a.s,a.ts.length,ps⟩=Gj ⟨a.s,a.ts.length,ps⟩ (l.drop i) i) () ?_ (by simp[ux]) λi _ hi hI=>?_
 .simp[SE.den]
 by_cases aj:i<l.length
 .have hw:=aD aj ai;have VE:=k93 l[i].ps ps (by have:=hl.p _ (ayy aj);unfold Sm;omega);rw[YK aj]at hI;simp[SE.den,aj,hw,Gi aj,ao];by_cases e1:l[i].s=a.s
  rotate_left
  .rw[if_neg (λh=>e1 (by rw[h]))]at hI;simp[e1];exact .mk () rfl ai hI
  by_cases e2:l[i].n=a.ts.length
  rotate_left
  .rw[if_neg (λh=>e2 (by rw[h]))]at hI;simp[e1,e2];exact .mk () rfl ai hI
  simp[e1,e2];refine⟨_,VE,?_⟩;by_cases e3:l[i].ps=ps
  .rw[if_pos (by cases Xx:l[i];simp_all)]at hI;simp[e3,hI]
  .rw[if_neg (λh=>e3 (by rw[h]))]at hI;simp[e3];exact .mk () rfl ai hI
 .rw[ay3 ai]at hI;simp[SE.den,aj,hI,Gj]
section
structure Part(p:Pg)(x:Pn)(k i n:Nat)(r:Rl)(a:At)(ps:List Int):Prop where
 oc:x.o.r=i
 ru:p.bc[i]?=aa r
 od:x.aH[k]?=aa (n:Int)
 hd:(r.aq++r.av)[n]?=aa a
 kn:x.cM[k]?=aa ps
section
variable{p:Pg}{x:Pn}{k i n:Nat}{r:Rl}{a:At}{ps:List Int}
theorem Gk(p:Pg)(x:Pn)(k:Nat):∀y∈[aW p,aZ x,iI k],Pure y:=by
 intro y hy;rcases ayN.1 hy with rfl|hy
 .exact eO p
 rcases ayN.1 hy with rfl|hy
 .exact pe x
 obtain rfl:=ayQ.1 hy;simp
theorem am3(hp:jG p)(h:Part p x k i n r a ps):CC 106 af [aW p,aZ x,iI k] (.aL [jL a,iL ps,iB ab]):=by
 refine CC.of aqy kr kr (Gk p x k) (.aL _ (by simp[uV])) ?_;obtain⟨hi,gS⟩:=ayw.1 h.ru;obtain⟨hk,bu⟩:=ayw.1 h.od;obtain⟨hn,zf⟩:=ayw.1 h.hd;obtain⟨qu,y_⟩:=ayw.1 h.kn;have lL:=(hp.rs r (gS▸ayy hi)).h;have GV:=Qp r ai;rw[bx]at GV;have hN:aZ x=.agg [iI i,iI x.o.h,iB x.o.k,iL x.aH,bg x.cM,bg x.cj]:=by rw[aZ,h.oc]
 have hP:aW p=.agg [dO p.eN,jF p.bc]:=rfl;have hR:=q8 hi;rw[gS]at hR;have hO:=eF hk;rw[bu]at hO;have hA:=gK hn;rw[zf]at hA;have hK:=mV qu;rw[y_]at hK;rw[hN,hP];generalize r.aq++r.av=hs at*
 simp[ag1,SE.den,ao,hk,hi,hR];refine⟨_,GV,?_⟩;simp[bu,hn,qu,hK,hA,show¬x.cM.length<=k by omega,jL]
theorem am4(hp:jG p)(h:Part p x k i n r a ps):CC 115 af [aW p,aZ x,iI k] (.aL [jL a,iL ps,iB ab]):=by
 refine CC.of aqJ kr kr (Gk p x k) (.aL _ (by simp[uV])) ?_;obtain⟨hi,gS⟩:=ayw.1 h.ru;obtain⟨hk,bu⟩:=ayw.1 h.od;obtain⟨hn,zf⟩:=ayw.1 h.hd;obtain⟨qu,y_⟩:=ayw.1 h.kn;have lL:=(hp.rs r (gS▸ayy hi)).h;have Eo:=Yt r ai;rw[bx]at Eo;have hN:aZ x=.agg [iI i,iI x.o.h,iB x.o.k,iL x.aH,bg x.cM,bg x.cj]:=by rw[aZ,h.oc]
 have hP:aW p=.agg [dO p.eN,jF p.bc]:=rfl;have hR:=q8 hi;rw[gS]at hR;have hO:=eF hk;rw[bu]at hO;have hA:=gK hn;rw[zf]at hA;have hK:=mV qu;rw[y_]at hK;rw[hN,hP];generalize r.aq++r.av=hs at*
 simp[ag6,SE.den,ao,hk,hi,hR];refine⟨_,Eo,?_⟩;simp[bu,hn,qu,hK,hA,show¬x.cM.length<=k by omega,jL]
theorem Lf(p:Pg)(acc:List Ac)(x:Pn)(k:Nat):∀y∈[aW p,fL acc,aZ x,iI k],Pure y:=by
 intro y hy;rcases ayN.1 hy with rfl|hy
 .exact eO p
 rcases ayN.1 hy with rfl|hy
 .simp
 rcases ayN.1 hy with rfl|hy
 .exact pe x
 obtain rfl:=ayQ.1 hy;simp
theorem k42(hp:jG p)(h:Part p x k i n r a ps)(acc:List Ac)(hc:Eu acc):CC 42 af [aW p,fL acc,aZ x,iI k] (iI (ux acc ⟨a.s,a.ts.length,ps⟩)):=by
 refine CC.VD au8 kr (λ_=>kr) (Lf p acc x k) (by rfl) ?_;have av7:=am3 hp h;have av8:=av5 acc ⟨a.s,a.ts.length,ps⟩ hc;have hN:aZ x=.agg [iI x.o.r,iI x.o.h,iB x.o.k,iL x.aH,bg x.cM,bg x.cj]:=rfl;have hP:aW p=.agg [dO p.eN,jF p.bc]:=rfl;rw[hN,hP]at*
 simp[alq,SE.den,ao];refine⟨_,av7,?_⟩;simp[jL];refine⟨_,av8,?_⟩;simp
theorem k97(hp:jG p)(h:Part p x k i n r a ps)(acc:List Ac)(hc:Eu acc):CC 97 af [aW p,fL acc,aZ x,iI k] (iI (ux acc ⟨a.s,a.ts.length,ps⟩)):=by
 refine CC.VD avb kr (λ_=>kr) (Lf p acc x k) (by rfl) ?_;have VF:=am4 hp h;have av9:=av6 acc a ps hc;have hN:aZ x=.agg [iI x.o.r,iI x.o.h,iB x.o.k,iL x.aH,bg x.cM,bg x.cj]:=rfl;have hP:aW p=.agg [dO p.eN,jF p.bc]:=rfl;rw[hN,hP]at*
 simp[alv,SE.den,ao];refine⟨_,VF,?_⟩;simp[jL];refine⟨_,av9,?_⟩;simp
end
end
section
def A7(ts:List Tm)(v:Int):List Tm:=if 0<=v then(match ts[v.toNat]? with
 |some t=>[t]
 |none=>[])else[]
def mH(ts:List Tm)(ps:List Int):List Tm:=ps.flatMap (A7 ts)
theorem afP(ts:List Tm)(v:Int):(A7 ts v).length<=1:=by
 unfold A7;split
 .split<;>simp
 .simp
theorem Gp(ts:List Tm):∀ps:List Int,(mH ts ps).length<=ps.length
 |[]=>by simp[mH]
 |v::ps=>by
  have h1:=Gp ts ps;have h2:=afP ts v;unfold mH at h1⊢;rw[aAm,ayC,ay6];omega
theorem QP{ts:List Tm}{ps:List Int}{i:Nat}(h:i<ps.length):mH ts (ps.take (i+1))=mH ts (ps.take i)++A7 ts ps[i]:=by
 rw[ayE h];unfold mH;rw[aA3];simp
section
variable{p:Pg}{x:Pn}{k i n:Nat}{r:Rl}{a:At}{ps:List Int}
theorem k98(hp:jG p)(h:Part p x k i n r a ps)(hl:ps.length<=400):CC 98 af [aW p,aZ x,iI k] (iT (mH a.ts ps)):=by
 refine CC.of avc kr kr (Gk p x k) ax ?_;have VF:=am4 hp h;have hN:aZ x=.agg [iI x.o.r,iI x.o.h,iB x.o.k,iL x.aH,bg x.cM,bg x.cj]:=rfl;have hP:aW p=.agg [dO p.eN,jF p.bc]:=rfl;rw[hN,hP]at*
 simp[alw,SE.den,ao];refine⟨_,VF,?_⟩;simp[jL];unfold acR;refine az ps.length (λi (acc:List Tm)=>[iI i,iT acc]) (λi acc=>acc=mH a.ts (ps.take i)) [] ?_ (by simp[mH]) λi acc hi hI=>?_
 .simp[SE.den]
 by_cases aj:i<ps.length
 .have hw:=aD aj ai;have fF:=Gp a.ts (ps.take i);rw[<-hI]at fF;simp only[azq]at fF;have bI:=QP (ts:=a.ts) aj;rw[<-hI]at bI;simp[SE.den,aj,hw,eF aj,ao];by_cases h0:0<=ps[i]
  rotate_left
  .right;refine⟨by omega,.mk _ rfl ai (by rw[bI];simp[A7,h0])⟩
  left;refine⟨h0,?_⟩;by_cases h1:ps[i]<a.ts.length
  rotate_left
  .right;refine⟨by omega,.mk _ rfl ai (by
    rw[bI];simp only[A7,if_pos h0];rw[azU ai];simp)⟩
  left;refine⟨h1,?_⟩;have jv:ps[i]=((ps[i].toNat:Nat):Int):=ai;have bJ:ps[i].toNat<a.ts.length:=ai;have hT:=ku bJ;rw[<-jv,bp]at hT;simp[hT,cellsOf]
  have hc:dz 4 56 (iT acc) (.tree 4 [.agg [iI a.ts[ps[i].toNat].k,iI a.ts[ps[i].toNat].n,iS a.ts[ps[i].toNat].s,iT a.ts[ps[i].toNat].ts]])=aa (iT (acc++[a.ts[ps[i].toNat]])):=by
   have:=CB (a:=acc) (b:=[a.ts[ps[i].toNat]]) (by simp;omega);rw[<-this];show _=dz 4 56 _ (.tree 4 [dm _]);rw[bp]
  refine⟨_,hc,.mk _ rfl ai ?_⟩;rw[bI];simp[A7,h0,ayv bJ]
 .simp[SE.den,aj];rw[hI,ayF ai]
theorem av_(hp:jG p)(h:Part p x k i n r a ps)(hl:ps.length<=400):CC 108 af [aW p,aZ x,iI k] (iT (mH a.ts ps)):=by
 refine CC.of aqx kr kr (Gk p x k) ax ?_;have VF:=am3 hp h;have hN:aZ x=.agg [iI x.o.r,iI x.o.h,iB x.o.k,iL x.aH,bg x.cM,bg x.cj]:=rfl;have hP:aW p=.agg [dO p.eN,jF p.bc]:=rfl;rw[hN,hP]at*
 simp[ag0,SE.den,ao];refine⟨_,VF,?_⟩;simp[jL];unfold XV;refine az ps.length (λi (acc:List Tm)=>[iI i,iT acc]) (λi acc=>acc=mH a.ts (ps.take i)) [] ?_ (by simp[mH]) λi acc hi hI=>?_
 .simp[SE.den]
 by_cases aj:i<ps.length
 .have hw:=aD aj ai;have fF:=Gp a.ts (ps.take i);rw[<-hI]at fF;simp only[azq]at fF;have bI:=QP (ts:=a.ts) aj;rw[<-hI]at bI;simp[SE.den,aj,hw,eF aj,ao];by_cases h0:0<=ps[i]
  rotate_left
  .right;refine⟨by omega,.mk _ rfl ai (by rw[bI];simp[A7,h0])⟩
  left;refine⟨h0,?_⟩;by_cases h1:ps[i]<a.ts.length
  rotate_left
  .right;refine⟨by omega,.mk _ rfl ai (by
    rw[bI];simp only[A7,if_pos h0];rw[azU ai];simp)⟩
  left;refine⟨h1,?_⟩;have jv:ps[i]=((ps[i].toNat:Nat):Int):=ai;have bJ:ps[i].toNat<a.ts.length:=ai;have hT:=ku bJ;rw[<-jv,bp]at hT;simp[hT,cellsOf]
  have hc:dz 4 56 (iT acc) (.tree 4 [.agg [iI a.ts[ps[i].toNat].k,iI a.ts[ps[i].toNat].n,iS a.ts[ps[i].toNat].s,iT a.ts[ps[i].toNat].ts]])=aa (iT (acc++[a.ts[ps[i].toNat]])):=by
   have:=CB (a:=acc) (b:=[a.ts[ps[i].toNat]]) (by simp;omega);rw[<-this];show _=dz 4 56 _ (.tree 4 [dm _]);rw[bp]
  refine⟨_,hc,.mk _ rfl ai ?_⟩;rw[bI];simp[A7,h0,ayv bJ]
 .simp[SE.den,aj];rw[hI,ayF ai]
end
end
theorem ai_{P:Program}{f:FuncId}{xs:List IV}{v:Value}(h:dX P af af f xs (.raw v)):dX P af ab f xs (.raw v):=by
 intro M w us hM hr;refine(h M w us hM hr).mono λe w' hR=>?_;cases e with
 |panicked ch=>exact absurd hR.1 ax
 |outgrown=>exact hR.elim
 |returned u=>
  obtain⟨_,M',h1,h2,_,h4,h5,h6,h7,h8,h9⟩:=hR;refine⟨rfl,λ_=>ah,λb c hb=>(by cases hb),λb c hb=>(by cases hb),λhc=>(by cases hc),?_,h5,h6,h7,h8,h9⟩;cases h4;exact .raw _
theorem CC.CM{f:FuncId}{xs:List IV}{v:Value}(hf:f<ayu.funcs.size)(h:CC f af xs (.raw v)):CC f ab xs (.raw v):=
 CC.plain hf (ai_ (h.1 hf).1) (h.1 hf).2.1 (h.1 hf).2.2
abbrev Gq:IV:=.raw (.slice ah 0 0)
theorem d11{q:IV}:iO 11 Gq q=aa (iB ab):=by
 unfold iO;rfl
theorem arQ(t:Tm)(jZ:Sm t.ts)(hk:fP t=[])(ih:∀u∈t.ts,fP u=[]->CC 185 af [Gq,dm u] Gq):CC 185 af [Gq,dm t] Gq:=by
 have aj:185<ayu.funcs.size:=s8 rfl;refine CC.plain aj (dX.ao3 (xs:=[dm t]) mixed qZ alx kr (by intro x hx;obtain rfl:=ayQ.1 hx;exact kU t) ?_) ax kr;have Ds:=aaV t;have fF:(b_ t).length<=9223372036854775807:=by unfold b_;split<;>simp[jZ]
 have k1:t.k≠1:=λh=>by obtain⟨k,n,s,ts⟩:=t;simp only[Tm.k]at h;simp[fP,h]at hk
 rw[QA k1]at hk
 have WS:∀u∈b_ t,CC 185 af [Gq,dm u] Gq:=λu hu=>ih u (q0 hu) (by
  unfold eP at hk;exact aAu.1 hk _ (azb.2 ⟨u,hu,rfl⟩))
 rw[bp]at Ds⊢;simp[acS,SE.den,ao];right;refine⟨k1,_,Ds,?_⟩;simp;unfold Ul;refine az (b_ t).length (λi (_:Unit)=>[iI i]) (λ_ _=>True) () ?_ trivial λi _ hi _=>?_
 .simp[SE.den]
 by_cases aj:i<(b_ t).length
 .have hw:=aD aj fF;have hb:=WS (b_ t)[i] (ayy aj);rw[bp]at hb;simp[SE.den,aj,hw,ku aj,bp,ao];refine⟨_,hb,?_⟩;simp[d11];exact .mk () rfl ai trivial
 .simp[SE.den,aj]
theorem am5:∀t:Tm,mZ t->fP t=[]->CC 185 af [Gq,dm t] Gq
 |.mk k n s ts,h,hk=>arQ _ ((rW _).1 h).1 hk λu hu=>am5 u (((rW _).1 h).2 u hu)
 decreasing_by simp[Tm.ts]at hu;have:=List.sizeOf_lt_of_mem hu;simp;omega
theorem afQ{ts:List Tm}(h:varsOf ts=[]):∀t∈ts,fP t=[]:=by
 have:eP ts=[]:=List.eq_nil_iff_forall_not_mem.2 λv hv=>by
  have:=jt.2 hv;rw[h]at this;cases this
 intro t ht;unfold eP at this;exact aAu.1 this _ (azb.2 ⟨t,ht,rfl⟩)
theorem arR(ts:List Tm)(jZ:Sm ts)(hw:∀t∈ts,mZ t/\dA t)(h0:varsOf ts=[]):Un.sat ayu CC (·=IV.tree 1 []) [] [iT ts]:=by
 have ho:=afQ h0;simp[Un,SE.den];unfold Um;refine az ts.length (λi (_:Unit)=>[iI i]) (λ_ _=>True) () ?_ trivial λi _ hi _=>?_
 .simp[SE.den]
 by_cases aj:i<ts.length
 .have mE:=aD aj jZ;have hb:=am5 ts[i] (hw _ (ayy aj)).1 (ho _ (ayy aj));rw[bp]at hb;simp[SE.den,aj,mE,ku aj,bp,ao];refine⟨_,hb,?_⟩;simp[d11];exact .mk () rfl ai trivial
 .simp[SE.den,aj]
theorem arS(ts:List Tm)(jZ:Sm ts)(hw:∀t∈ts,mZ t/\dA t):Up.sat ayu CC (·=iL (varsOf ts)) [] [iT ts]:=by
 simp[Up,SE.den];unfold Uo;refine az ts.length (λi (a:List Int)=>[iI i,iL a]) (λi a=>Vr a/\a=di [] (eP (ts.take i))) [] ?_ ⟨Vr.nil,rfl⟩ λi a hi hI=>?_
 .simp[SE.den]
 by_cases aj:i<ts.length
 .have mE:=aD aj jZ;have hf:=hw _ (ayy aj);have hb:=aa5 ts[i] hf.1 hf.2 a hI.1;rw[bp]at hb;simp[SE.den,aj,mE,ku aj,bp,ao,aF,cellsOf];obtain⟨h1,rfl⟩:=hI;refine⟨_,hb,.mk _ rfl ai ⟨h1.di (yA _ hf.2),by rw[H_ aj,me]⟩⟩
 .obtain⟨h1,h2⟩:=hI;rw[ayF ai]at h2;simp[SE.den,aj,cellsOf,aF];subst a;rfl
theorem ahA:bY ayu 140=1:=by kernel_rfl
theorem arT(ts:List Tm)(jZ:Sm ts)(hw:∀t∈ts,mZ t/\dA t):oC ayu (bY ayu 140) 140 [iT ts] ((varsOf ts).map iI):=by
 have h1:=ahA;by_cases hp:varsOf ts=[]
 .exact .lT (nm:=ab) mixed qZ aly kr ax (by rw[h1];exact q_ _) (CK _) ax (by rw[h1,hp];exact arR ts jZ hw hp)
 .exact .lT (nm:=af) mixed qZ alz kr ax (by rw[h1];exact q_ _) (CK _) (λ_=>by simpa using hp) (by rw[h1];exact arS ts jZ hw)
theorem abb(new:Bool)(ts:List Tm)(jZ:Sm ts)(hw:∀t∈ts,mZ t/\dA t):CC 1364 new [iT ts] (iL (varsOf ts)):=by
 have h:=p_.fresh (new:=new) (s8 rfl) (arT ts jZ hw);rw[eE,ahA]at h;unfold CC;rw[eE];exact h
section
def iD:List Int->List Gl->Bool
 |_,[]=>ab
 |vs,g::l=>eo g&&(if g.op=1 then iD vs l else decide (g.op=4)&&(match g.ts with
  |t::_=>decide (t.k=1)&&decide (t.n∉vs)&&iD (vs++[t.n]) l
  |[]=>af))
theorem QQ{l:List Gl}{i:Nat}(h:i<l.length)(vs:List Int):iD vs (l.drop i)=(eo l[i]&&(if l[i].op=1 then iD vs (l.drop (i+1))else decide (l[i].op=4)&&(match l[i].ts with
 |t::_=>decide (t.k=1)&&decide (t.n∉vs)&&iD (vs++[t.n]) (l.drop (i+1))
 |[]=>af))):=by
 rw[ay5 h,iD]
def nL(r:Rl):List Int:=varsOf (fk (r.aq++r.av))
theorem nT{g:Gl}(h:eo g=ab)(h4:g.op=4):∃t ts,g.ts=t::ts:=by
 have h1:=(re h).1 ai;rw[h4]at h1;cases hg:g.ts with
 |nil=>rw[hg]at h1;simp[lK]at h1
 |cons t ts=>exact⟨t,ts,rfl⟩
section
variable{k0:List IV->Prop}
theorem arU{Q:IV->Prop}(r:Rl)(h:iY r)(hf:fY r)(hk:k0 [iL (nL r)]):Uj.sat ayu CC Q [k0] [bP r,dr (r.aq++r.av)]:=by
 have hl:=h.h;have h1:=h.hs;have h2:=hf.hs;rw[<-ayC]at hl;unfold nL at hk;generalize r.aq++r.av=hs at hk hl h1 h2⊢;unfold Uj;refine az hs.length (λi (a:List Tm)=>[iI i,iT a]) (λi a=>a=fk (hs.take i)/\a.length<=8*i/\∀t∈a,WF t) [] ?_ (by simp[fk]) λi a hi hI=>?_
 .simp[SE.den]
 obtain⟨pf,zb,nK⟩:=hI;by_cases aj:i<hs.length
 .have hw:=aD aj ai;have hm:=ayy aj;have hk:=h1 _ hm;have hc:=CB (a:=a) (b:=hs[i].ts) ai;simp[SE.den,aj,hw,gK aj,ao,hc]
  exact .mk (a++hs[i].ts) ax ai ⟨by rw[zK aj,pf],by simp;omega,λt ht=>by
   rcases ayS.1 ht with ht|ht
   .exact nK t ht
   .exact h2 _ hm t ht⟩
 .rw[ayF ai]at pf;have hb:=abb ab a (by unfold Sm;omega) nK;simp[SE.den,aj];rw[pf]at hb⊢;exact⟨_,hb,hk⟩
theorem mI{a:List Int}{v:Int}(h:a.length<=100000000):dz 1 8 (iL a) (.tree 1 [iI v])=aa (iL (a++[v])):=by
 have:=yz (a:=a) (b:=[v]) (by simp;omega);exact this
theorem k45(r:Rl)(h:iY r)(hn:qG r)(hf:fY r)(hz:zd r):CC 45 af [bP r] (iB (iD (nL r) r.aI)):=by
 refine CC.dJ au9 kr (λ_=>kr) (by intro x hx;obtain rfl:=ayQ.1 hx;exact fv r) (by rfl) ?_;have GV:=Qp r (by have:=h.h;omega)
 have ya:(nL r).length<=1048577:=(gR λt ht=>by
  obtain⟨a,ha,ht⟩:=CL.1 ht;exact(hf.hs a ha t ht).2).len
 have w0:=λ(Q:IV->Prop) (k0:List IV->Prop) hk=>arU (Q:=Q) (k0:=k0) r h hf hk;generalize hS:iD (nL r) r.aI=S;have hb:=h.b;have QJ:=h.gs;have mW:∀g∈r.aI,s_ g/\MQ g.ts:=λg hg=>⟨hn.gs g (by simp[hg]),(hn.gs g (by simp[hg])).b (hz.gs g (by simp[hg]))⟩;rw[bx]at*
 generalize nL r=vs at*
 generalize r.aI=bd at*
 simp[alr,SE.den,ao];unfold acP;refine fA (λq=>q=[iL vs]) ?_ ?_
 .simp[SE.den];refine⟨_,GV,?_⟩;simp;exact w0 _ _ rfl
 rintro q rfl;refine⟨rfl,?_⟩;unfold acO;refine az bd.length (λi (a:List Int)=>[iI i,iL a]) (λi a=>S=iD a (bd.drop i)/\a.length<=1048577+i) vs ?_ ⟨by simp[hS],by omega⟩ λi a hi hI=>?_
 .simp[SE.den]
 obtain⟨hI,hIl⟩:=hI;by_cases aj:i<bd.length
 rotate_left
 .rw[ay3 ai,iD]at hI;simp[SE.den,aj,hI]
 have hw:=aD aj ai;obtain⟨n1,n2⟩:=mW _ (ayy aj);have awa:=v152 bd[i] n1.1 n2;rw[QQ aj]at hI;simp[SE.den,aj,hw,gJ aj,ao];refine⟨_,awa,?_⟩;cases hr:eo bd[i]with
 |false=>rw[hr]at hI;simp[hI]
 |true=>
  rw[hr]at hI;simp only[aAP]at hI;simp;by_cases h1:bd[i].op=1
  .rw[if_pos h1]at hI;right;simp[h1];exact .mk a rfl ai ⟨hI,by omega⟩
  rw[if_neg h1]at hI;left;refine⟨h1,?_⟩;by_cases h4:bd[i].op=4
  rotate_left
  .left;refine⟨h4,?_⟩;simp[h4]at hI;simp[hI]
  right;refine⟨h4,?_⟩;obtain⟨t,ts,ht⟩:=nT hr h4
  have hT:cz 4 (iT bd[i].ts) (iI 0)=aa (.agg [iI t.k,iI t.n,iS t.s,iT t.ts]):=by
   have:=ku (l:=bd[i].ts) (i:=0) (by rw[ht];simp);simp only[ht,aCu,bp]at this⊢;exact this
  have awb:=(avT a t.n (by unfold Sm;omega)).CM (s8 rfl);simp only[ht,h4,decide_true,aAP]at hI;simp[h4,hT];by_cases hk:t.k=1
  rotate_left
  .left;refine⟨hk,?_⟩;simp[hk]at hI;simp[hI]
  right;refine⟨hk,_,awb,?_⟩;by_cases hm:t.n∈a
  .simp[hm,hk]at hI;simp[hm,hI]
  .simp[hm,hk]at hI;simp[hm,aF,cellsOf,mI (show a.length<=100000000 by omega)];exact .mk (a++[t.n]) rfl ai ⟨hI,by simp;omega⟩
end
end
section
def DT(k:Int):IV:=.aL [iI k,.agg []]
abbrev iM(ks:List Int):IV:=.aL (ks.map DT)
def Ig(ks:List Int)(k:Int):List Int:=if k∈ks then ks else ks++[k]
theorem QR:∀ks:List Int,qQ (ks.map DT)=aa (ks.map (aAc .i64))
 |[]=>rfl
 |k::ks=>by simp[qQ,DT,Ev.keyOf,QR ks]
theorem Lg(k:Int):∀(ks:List Int) (n:Nat),(k∈ks->∃i,nowAt (.int .i64) (.int .i64 k) (ks.map (aAc .i64)) n=aa (aa (n+i))/\ks[i]?=aa k)/\(k∉ks->nowAt (.int .i64) (.int .i64 k) (ks.map (aAc .i64)) n=aa ah)
 |[],n=>by simp[nowAt]
 |a::ks,n=>by
  obtain⟨h1,h2⟩:=Lg k ks (n+1);by_cases h:k=a
  .subst h;refine⟨λ_=>⟨0,by simp[nowAt,aBD],rfl⟩,λhn=>absurd ax hn⟩
  .refine⟨λhm=>?_,λhn=>?_⟩
   .obtain⟨i,g1,g2⟩:=h1 (by simpa[h]using hm);have hb:(k==a)=af:=by simpa using h
    exact⟨i+1,by simp[nowAt,aBD,hb,g1];omega,by simpa using g2⟩
   .have hb:(k==a)=af:=by simpa using h
    simp[nowAt,aBD,hb,h2 (λhm=>hn (by simp[hm]))]
theorem xf(ks:List Int)(k:Int):(k∈ks->∃i,jl ayu 3 (ks.map DT) (iI k)=aa (aa i)/\ks[i]?=aa k)/\(k∉ks->jl ayu 3 (ks.map DT) (iI k)=aa ah):=by
 have h:jl ayu 3 (ks.map DT) (iI k)=nowAt (.int .i64) (.int .i64 k) (ks.map (aAc .i64)) 0:=by
  unfold jl;rw[QR];simp[Ea,Ev.keyOf]
 rw[h];have:=Lg k ks 0;simpa using this
theorem VG{O:Type}{l:List O}{i:Nat}{a:O}(h:l[i]?=aa a):l.set i a=l:=by
 apply List.ext_getElem?;intro q;simp only[List.getElem?_set]
 grind
theorem OG{G:List IV}{m key:SE}{ks:List Int}{k:Int}(h1:m.den ayu G=aa (iM ks))(h2:key.den ayu G=aa (iI k)):(SE.ins 3 m key .an).den ayu G=aa (iM (Ig ks k)):=by
 simp only[SE.den,h1,h2,ayx];by_cases hm:k∈ks
 .obtain⟨i,g1,g2⟩:=(xf ks k).1 hm;rw[g1];simp only[Ig,if_pos hm];rw[VG];rw[ayR,g2];rfl
 .rw[(xf ks k).2 hm];simp[Ig,if_neg hm,DT]
theorem OH{G:List IV}{m key:SE}{ks:List Int}{k:Int}(h1:m.den ayu G=aa (iM ks))(h2:key.den ayu G=aa (iI k)):(SE.has 3 m key).den ayu G=aa (iB (decide (k∈ks))):=by
 simp only[SE.den,h1,h2,ayx];by_cases hm:k∈ks
 .obtain⟨i,g1,g2⟩:=(xf ks k).1 hm;rw[g1];simp[hm]
 .rw[(xf ks k).2 hm];simp[hm]
theorem OI{G:List IV}{m key:SE}{ks:List Int}{k:Int}(h1:m.den ayu G=aa (iM ks))(h2:key.den ayu G=aa (iI k)):(SE.uM 0 (.get 3 m key .an)).den ayu G=aa (.agg []):=by
 simp only[SE.den,h1,h2,ayx];by_cases hm:k∈ks
 .obtain⟨i,g1,g2⟩:=(xf ks k).1 hm;rw[g1];simp[g2,DT]
 .rw[(xf ks k).2 hm];simp
theorem aja(l:List Int)(x:Int):Ig l x=sG l x:=rfl
theorem CN{v x:Int}{l:List Int}:v∈Ig l x↔v∈l\/v=x:=by
 have:=rf (v:=v) [x] l;simpa[di,aja]using this
section
variable{Q:IV->Prop}{k0:List IV->Prop}{x0 x1 x4:IV}
theorem am6(i:Nat)(hi:i<1000)(ks l:List Int)(hl:Sm l)(hk:∀q,(∀v,v∈q↔v∈ks\/v∈l)->k0 [iI (i+1:Nat),iM q]):Oj.sat ayu CC Q [k0] [x0,x1,iI i,iM ks,x4,iL l]:=by
 have gD:=aD hi ai;unfold Oj;refine az l.length (λj (q:List Int)=>[iI j,iM q]) (λj q=>∀v,v∈q↔v∈ks\/v∈l.take j) ks ?_ ax λj q hj hI=>?_
 .simp[SE.den]
 by_cases aj:j<l.length
 .have hw:=aD aj hl;have uy:=OG (G:=[iM q,iI l[j]]) (m:=.var 0) (key:=.var 1) (ks:=q) (k:=l[j]) rfl rfl;have pM:=OI (G:=[iM q,iI l[j]]) (m:=.var 0) (key:=.var 1) (ks:=q) (k:=l[j]) rfl rfl;have A8:=OH (G:=[iM q,iI l[j]]) (m:=.var 0) (key:=.var 1) (ks:=q) (k:=l[j]) rfl rfl;simp[SE.den]at uy pM A8;simp only[iI]at uy pM A8;obtain⟨hq,qV,yw⟩:=A8;simp[SE.den,aj,hw,eF aj,ao];refine⟨⟨_,pM⟩,iB (decide (l[j]∈q)),⟨hq,qV,by rw[yw]⟩,?_⟩;by_cases z:l[j]∈q
  .simp[z];refine .mk _ rfl ai λv=>?_;rw[hI,ayE aj,ayS,ayQ];have:=(hI l[j]).1 z;constructor
   .rintro(h|h)
    .exact .inl h
    .exact .inr (.inl h)
   .rintro(h|h|rfl)
    .exact .inl h
    .exact .inr h
    .exact this
  .simp[z];refine⟨_,uy,.mk _ rfl ai λv=>?_⟩;rw[CN,hI,ayE aj,ayS,ayQ,or_assoc]
 .simp[SE.den,aj,gD];rw[ayF ai]at hI;exact hk q hI
end
end
section
section
variable{Q:IV->Prop}{k0:List IV->Prop}{x1 x2:IV}
theorem am7(r:Rl)(h:iY r)(hn:qG r)(vs ks:List Int)(eh:∀v,v∈ks↔v∈vs):
 Ol.sat ayu CC (Gc (·=iD vs r.aI)) [k0] [bP r,x1,x2,iM ks]:=by
 have hb:=h.b;have mW:∀g∈r.aI,s_ g:=λg hg=>hn.gs g (by simp[hg]);generalize hS:iD vs r.aI=S;rw[bx];generalize r.aI=bd at*
 unfold Ol;refine az bd.length (λi (q:List Int)=>[iI i,iM q]) (λi q=>∃a:List Int,S=iD a (bd.drop i)/\∀v,v∈q↔v∈a) ks ?_ ⟨vs,by simp[hS],eh⟩ λi q hi hI=>?_
 .simp[SE.den]
 obtain⟨a,hI,hq⟩:=hI;by_cases aj:i<bd.length
 rotate_left
 .rw[ay3 ai,iD]at hI;simp[SE.den,aj,hI]
 have hw:=aD aj ai;have VA:=v138 bd[i] (mW _ (ayy aj));rw[QQ aj]at hI;simp[SE.den,aj,hw,gJ aj,ao];refine⟨_,VA,?_⟩;cases hr:eo bd[i]with
 |false=>rw[hr]at hI;simp[hI]
 |true=>
  rw[hr]at hI;simp only[aAP]at hI;simp;by_cases h1:bd[i].op=1
  .rw[if_pos h1]at hI;left;exact⟨h1,.mk q rfl ai ⟨a,hI,hq⟩⟩
  rw[if_neg h1]at hI;right;refine⟨h1,?_⟩;by_cases h4:bd[i].op=4
  rotate_left
  .left;refine⟨h4,?_⟩;simp[h4]at hI;simp[hI]
  right;refine⟨h4,?_⟩;obtain⟨t,ts,ht⟩:=nT hr h4
  have hT:cz 4 (iT bd[i].ts) (iI 0)=aa (.agg [iI t.k,iI t.n,iS t.s,iT t.ts]):=by
   have:=ku (l:=bd[i].ts) (i:=0) (by rw[ht];simp);simp only[ht,aCu,bp]at this⊢;exact this
  simp only[ht,h4,decide_true,aAP]at hI;simp[hT];by_cases hk:t.k=1
  rotate_left
  .left;refine⟨hk,?_⟩;simp[hk]at hI;simp[hI]
  right;have uy:=OG (G:=[iM q,iI t.n]) (m:=.var 0) (key:=.var 1) (ks:=q) (k:=t.n) rfl rfl;have pM:=OI (G:=[iM q,iI t.n]) (m:=.var 0) (key:=.var 1) (ks:=q) (k:=t.n) rfl rfl;have A8:=OH (G:=[iM q,iI t.n]) (m:=.var 0) (key:=.var 1) (ks:=q) (k:=t.n) rfl rfl;simp[SE.den]at uy pM A8;simp only[iI]at uy pM A8;obtain⟨GN,qV,yw⟩:=A8;refine⟨hk,⟨_,pM⟩,iB (decide (t.n∈q)),⟨GN,qV,by rw[yw]⟩,?_⟩;by_cases hm:t.n∈q
  .have SB:=(hq _).1 hm;simp[SB,hk]at hI;simp[hm,hI]
  .have SB:t.n∉a:=λh=>hm ((hq _).2 h);simp[SB,hk]at hI;simp[hm];refine⟨_,uy,.mk _ rfl ai ⟨_,hI,λv=>?_⟩⟩;rw[CN,hq];simp
theorem am8(r:Rl)(h:iY r)(hn:qG r)(hf:fY r):CC 101 af [bP r] (iB (iD (nL r) r.aI)):=by
 refine CC.dJ aqL kr (λ_=>kr) (by intro x hx;obtain rfl:=ayQ.1 hx;exact fv r) (by rfl) ?_;have Eo:=Yt r (by have:=h.h;omega);have hl:=h.h;have oq:=hn.hs;have hfA:=hf.hs;have w1:=λ(k0:List IV->Prop) (x1 x2:IV) ks eh=>am7 (k0:=k0) (x1:=x1) (x2:=x2) r h hn (nL r) ks eh;have hV:nL r=varsOf (fk (r.aq++r.av)):=rfl;rw[<-ayC]at hl;rw[bx]at*
 generalize r.aq++r.av=hs at*
 simp[ag8,SE.den,ao];refine⟨_,Eo,?_⟩;simp;unfold X6;refine az hs.length (λi (q:List Int)=>[iI i,iM q]) (λi q=>∀v,v∈q↔v∈eP (fk (hs.take i))) [] ?_ (by simp[fk,eP]) λi q hi hI=>?_
 .simp[SE.den]
 by_cases aj:i<hs.length
 .have hm:=ayy aj;have JZ:=c46 af hs[i] (oq _ hm) (λt ht=>(hfA _ hm t ht).2)
  have ya:Sm (varsOf hs[i].ts):=by
   have:=(gR λt ht=>(hfA _ hm t ht).2).len;unfold Sm;omega
  simp[SE.den,aj,gK aj,ao];refine⟨_,JZ,?_⟩;simp;refine am6 i ai q _ ya λq' GN=>.mk q' rfl ai λv=>?_;rw[GN,hI,zK aj,mf,ayS,jt]
 .rw[ayF ai]at hI;simp[SE.den,aj];exact w1 _ _ _ q λv=>by rw[hI,hV,jt]
end
end
def arV:List Nat:=[203,160,216,175,240,266,11,31,24,25,7,69,8,13,14,257,72,26,71,137,70,139,210,225,145,183,75,76,111,65,112,136,186,140,184,248,224,211,170,138,249,185,9,28,27,143,77,142,141,74,144,73,146,78,18,39,16,82,44,188,189,29,79,80,149,187,147,10,148,30,38,104,83,84,81,168,103,62,108,42,169,107,106,45,64,63,135,110,46,66,21,12,20,23,105,40,43,41,113,171,215,174,48,98,97,116,115,268,192,154,227,87,33,51,212,94,47,114,32,85,155,233,199,101,50,49,164,230,194,166,204,202,99,86,95,93,156,162,280]
def awc:List Nat:=[34,35,36,37,89,100,109,150,151,161,190,234]
def awd:List Nat:=[235,236,237,238,239,241,242]
def awe:List Nat:=[185,247,209,173000151,500195,500196,500040,500041,500043,500082,500140]
def ahB(l:List Hint):eS:=⟨arV,awc,awd,l++[⟨999997,0,0,[],[],[],[]⟩,⟨999999,0,0,[],[],[],[]⟩],awe⟩
def VH:ak:=
 (sF mN qB (BP 10 0 3) (xD 1 tI aY F_ (vZ 3 zz 10 3 13 (zC 189 (wD (.var 8) 0 1 (Mw 0 2 0 3 0 4 0 5)) 12 (fe 13 13 13) (.nt xI (.aV (FG 7) (xD 1 tI aY (FG 7) (vZ 3 zz 10 3 16 (zC 189 (wD (.var 8) 0 1 (Mw 0 2 0 3 0 4 0 5)) 15 (fe 16 16 16) (mD 17 17 (xE 10 1 8 11 1 10 (iQ 3 10 18)) (iQ 3 10 11)))))) (iQ 3 10 11))))) (IU 1 24 9 1 11 (vU 2 7 8 12)))
def VI:ak:=
 (sF (RB eB 0 0 (I1 bV)) (fO 4) (s7 .leq 3 7 (fO 4)) VH (rU 9))
def VJ:ak:=
 (iJ (eL 188 (d_ 0 0 0 0 0 0) oZ (dY 6 VI)) (.ret (T6 1 0 1 1 (j2 (vR 1) cE (nC 5 6)))))
def adH:ak:=
 (iH (BX aY zw) 2 3 2 1 cE 3 (dY 6 (zC 148 (d_ 0 0 0 0 0 0) 4 bV (dY 7 (I_ 24 5 fZ (jo 1 cE 3 (gi 9 (.rw rR) (rV 4 rR (vU 0 3 10 8)))))))) VJ)
def am9:ak:=
 (nI 6 3 (gi 2 (HV 1 1) adH))
theorem awf:aE ayu (ahB [⟨0,84,1000043,[],[(7,0),(6,0)],[],[]⟩,⟨1,84044,3,[(1,(6,0))],[(7,0),(6,0)],[(1,11)],[]⟩,⟨1,84044,7,[(1,(7,0)),(1,(8,0))],[(8,0),(4,1)],[],[]⟩,⟨0,84,4,[(0,(9,0))],[(5,3),(5,0),(4,1),(4,0),(3,4)],[(0,15)],[]⟩]) 400 af 84=am9:=by kernel_rfl
def afR:ak:=
 (.loop mN (pF 2 dh cE 2 9 9 (.nt (tP 7 9) (lY dh cE 10 (jo 4 (mL 10) 7 (pH 4 11 186 11 11 11 11 (dY 12 (oY 103 (ko F5 6) (.nt (fj 13) (xE 7 1 8 8 1 7 (ew 7 14)) (ew 7 8))))))) (lW 8))))
def afS:ak:=
 (iH B8 1 4 1 1 bo 4 (oF bV .geq bV (jo 1 bo 4 (ig 7 3 (xM fZ (fU 3) (tG 1 bo 4 8 (lY dh jR 9 (lU 4 56 5 Ca (BY 10)))) vW))) vW) (oY 1364 (lz 5) afR))
def adI:ak:=
 (xr 6 (tQ (kI 39 (d_ 0 0 0 0 0 0) 3 afS)))
theorem am_:aE ayu (cB [⟨0,148,11,[(0,(11,0)),(0,(12,0))],[(3,0),(2,1),(1,1)],[],[]⟩,⟨0,148,4,[(0,(8,0)),(0,(9,0))],[(1,3),(1,0)],[],[]⟩]) 400 ab 148=adI:=by kernel_rfl
def afT:ak:=
 (qE (ik 4) 9 8 1 jR 9 11 (Ck 3 rH rM .an (ew 9 12)) (js 3 10))
def afU:ak:=
 (AV dx 10 9 1 rR 10 (gi 11 (.uM 0 (.get 3 tI rM .an)) (.bind (.has 3 tI rM) (pG (.var 12) (ew 6 7) (eA 2 10)))) (xE 6 1 8 7 1 6 (ew 6 11)))
def afV:ak:=
 (jr mN 6 5 1 4 5 1 6 (pH 4 8 204 8 8 8 8 (ig 9 9 afU)) (lW 7))
def afW:ak:=
 (qE (oa F0) 3 1 1 bo 3 5 (eL 203 (KN 0 0 0 1 0 2 0 3 (FE 0 4 0 5 0 6)) dp (.nt bV (tN 2 6 dp (rI 2 7 164 7 7 (ig 8 8 afT))) (js 3 4))) (tN 2 6 cE (qA 2 5 5 afV)))
def adJ:ak:=
 (xr 7 (ig 2 1 afW))
theorem ana:aE ayu (cB [⟨0,160,14,[(0,(12,0)),(0,(52,0))],[(2,0)],[],[]⟩,⟨0,160,3,[(0,(22,0))],[(1,0)],[],[]⟩,⟨0,160,17,[(0,(60,0))],[],[],[]⟩,⟨0,160,7,[(0,(36,0))],[(1,0)],[],[]⟩]) 400 ab 160=adJ:=by kernel_rfl
section
section
variable{Q:IV->Prop}{k0:List IV->Prop}
theorem anb(a b:List Int)(hb:Sm b)(i:Nat)(hi:i<a.length)(ha:Sm a)(hy:a[i]∈b->k0 [iI (i+1:Nat)])(hn:a[i]∉b->Q (iB af)):Od.sat ayu CC Q [k0] [iL a,iL b,iI i]:=by
 have gD:=aD hi ha;unfold Od;refine az b.length (λj (f:Bool)=>[iI j,iB f]) (λj f=>f=decide (a[i]∈b.take j)) af ?_ ax λj f hj hI=>?_
 .simp[SE.den]
 by_cases aj:j<b.length
 .have hw:=aD aj hb;simp[SE.den,aj,hw,eF aj,eF hi]
  have bI:decide (a[i]∈b.take (j+1))=(decide (a[i]∈b.take j)||decide (b[j]=a[i])):=by
   rw[ayE aj,aAy];simp only[ayS,ayQ,azf,decide_eq_true_eq];exact⟨λh=>h.imp_right aDp,λh=>h.imp_right aDp⟩
  cases hf:f with
  |true=>
   left;refine⟨rfl,.mk ab rfl ai ?_⟩;rw[bI,<-hI,hf];rfl
  |false=>
   right;refine⟨rfl,.mk (b[j]==a[i]) rfl ai ?_⟩;rw[bI,<-hI,hf];rw[aAy];simp
 .rw[ayF ai]at hI;simp[SE.den,aj,gD];by_cases hm:a[i]∈b
  .simp[hm]at hI;right;exact⟨hI,hy hm⟩
  .simp[hm]at hI;left;exact⟨hI,hn hm⟩
theorem anc(a b:List Int)(ha:Sm a)(hb:Sm b):CC 103 af [iL a,iL b] (iB (decide (∀v∈a,v∈b))):=by
 refine CC.dJ aqs kr (λ_=>kr) ax (by rfl) ?_;generalize hS:decide (∀v∈a,v∈b)=S;simp[agV,SE.den];unfold XP;refine az a.length (λi (_:Unit)=>[iI i]) (λi _=>∀v∈a.take i,v∈b) () ?_ ax λi _ hi hI=>?_
 .simp[SE.den]
 by_cases aj:i<a.length
 .simp[SE.den,aj];refine anb a b hb i aj ha (λh=>.mk () rfl ai (aO aj hI h)) λh=>?_;subst hS;simp;exact⟨_,ayy aj,h⟩
 .have:=aU aj hI;simp[SE.den,aj];subst hS;simp;exact this
end
def gw(hs:List At)(v:Int):List Tm:=if 0<=v then(match hs[v.toNat]? with
 |some a=>a.ts
 |none=>[])else[]
def kL(hs:List At)(done:List Int):List Tm:=done.flatMap (gw hs)
def VK(vs:List Int)(t:Tm)(i:Nat):List Int:=if∀v∈varsOf [t],v∈vs then[(i:Int)]else[]
def sI(vs:List Int):List Tm->Nat->List Int
 |[],_=>[]
 |t::ts,i=>VK vs t i++sI vs ts (i+1)
def lM(hs:List At)(done:List Int)(ts:List Tm):List Int:=sI (varsOf (kL hs done)) ts 0
theorem YL{vs:List Int}{ts:List Tm}{i:Nat}(h:i<ts.length):sI vs (ts.drop i) i=VK vs ts[i] i++sI vs (ts.drop (i+1)) (i+1):=by
 rw[ay5 h,sI]
theorem zL{hs:List At}{done:List Int}{i:Nat}(h:i<done.length):kL hs (done.take (i+1))=kL hs (done.take i)++gw hs done[i]:=by
 rw[ayE h];unfold kL;rw[aA3];simp
theorem ajb{hs:List At}{v:Int}{t:Tm}(h:t∈gw hs v):∃a∈hs,t∈a.ts:=by
 unfold gw at h;split at h
 .split at h
  .rename_i a ha;exact⟨a,ayM ha,h⟩
  .cases h
 .cases h
theorem afX{hs:List At}{v:Int}(h:∀a∈hs,a.ts.length<=8):(gw hs v).length<=8:=by
 unfold gw;split
 .split
  .rename_i a ha;exact h a (ayM ha)
  .simp
 .simp
section
variable{Q:IV->Prop}{k0:List IV->Prop}{x1 x2 x4 x5:IV}
theorem ane(r:Rl)(x0:IV)(hs:List At)(n:Nat)(a:At)(ha:hs[n]?=aa a)(fF:a.ts.length<=8)(hf:∀t∈a.ts,WF t)(vs:List Int)(db:Sm vs)(hQ:Q (iL (sI vs a.ts 0))):
 Oa.sat ayu CC Q [k0] [x0,x1,iI n,dr hs,x4,x5,iL vs]:=by
 obtain⟨hn,zf⟩:=ayw.1 ha;have hA:=gK hn;rw[zf]at hA;unfold Oa;refine az a.ts.length (λi (out:List Int)=>[iI i,iL out]) (λi out=>out++sI vs (a.ts.drop i) i=sI vs a.ts 0/\out.length<=i) [] ?_ ax λi out hi hI=>?_
 .simp[SE.den]
 obtain⟨hI,pV⟩:=hI;by_cases aj:i<a.ts.length
 .have hw:=aD aj ai;have YM:=v95 a.ts[i] (hf _ (ayy aj));have hl:=(gR λt ht=>by rw[ayQ.1 ht];exact(hf _ (ayy aj)).2:Vr (varsOf [a.ts[i]])).len;have afY:=(anc (varsOf [a.ts[i]]) vs (by unfold Sm;omega) db).CM (s8 rfl);rw[YL aj]at hI;rw[bp]at YM;simp[SE.den,hA,aj,hw,ku aj,bp,ao];refine⟨_,YM,?_⟩;simp;refine⟨_,afY,?_⟩;by_cases hm:∀v∈varsOf [a.ts[i]],v∈vs
  .rw[VK,if_pos hm]at hI;rw[decide_eq_true hm];simp[aF,cellsOf];refine⟨_,mI ai,.mk (out++[(i:Int)]) rfl ai ⟨by rw[<-hI];simp,by simp;omega⟩⟩
  .rw[VK,if_neg hm]at hI;rw[decide_eq_false hm];simp;exact .mk out rfl ai ⟨by rw[<-hI];simp,by omega⟩
 .rw[ay3 ai,sI,ayO]at hI;simp[SE.den,hA,aj,hI,ao];exact hQ
end
theorem adK:adI=RI:=by rfl
theorem anf(r:Rl)(h:iY r)(hf:fY r)(done:List Int)(hd:done.length<=100)(n:Nat)(a:At)(ha:(r.aq++r.av)[n]?=aa a):RI.sat ayu CC (w9 (·=lM (r.aq++r.av) done a.ts)) [] [bP r,iL done,iI n]:=by
 have GV:=Qp r (by have:=h.h;omega);have hl:=h.h;have h1:=h.hs;have h2:=hf.hs;have dt:=ayM ha;rw[<-ayC]at hl;rw[bx]at*
 generalize hX:r.aq++r.av=hs at*
 simp[RI,SE.den,ao];refine⟨_,GV,?_⟩;simp;unfold XO;refine az done.length (λi (q:List Tm)=>[iI i,iT q]) (λi q=>q=kL hs (done.take i)/\q.length<=8*i/\∀t∈q,WF t) [] ?_ (by simp[kL]) λi q hi hI=>?_
 .simp[SE.den]
 obtain⟨pf,zb,nK⟩:=hI;by_cases aj:i<done.length
 .have hw:=aD aj ai;have bI:=zL (hs:=hs) aj;rw[<-pf]at bI;simp[SE.den,aj,hw,eF aj,ao];by_cases z0:0<=done[i]
  rotate_left
  .right;refine⟨by omega,.mk q rfl ai ⟨by rw[bI];simp[gw,z0],by omega,nK⟩⟩
  left;refine⟨z0,?_⟩;by_cases z1:done[i]<hs.length
  rotate_left
  .right
   refine⟨by omega,.mk q rfl ai ⟨by
    rw[bI];simp only[gw,if_pos z0];rw[azU ai];simp,by omega,nK⟩⟩
  left;refine⟨z1,?_⟩;have jv:done[i]=((done[i].toNat:Nat):Int):=ai;have bJ:done[i].toNat<hs.length:=ai;have hA:=gK bJ;rw[<-jv]at hA;have hm:=ayy bJ;have hk:=h1 _ hm;have hc:=CB (a:=q) (b:=hs[done[i].toNat].ts) ai
  have qV:gw hs done[i]=hs[done[i].toNat].ts:=by
   simp only[gw,if_pos z0];rw[ayv bJ]
  simp[hA,hc];refine .mk (q++hs[done[i].toNat].ts) ax ai ⟨by rw[bI,qV],by simp;omega,λt ht=>?_⟩;rcases ayS.1 ht with ht|ht
  .exact nK t ht
  .exact h2 _ hm t ht
 .rw[ayF ai]at pf;have hb:=abb ab q (by unfold Sm;omega) nK;have ya:=(gR λt ht=>(nK t ht).2).len;simp[SE.den,aj];refine⟨_,hb,?_⟩;refine ane r _ hs n a ha (h1 a dt) (h2 a dt) _ (by unfold Sm;omega) ?_;rw[w_,lM,pf]
theorem afZ(new:Bool)(r:Rl)(h:iY r)(hf:fY r)(done:List Int)(hd:done.length<=100)(n:Nat)(a:At)(ha:(r.aq++r.av)[n]?=aa a):CC 148 new [bP r,iL done,iI n] (iL (lM (r.aq++r.av) done a.ts)):=by
 have hp:∀x∈[bP r,iL done,iI n],Pure x:=by
  intro x hx;rcases ayN.1 hx with rfl|hx
  .exact fv r
  rcases ayN.1 hx with rfl|hx
  .simp
  obtain rfl:=ayQ.1 hx;simp
 cases new with
 |false=>exact CC.tS aqr kr (λ_=>kr) hp (by rfl) (anf r h hf done hd n a ha)
 |true=>exact CC.tS am_ kr (λ_=>kr) hp (by rfl) (adK▸anf r h hf done hd n a ha)
end
section
def fH(hs:List At)(done:List Int)(g:Gl):Bool:=decide (∀v∈varsOf g.ts,v∈varsOf (kL hs done))
section
variable{Q:IV->Prop}{k0 k1:List IV->Prop}{x0 x1 x2 x3 x4 x5:IV}
theorem ang(a b:List Int)(hb:Sm b)(i:Nat)(hi:i<a.length)(ha:Sm a)(hy:a[i]∈b->k1 [iI (i+1:Nat)])(hn:a[i]∉b->Q (iB af)):Oe.sat ayu CC Q [k0,k1] [x0,x1,x2,x3,x4,x5,iL b,iL a,iI i]:=by
 have gD:=aD hi ha;unfold Oe;refine az b.length (λj (f:Bool)=>[iI j,iB f]) (λj f=>f=decide (a[i]∈b.take j)) af ?_ ax λj f hj hI=>?_
 .simp[SE.den]
 by_cases aj:j<b.length
 .have hw:=aD aj hb;simp[SE.den,aj,hw,eF aj,eF hi,cellsOf]
  have bI:decide (a[i]∈b.take (j+1))=(decide (a[i]∈b.take j)||decide (b[j]=a[i])):=by
   rw[ayE aj,aAy];simp only[ayS,ayQ,azf,decide_eq_true_eq];exact⟨λh=>h.imp_right aDp,λh=>h.imp_right aDp⟩
  cases hf:f with
  |true=>
   left;refine⟨rfl,.mk ab rfl ai ?_⟩;rw[bI,<-hI,hf];rfl
  |false=>
   right;refine⟨rfl,.mk (b[j]==a[i]) rfl ai ?_⟩;rw[bI,<-hI,hf];rw[aAy];simp
 .rw[ayF ai]at hI;simp[SE.den,aj,gD];by_cases hm:a[i]∈b
  .simp[hm]at hI;right;exact⟨hI,hy hm⟩
  .simp[hm]at hI;left;exact⟨hI,hn hm⟩
theorem af0(r:Rl)(h:iY r)(hf:fY r)(done:List Int)(hd:done.length<=100)(g:Gl)(hg:g.ts.length<=8)(hgf:∀t∈g.ts,WF t):CC 189 af [bP r,iL done,uj g] (iB (fH (r.aq++r.av) done g)):=by
 refine CC.dJ aqw kr (λ_=>kr) (by
  intro x hx;rcases ayN.1 hx with rfl|hx
  .exact fv r
  rcases ayN.1 hx with rfl|hx
  .simp
  obtain rfl:=ayQ.1 hx;exact Cz g) (by rfl) ?_
 have GV:=Qp r (by have:=h.h;omega);have hl:=h.h;have h1:=h.hs;have h2:=hf.hs;have VE:=v93 g (by unfold Sm;omega) hgf;have MV:=(gR λt ht=>(hgf t ht).2:Vr (varsOf g.ts)).len;have hG:uj g=.agg [iI g.op,iS g.s,iT g.ts]:=rfl;rw[<-ayC]at hl;rw[bx,hG]at*
 generalize hX:r.aq++r.av=hs at*
 generalize hS:fH hs done g=S;simp[agZ,SE.den,ao];refine⟨_,GV,?_⟩;simp;unfold XU;refine az done.length (λi (q:List Tm)=>[iI i,iT q]) (λi q=>q=kL hs (done.take i)/\q.length<=8*i/\∀t∈q,WF t) [] ?_ (by simp[kL]) λi q hi hI=>?_
 .simp[SE.den]
 obtain⟨pf,zb,nK⟩:=hI;by_cases aj:i<done.length
 .have hw:=aD aj ai;have bI:=zL (hs:=hs) aj;rw[<-pf]at bI;simp[SE.den,aj,hw,eF aj,ao];by_cases z0:0<=done[i]
  rotate_left
  .right;refine⟨by omega,.mk q rfl ai ⟨by rw[bI];simp[gw,z0],by omega,nK⟩⟩
  left;refine⟨z0,?_⟩;by_cases z1:done[i]<hs.length
  rotate_left
  .right
   refine⟨by omega,.mk q rfl ai ⟨by
    rw[bI];simp only[gw,if_pos z0];rw[azU ai];simp,by omega,nK⟩⟩
  left;refine⟨z1,?_⟩;have jv:done[i]=((done[i].toNat:Nat):Int):=ai;have bJ:done[i].toNat<hs.length:=ai;have hA:=gK bJ;rw[<-jv]at hA;have hm:=ayy bJ;have hk:=h1 _ hm;have hc:=CB (a:=q) (b:=hs[done[i].toNat].ts) ai
  have qV:gw hs done[i]=hs[done[i].toNat].ts:=by
   simp only[gw,if_pos z0];rw[ayv bJ]
  simp[hA,hc];refine .mk (q++hs[done[i].toNat].ts) ax ai ⟨by rw[bI,qV],by simp;omega,λt ht=>?_⟩;rcases ayS.1 ht with ht|ht
  .exact nK t ht
  .exact h2 _ hm t ht
 .rw[ayF ai]at pf;have hb:=abb ab q (by unfold Sm;omega) nK;have ya:=(gR λt ht=>(nK t ht).2).len;simp[SE.den,aj];refine⟨_,hb,_,VE,?_⟩;simp;unfold XT;refine az (varsOf g.ts).length (λi (_:Unit)=>[iI i]) (λi _=>∀v∈(varsOf g.ts).take i,v∈varsOf q) () ?_ ax λi _ hi hI=>?_
  .simp[SE.den]
  by_cases aj:i<(varsOf g.ts).length
  .simp[SE.den,aj];refine ang (varsOf g.ts) (varsOf q) (by unfold Sm;omega) i aj (by unfold Sm;omega) (λhm=>.mk () rfl ai (aO aj hI hm)) λhm=>?_;subst hS;simp[fH];exact⟨_,ayy aj,by rw[<-pf];exact hm⟩
  .have:=aU aj hI;simp[SE.den,aj];subst hS;simp[fH];rw[<-pf];exact this
end
end
section
def yR(b:Bool)(i:Nat):List Int:=if b then[(i:Int)]else[]
def gM(p:Gl->Bool):List Gl->Nat->List Int
 |[],_=>[]
 |g::gs,i=>yR (p g) i++gM p gs (i+1)
theorem OJ{p:Gl->Bool}{gs:List Gl}{i:Nat}(h:i<gs.length):gM p (gs.drop i) i=yR (p gs[i]) i++gM p (gs.drop (i+1)) (i+1):=by
 rw[ay5 h,gM]
theorem Lh(p:Gl->Bool):∀(gs:List Gl) (i:Nat),(gM p gs i).length<=gs.length
 |[],_=>by simp[gM]
 |g::gs,i=>by
  have:=Lh p gs (i+1);simp only[gM,ayC,ay6];unfold yR;split<;>simp<;>omega
theorem VL{p:Gl->Bool}{v:Int}:∀(gs:List Gl) (i:Nat),v∈gM p gs i->(i:Int)<=v/\v<i+gs.length
 |[],_,h=>by simp[gM]at h
 |g::gs,i,h=>by
  rw[gM,ayS]at h;rw[ay6];rcases h with h|h
  .unfold yR at h;split at h
   .simp at h;omega
   .simp at h
  .have:=VL gs (i+1) h;omega
def af1(hs:List At)(done:List Int)(k:Nat)(g:Gl):Bool:=fH hs (done.take k) g&& !fH hs (done.take (k- 1)) g
def eQ(hs:List At)(gs:List Gl)(done:List Int):List (List Int):=gM (fH hs []) gs 0::(List.range done.length).map λk=>gM (af1 hs done (k+1)) gs 0
def hZ(hs:List At):List Int->List Int->List (List Int)
 |_,[]=>[]
 |done,v::vs=>lM hs done (gw hs v)::hZ hs (done++[v]) vs
theorem MY(hs:List At):∀(vs done:List Int),(hZ hs done vs).length=vs.length
 |[],_=>rfl
 |v::vs,done=>by rw[hZ,ay6,MY hs vs,ay6]
theorem pN(hs:List At)(gs:List Gl)(done:List Int):(eQ hs gs done).length=done.length+1:=by simp[eQ]
def iE(r:Rl)(o:Oc)(order:List Int):Pn:=⟨o,order,hZ (r.aq++r.av) [o.h] order,eQ (r.aq++r.av) r.aw (o.h::order)⟩
theorem Ah{a:List (List Int)}{v:List Int}(h:a.length<=100000):dz 1 24 (bg a) (.tree 1 [iL v])=aa (bg (a++[v])):=by
 have h2:iz 1 [iL v]=ab:=rfl;simp[dz,h2];omega
theorem Jh{L:List Int}{l:Nat}(h1:l<=L.length):p6 1 (iL L) (iI 0) (iI (l:Nat))=aa (iL (L.take l)):=by
 simp[p6,ie,h1,List.map_take]
theorem Li(r:Rl)(done:List Int):∀x∈[bP r,iL done],Pure x:=by
 intro x hx;rcases ayN.1 hx with rfl|hx
 .exact fv r
 obtain rfl:=ayQ.1 hx;simp
theorem anh(r:Rl)(h:iY r)(hf:fY r)(done:List Int)(hd:done.length<=100):CC 188 af [bP r,iL done] (iL (gM (fH (r.aq++r.av) done) r.aw 0)):=by
 refine CC.tS aqv kr (λ_=>kr) (Li r done) (by rfl) ?_;have hg6:=h.g;have Lj:∀(i:Nat) (hi:i<r.aw.length),CC 189 af [bP r,iL done,uj r.aw[i]] (iB (fH (r.aq++r.av) done r.aw[i])):=λi hi=>af0 r h hf done hd _ (h.gs _ (ay9 _ (ayy hi))) (hf.gs _ (ay9 _ (ayy hi))).2;rw[bx]at*
 generalize hp:fH (r.aq++r.av) done=p at*
 simp[agY,SE.den,ao];unfold XS;refine az r.aw.length (λi (out:List Int)=>[iI i,iL out]) (λi out=>out++gM p (r.aw.drop i) i=gM p r.aw 0/\out.length<=i) [] ?_ ax λi out hi hI=>?_
 .simp[SE.den]
 obtain⟨hI,pV⟩:=hI;by_cases aj:i<r.aw.length
 .have hw:=aD aj ai;have hb:=Lj i aj;rw[OJ aj]at hI;have hG:uj r.aw[i]=.agg [iI r.aw[i].op,iS r.aw[i].s,iT r.aw[i].ts]:=rfl;rw[hG]at hb;simp[SE.den,aj,hw,gJ aj,ao];refine⟨_,hb,?_⟩;cases Bx:p r.aw[i]with
  |true=>
   rw[Bx,yR,if_pos rfl]at hI;simp[aF,cellsOf];exact⟨_,mI ai,.mk (out++[(i:Int)]) rfl ai ⟨by rw[<-hI];simp,by simp;omega⟩⟩
  |false=>
   rw[Bx,yR,if_neg ax]at hI;simp;exact .mk out rfl ai ⟨by rw[<-hI];simp,by omega⟩
 .rw[ay3 ai,gM,ayO]at hI;simp[SE.den,aj,hI]
section
variable{Q:IV->Prop}{k0 k1 k2:List IV->Prop}{x1 x2 x3 x5 x6:IV}
theorem arW(r:Rl)(h:iY r)(hf:fY r)(done:List Int)(hd:done.length<=100)(k:Nat)(l8:1<=k)(hk:k<=done.length)(out:List (List Int))(pV:out.length<=1000)
 (mq:k2 [iI (k+1:Nat),iS r.name,bg (out++[gM (af1 (r.aq++r.av) done k) r.aw 0])]):
 VH.sat ayu CC Q [k0,k1,k2] [bP r,x1,x2,x3,iL done,x5,x6,iI k,iS r.name,bg out]:=by
 have hg6:=h.g;have Lj:∀(d:List Int) (hd:d.length<=100) (i:Nat) (hi:i<r.aw.length),CC 189 ab [bP r,iL d,uj r.aw[i]] (iB (fH (r.aq++r.av) d r.aw[i])):=λd hd i hi=>(af0 r h hf d hd _ (h.gs _ (ay9 _ (ayy hi))) (hf.gs _ (ay9 _ (ayy hi))).2).CM (s8 rfl);have MZ:=aD (show k<1000 by omega) ai;have hkm:ay1.wrap ((k:Int) - 1)=((k- 1:Nat):Int):=by rw[dD ai ai];omega
 rw[bx]at*
 generalize hp:af1 (r.aq++r.av) done k=p at*
 unfold VH;refine az r.aw.length (λi (o:List Int)=>[iI i,iL o]) (λi o=>o++gM p (r.aw.drop i) i=gM p r.aw 0/\o.length<=i) [] ?_ ax λi o hi hI=>?_
 .simp[SE.den]
 obtain⟨hI,hoo⟩:=hI;by_cases aj:i<r.aw.length
 .have hw:=aD aj ai;have da:=Lj (done.take k) (by simp;omega) i aj;have eR:=Lj (done.take (k- 1)) (by simp;omega) i aj;rw[OJ aj]at hI;have hG:uj r.aw[i]=.agg [iI r.aw[i].op,iS r.aw[i].s,iT r.aw[i].ts]:=rfl;rw[hG]at da eR;have Bx:p r.aw[i]=(fH (r.aq++r.av) (done.take k) r.aw[i]&& !fH (r.aq++r.av) (done.take (k- 1)) r.aw[i]):=by rw[<-hp];rfl
  simp[SE.den,aj,hw,gJ aj,ao,Jh hk];refine⟨_,da,?_⟩;cases e1:fH (r.aq++r.av) (done.take k) r.aw[i]with
  |false=>
   rw[Bx,e1,aAf,yR,if_neg ax]at hI;simp;exact .mk o rfl ai ⟨by rw[<-hI];simp,by omega⟩
  |true=>
   simp[hkm,Jh (show k- 1<=done.length by omega)];refine⟨_,eR,?_⟩;cases e2:fH (r.aq++r.av) (done.take (k- 1)) r.aw[i]with
   |true=>
    rw[Bx,e1,e2]at hI;simp[yR]at hI;simp;exact .mk o rfl ai ⟨hI,by omega⟩
   |false=>
    rw[Bx,e1,e2]at hI;simp[yR]at hI;simp[aF,cellsOf];exact⟨_,mI ai,.mk (o++[(i:Int)]) rfl ai ⟨by rw[<-hI];simp,by simp;omega⟩⟩
 .rw[ay3 ai,gM,ayO]at hI;subst hI;simp[SE.den,aj,MZ,cellsOf,Ah (show out.length<=100000 by omega)];exact mq
theorem arX(r:Rl)(h:iY r)(hf:fY r)(done:List Int)(hd:done.length<=100)(l8:k1 [bg (eQ (r.aq++r.av) r.aw done)]):
 VI.sat ayu CC Q [k0,k1] [bP r,x1,x2,x3,iL done,x5,iL (gM (fH (r.aq++r.av) []) r.aw 0)]:=by
 unfold VI;refine eM (λ(k:Nat)=>[iI (k+1:Nat),iS r.name,bg ((eQ (r.aq++r.av) r.aw done).take (k+1))]) (λk=>k<=done.length) (λk=>done.length- k) 0 ?_ ai λk hk=>?_
 .simp[SE.den,bx,eQ,cellsOf]
 by_cases aj:k<done.length
 .have hz:((k:Int)+1<=(done.length:Int)):=ai;simp[SE.den,hz];refine arW r h hf done hd (k+1) ai ai _ (by simp[pN];omega) ?_;refine .mk (k+1) ?_ ai ai;have hl:k+1<(eQ (r.aq++r.av) r.aw done).length:=by rw[pN];omega
  rw[ayE hl];simp[eQ]
 .have hz:¬((k:Int)+1<=(done.length:Int)):=ai;have gm:k=done.length:=ai;simp[SE.den,hz];rw[ayF (by rw[pN];omega)];exact l8
theorem arY(r:Rl)(h:iY r)(hf:fY r)(o:Oc)(order done:List Int)(hd:done.length<=100)(kn:List (List Int))(hQ:Q (aZ ⟨o,order,kn,eQ (r.aq++r.av) r.aw done⟩)):
 VJ.sat ayu CC Q [k0] [bP r,fG o,iL order,x3,iL done,bg kn]:=by
 have af2:=anh r h hf [] ax;unfold VJ;refine fA (λvs=>vs=[bg (eQ (r.aq++r.av) r.aw done)]) ?_ λvs db=>?_
 .have hw:=arX (Q:=Q) (k0:=k0) (k1:=AY λvs=>vs=[bg (eQ (r.aq++r.av) r.aw done)]) (x1:=fG o) (x2:=iL order) (x3:=x3) (x5:=bg kn) r h hf done hd rfl;rw[bx]at*
  simp[SE.den,fG]at*
  exact⟨_,af2,⟨_,rfl⟩,hw⟩
 .subst db;refine⟨rfl,?_⟩;simp[SE.den,fG];exact hQ
end
def rY(n:Nat)(order:List Int):Prop:=∀v∈order,0<=v/\v<n
theorem k84(r:Rl)(h:iY r)(hf:fY r)(o:Oc)(order:List Int)(ho:order.length<=50)(hv:rY (r.aq++r.av).length order):
 CC 84 af [bP r,fG o,iL order] (aZ (iE r o order)):=by
 refine CC.of awf kr kr (by
  intro x hx;rcases ayN.1 hx with rfl|hx
  .exact fv r
  rcases ayN.1 hx with rfl|hx
  .exact uY o
  obtain rfl:=ayQ.1 hx;simp) (pe _) ?_
 have Jt:=λ(x3:IV) (k0:List IV->Prop) (done:List Int) (hd:done.length<=100) (kn:List (List Int))=>arY (Q:=(·=aZ (iE r o order))) (k0:=k0) (x3:=x3) r h hf o order done hd kn;have VM:=λdone (hd:done.length<=100) n a ha=>afZ ab r h hf done hd n a ha;rw[bx]at*
 have hO:fG o=.agg [iI o.r,iI o.h,iB o.k]:=rfl;rw[hO]at*
 simp[am9,SE.den,ao];refine⟨rfl,?_⟩;unfold adH;refine az order.length (λi (q:List (List Int))=>[iI i,iL (o.h::order.take i),bg q]) (λi q=>q++hZ (r.aq++r.av) (o.h::order.take i) (order.drop i)=hZ (r.aq++r.av) [o.h] order/\q.length<=i) [] ?_ ax λi q hi hI=>?_
 .simp[SE.den,cellsOf]
 obtain⟨hI,yC⟩:=hI;by_cases aj:i<order.length
 .have mE:=aD aj ai;obtain⟨hv0,JN⟩:=hv _ (ayy aj);have jv:order[i]=((order[i].toNat:Nat):Int):=ai;have bJ:order[i].toNat<(r.aq++r.av).length:=ai;have sK:=VM (o.h::order.take i) (by simp;omega) order[i].toNat _ (ayv bJ);rw[<-jv]at sK
  have qV:gw (r.aq++r.av) order[i]=(r.aq++r.av)[order[i].toNat].ts:=by
   simp only[gw,if_pos hv0];rw[ayv bJ]
  rw[ay5 aj,hZ,qV]at hI;have bI:o.h::order.take (i+1)=(o.h::order.take i)++[order[i]]:=by rw[ayE aj];rfl
  have cd:=mI (a:=o.h::order.take i) (v:=order[i]) (by simp;omega);have lE:=Ah (a:=q) (v:=lM (r.aq++r.av) (o.h::order.take i) (r.aq++r.av)[order[i].toNat].ts) ai;simp only[]at*
  generalize hD:o.h::order.take i=D at*
  simp[SE.den,aj,mE,eF aj];refine⟨_,sK,?_⟩;simp[aF,cellsOf,cd,lE];refine .mk (q++[lM (r.aq++r.av) D (r.aq++r.av)[order[i].toNat].ts]) ?_ ai ⟨by rw[bI,<-hI];simp,by simp;omega⟩;rw[bI];rfl
 .rw[ay3 ai,hZ,ayO]at hI;subst hI;simp[SE.den,aj];rw[ayF ai];refine Jt _ _ _ (by simp;omega) _ ?_;rw[iE]
end
section
theorem VN{i kl n:Nat}{o:Oc}:o∈uo i kl n↔∃m:Nat,m<n/\o=⟨i,(m:Int),decide (m<kl)⟩:=by
 unfold uo;rw[azb];constructor
 .rintro⟨j,hj,rfl⟩;rw[aAv]at hj;exact⟨n- 1- j,by omega,rfl⟩
 .rintro⟨m,hm,rfl⟩;refine⟨n- 1- m,by rw[aAv];omega,?_⟩;rw[show n- 1-(n- 1- m)=m by omega]
structure Lk(p:Pg)(o:Oc)(i m:Nat)(r:Rl):Prop where
 ru:p.bc[i]?=aa r
 or:o.r=i
 oh:o.h=m
 lt:m<(r.aq++r.av).length
 ok:o.k=decide (m<r.aq.length)
theorem xg{p:Pg}{o:Oc}:o∈occs p.bc↔∃i m r,Lk p o i m r:=by
 unfold occs;rw[azJ];constructor
 .rintro⟨⟨r,i⟩,h1,h2⟩;rw[aCc]at h1;obtain⟨m,hm,rfl⟩:=VN.1 h2;exact⟨i,m,r,h1,rfl,rfl,by simpa using hm,rfl⟩
 .rintro⟨i,m,r,h⟩;refine⟨(r,i),by rw[aCc];exact h.ru,VN.2 ⟨m,by simpa using h.lt,?_⟩⟩;obtain⟨a,b,c⟩:=o;have:=h.or;have:=h.oh;have:=h.ok
  simp_all
def parts(n:Nat)(h:Int):List Int:=(nj n).filter (·!=h)
theorem CO(n:Nat)(h:Int):(parts n h).length<=n:=by
 have:=List.length_filter_le (·!=h) (nj n);rw[uZ]at this;exact this
theorem M0(n:Nat)(h:Int):parts (n+1) h=parts n h++if(n:Int)=h then[]else[(n:Int)]:=by
 unfold parts;rw[Vv,List.filter_append]
 congr 1
 by_cases e:(n:Int)=h<;>simp[e]
theorem u6{n:Nat}{h v:Int}:v∈parts n h↔(0<=v/\v<n)/\v≠h:=by
 unfold parts;rw[List.mem_filter,Et];simp
theorem QS(n:Nat):(nj n).Nodup:=by
 unfold nj;refine aBQ _ (λa b cn=>?_) (List.nodup_range (n:=n));exactλhe=>cn ai
theorem Dy(n:Nat)(h:Int):(parts n h).Nodup:=(QS n).filter _
section
variable{p:Pg}{o:Oc}{i m:Nat}{r:Rl}
theorem arZ(hp:jG p)(h:Lk p o i m r):aaM.sat ayu CC (·=iL (parts (r.aq++r.av).length m)) [] [aW p,fG o]:=by
 obtain⟨hi,gS⟩:=ayw.1 h.ru;have hl:=(hp.rs r (gS▸ayy hi)).h;have hR:=q8 hi;rw[gS]at hR;have hO:fG o=.agg [iI i,iI m,iB o.k]:=by rw[fG,h.or,h.oh]
 have hP:aW p=.agg [dO p.eN,jF p.bc]:=rfl;have hm:=h.lt;rw[ayC]at*
 generalize hn:r.aq.length+r.av.length=n at*
 have oO:(r.aq.length:Int)+r.av.length=n:=ai;have hw:ay1.wrap (n:Int)=n:=dD ai ai;rw[hO,hP];simp[aaM,SE.den,ao,hR,oO,hw,show¬n<=m by omega,show¬p.bc.length<=i by omega];right;right;unfold XH;refine az n (λj (q:List Int)=>[iI j,iL q]) (λj q=>q=parts j m) [] ?_ (by simp[parts,nj]) λj q hj hI=>?_
 .simp[SE.den]
 have yC:=CO j m;rw[<-hI]at yC;by_cases aj:j<n
 .have Aw:=aD aj ai;simp[SE.den,oO,hw,aj,Aw,aF,cellsOf];by_cases e:(j:Int)=m
  .right;exact⟨by omega,.mk _ rfl ai (by rw[M0,if_pos e,ayO,hI])⟩
  .left;refine⟨by omega,_,mI ai,.mk _ rfl ai (by rw[M0,if_neg e,hI])⟩
 .have VO:j=n:=ai;subst VO;simp[SE.den,oO,hw,hI,aF,cellsOf]
theorem ar0(hp:jG p)(h:Lk p o i m r)(h0:parts (r.aq++r.av).length m=[]):aaN.sat ayu CC (·=iL []) [] [aW p,fG o]:=by
 obtain⟨hi,gS⟩:=ayw.1 h.ru;have hl:=(hp.rs r (gS▸ayy hi)).h;have hR:=q8 hi;rw[gS]at hR;have hO:fG o=.agg [iI i,iI m,iB o.k]:=by rw[fG,h.or,h.oh]
 have hP:aW p=.agg [dO p.eN,jF p.bc]:=rfl;have hm:=h.lt;rw[ayC]at*
 generalize hn:r.aq.length+r.av.length=n at*
 have oO:(r.aq.length:Int)+r.av.length=n:=ai;have hw:ay1.wrap (n:Int)=n:=dD ai ai;rw[hO,hP];simp[aaN,SE.den,ao,hR,oO,hw,show¬n<=m by omega,show¬p.bc.length<=i by omega];right;right;unfold XI;refine az n (λj (_:Unit)=>[iI j]) (λj _=>True) () ?_ trivial λj q hj hI=>?_
 .simp[SE.den]
 by_cases aj:j<n
 .have Aw:=aD aj ai
  have e:(j:Int)=m:=by
   by_cases e:(j:Int)=m
   .exact e
   .have:(j:Int)∈parts n m:=u6.2 ⟨by omega,e⟩;rw[h0]at this;cases this
  simp[SE.den,oO,hw,aj,Aw];right;exact⟨by omega,.mk () rfl ai trivial⟩
 .have VO:j=n:=ai;subst VO;simp[SE.den,oO,hw]
theorem ani:bY ayu 82=1:=by kernel_rfl
theorem YN(p:Pg)(o:Oc):∀x∈[aW p,fG o],Pure x:=by
 intro x hx;rcases ayN.1 hx with rfl|hx
 .exact eO p
 obtain rfl:=ayQ.1 hx;exact uY o
theorem ahC(new:Bool)(hp:jG p)(h:Lk p o i m r):CC 1306 new [aW p,fG o] (iL (parts (r.aq++r.av).length m)):=by
 have h1:=ani
 have hc:oC ayu (bY ayu 82) 82 [aW p,fG o] ((parts (r.aq++r.av).length m).map iI):=by
  by_cases hn:parts (r.aq++r.av).length m=[]
  .exact .lT (nm:=ab) mixed qZ aqn kr (YN p o) (by rw[h1];exact q_ _) (CK _) ax (by rw[h1,hn];exact ar0 hp h hn)
  .exact .lT (nm:=af) mixed qZ aqm kr (YN p o) (by rw[h1];exact q_ _) (CK _) (λ_=>by simpa using hn) (by rw[h1];exact arZ hp h)
 have h2:=p_.fresh (new:=new) (s8 rfl) hc;rw[eE,ani]at h2;unfold CC;rw[eE];exact h2
end
def pO(n:Nat)(h:Int)(order:List Int):Bool:=decide ((parts n h).length=order.length)&&decide (∀v∈parts n h,v∈order)
theorem YO:∀(a b:List Int),a.Nodup->(∀v∈a,v∈b)->b.length=a.length->∀v∈b,v∈a
 |[],b,_,_,hl,v,hv=>by
  rw[ayZ hl]at hv;cases hv
 |x::a,b,hn,hs,hl,v,hv=>by
  obtain⟨b1,b2,rfl⟩:=aCT (hs x ax);have oO:=aAC.1 hn
  have ih:=YO a (b1++b2) oO.2 (λu hu=>by
   have:=hs u (azA _ hu);rw[ayS,ayN]at this;rw[ayS];rcases this with h|rfl|h
   .exact .inl h
   .exact absurd hu oO.1
   .exact .inr h) (by simp at hl⊢;omega)
  rw[ayS,ayN]at hv;rcases hv with h|rfl|h
  .exact azA _ (ih v (ay9 _ h))
  .simp
  .exact azA _ (ih v (azt _ h))
theorem OK{n:Nat}{h:Int}{order:List Int}(hp:pO n h order=ab):rY n order/\order.length<=n:=by
 unfold pO at hp;rw[ayz,decide_eq_true_eq,decide_eq_true_eq]at hp;refine⟨λv hv=>(u6.1 (YO _ _ (Dy n h) hp.2 hp.1.symm v hv)).1,?_⟩;rw[<-hp.1];exact CO n h
def nM(p:Pg)(x:Pn):Bool:=decide (x.o∈occs p.bc)&&match p.bc[x.o.r.toNat]? with
 |none=>af
 |some r=>pO (r.aq++r.av).length x.o.h x.aH&&decide (x=iE r x.o x.aH)
theorem Ih{p:Pg}{x:Pn}{i m:Nat}{r:Rl}(h:Lk p x.o i m r):nM p x=(pO (r.aq++r.av).length m x.aH&&decide (x=iE r x.o x.aH)):=by
 have hr:p.bc[x.o.r.toNat]?=aa r:=by rw[h.or];exact h.ru
 unfold nM;rw[decide_eq_true (xg.2 ⟨i,m,r,h⟩),hr,h.oh];rfl
theorem YP(p:Pg)(x:Pn):∀y∈[aW p,aZ x],Pure y:=by
 intro y hy;rcases ayN.1 hy with rfl|hy
 .exact eO p
 obtain rfl:=ayQ.1 hy;exact pe x
theorem k38(p:Pg)(hp:jG p)(hf:∀r∈p.bc,fY r)(x:Pn)(hx:wE x):CC 38 af [aW p,aZ x] (iB (nM p x)):=by
 refine CC.dJ au7 kr (λ_=>kr) (YP p x) (by rfl) ?_;have QT:=k81 p hp x.o;have hN:aZ x=.agg [iI x.o.r,iI x.o.h,iB x.o.k,iL x.aH,bg x.cM,bg x.cj]:=rfl;have hP:aW p=.agg [dO p.eN,jF p.bc]:=rfl;have hO:fG x.o=.agg [iI x.o.r,iI x.o.h,iB x.o.k]:=rfl;by_cases hm:x.o∈occs p.bc
 rotate_left
 .have hr:nM p x=af:=by unfold nM;rw[decide_eq_false hm];rfl
  rw[decide_eq_false hm,hP,hO]at QT;rw[hr,hN,hP];simp[afu,SE.den,ao];exact⟨_,QT,by simp⟩
 obtain⟨i,m,r,h⟩:=xg.1 hm;have gS:=h.ru;obtain⟨hi,gS⟩:=ayw.1 gS;have dt:r∈p.bc:=gS▸ayy hi;have lL:=hp.rs r dt;have hR:=q8 hi;rw[gS]at hR;rw[Ih h];have RR:=ahC ab hp h;rw[decide_eq_true hm]at QT;have afY:=(anc (parts (r.aq++r.av).length m) x.aH (by have:=CO (r.aq++r.av).length m;have:=lL.h;rw[ayC]at*;unfold Sm;omega) hx.o).CM (s8 rfl);have aa0:=avW x (iE r x.o x.aH) hx;have YQ:=k84 r lL (hf r dt) x.o x.aH;have hF:aZ (iE r x.o x.aH)=.agg [iI x.o.r,iI x.o.h,iB x.o.k,iL x.aH,bg (iE r x.o x.aH).cM,bg (iE r x.o x.aH).cj]:=rfl;generalize hfl:iE r x.o x.aH=y at*
 rw[bx]at YQ;rw[hP,hO]at QT RR;rw[hO]at YQ;rw[hN,hF]at aa0;rw[hF]at YQ;rw[hN,hP];have vo:cz 6 (jF p.bc) (iI x.o.r)=aa (.agg [iS r.name,dr r.aq,dr r.av,iX r.aw,iX r.aI,iI r.vars]):=by rw[h.or];exact hR
 have bu:=λhp=>OK (n:=(r.aq++r.av).length) (h:=(m:Int)) (order:=x.aH) hp;have hpE:pO (r.aq++r.av).length m x.aH=(decide ((parts (r.aq++r.av).length m).length=x.aH.length)&&decide (∀v∈parts (r.aq++r.av).length m,v∈x.aH)):=rfl;have wv:=lL.h;rw[<-ayC]at wv;generalize hPB:pO (r.aq++r.av).length m x.aH=pb at*
 generalize hPT:parts (r.aq++r.av).length (m:Int)=P at*
 generalize hN':(r.aq++r.av).length=n at*
 simp[afu,SE.den,ao];refine⟨_,QT,?_⟩;simp;refine⟨_,RR,?_⟩;simp;by_cases e1:P.length=x.aH.length
 rotate_left
 .left;exact⟨by omega,by rw[hpE,decide_eq_false e1];simp⟩
 right;refine⟨by omega,_,afY,?_⟩;by_cases e2:∀v∈P,v∈x.aH
 rotate_left
 .have:pb=af:=by rw[hpE,decide_eq_false e2,Bool.and_false]
  rw[this,decide_eq_false e2];simp
 have QU:pb=ab:=by rw[hpE,decide_eq_true e2,decide_eq_true e1];rfl
 obtain⟨ho,pV⟩:=bu QU;have YQ:=YQ ai ho;rw[QU,decide_eq_true e2,aAP];simp[vo];refine⟨_,YQ,?_⟩;simp;exact⟨_,aa0,by simp⟩
end
def anj:ak:=
 (uh (nC 8 9) (zq .gtr 3 10) (gh (mM 11 10) mO (.aV (AU 1 11 mO) (rD 240 (eW 11 10) (KT 1 11 mO 0) (.nt F5 (gh mO mO (gh (AU 1 11 mO) (mM 11 10) (rF 11 10 (F9 1 (.var 11) rH (KT 1 11 mO 0) (.aV (AU 1 13 mO) (F9 1 xz mO (eW 11 10) (Mx 5 3 10 1 14))))))) (iQ 4 8 11))))) (iQ 4 8 11))
def ank:ak:=
 (zD (ko eB 6) 8 6 anj (kH 3 9))
def anl:ak:=
 (iJ ank (kH 0 8))
def anm:ak:=
 (.loop .an (rB (Cg .sub tH) .leq (Cg .sub tH) 12 anl (mU fZ aY I4 I4)))
def ann:ak:=
 (zD mN 5 4 (rF 4 5 (rV 6 (eW 4 5) (ew 5 7))) (gh tH (xR tH) (kI 202 (xR tH) 7 anm)))
def ano:ak:=
 (qE (tq aY 16 (lz 21)) 27 26 1 (fj 26) 27 30 (Ck 3 (.var 29) (fj 30) lA (vU 5 27 28 31)) (tC 3 15 28 29 22 24))
def anp:ak:=
 (uh (tq aY 17 (B_ 18 oZ)) (sD 3 20 aY) (.fail 83) (IU 1 24 19 1 23 (HS xC (s7 .eql 3 15 xC) (kH 2 24) (pJ (mM 12 15) (eW 12 15) (tC 3 15 16 21 22 24) (oI (fU 14) (eW 12 15) (fU 14) (tC 3 15 16 21 22 24) (w7 2 xI (eW 12 15) (rI 2 25 164 25 25 (ig 26 26 ano))))))))
def anq:ak:=
 (.loop (j2 aY m9 (BX F0 oZ)) anp)
def anr:ak:=
 (jr dx 17 1 5 1 1 5 17 (F6 18 16 17 (Ce 93 (fj 18) 16 17 (il 19 19 (eA 3 17)))) dZ)
def ans:ak:=
 (jr (ik 14) 15 1 4 1 1 4 15 (F6 17 13 15 (Ce 93 mR 13 15 (il 18 18 (iQ 2 15 16)))) (Ci 1 5 Ja (BW 5) Ja (xw 5 anr)))
def ajc:ak:=
 (iJ (iP 33 (j2 m9 rP (MF rP tK tK aY)) (gi 14 (aaK 7 aY) (gh xC (F3 xC) (FZ 7 (F3 xC) anq)))) (Ci 1 4 (fO 13) xB (fO 13) (xw 4 ans)))
def ajd:ak:=
 (jr (wD aY 1 0 (BX pz zw)) 9 1 3 1 1 3 9 (dY 14 (zC 160 (j2 m9 rP (j2 rP tK (yQ tK aY rP))) 12 xI (dY 15 (I_ 24 13 mQ (qX xI (rV 12 xI (tC 1 9 10 11 17 16))))))) ajc)
def aje:ak:=
 (uh (j2 aY xG (lz 5)) (sD 3 6 F_) (zG (mM 8 6) (eW 8 6) xF (vU 0 6 7 8)) (FF 1 1 kK ajd))
def ajf:ak:=
 (iJ (zu 4 ann) (oF xG .neq xG bT (zu 5 aje)))
def ajg:ak:=
 (uh (nC 8 9) (zq .gtr 3 10) (gh (mM 11 10) mO (.aV (AU 1 11 mO) (rD 240 (eW 11 10) (KT 1 11 mO 0) (.nt F5 (gh mO mO (gh (AU 1 11 mO) (mM 11 10) (rF 11 10 (F9 1 (.var 11) rH (KT 1 11 mO 0) (.aV (AU 1 13 mO) (F9 1 xz mO (eW 11 10) (Mx 5 3 10 1 14))))))) (iQ 4 8 11))))) (iQ 4 8 11))
def ajh:ak:=
 (zD (ko eB 6) 8 6 ajg (kH 3 9))
def aji:ak:=
 (iJ ajh (kH 0 8))
def ajj:ak:=
 (.loop .an (rB (Cg .sub tH) .leq (Cg .sub tH) 12 aji (mU fZ aY I4 I4)))
def ajk:ak:=
 (zD mN 5 4 (rF 4 5 (rV 6 (eW 4 5) (ew 5 7))) (gh tH (xR tH) (kI 202 (xR tH) 7 ajj)))
def ajl:ak:=
 (qE (tq aY 16 (lz 21)) 27 26 1 (fj 26) 27 30 (Ck 3 (.var 29) (fj 30) lA (vU 5 27 28 31)) (tC 3 15 28 29 22 24))
def ajm:ak:=
 (uh (tq aY 17 (B_ 18 oZ)) (sD 3 20 aY) (.fail 83) (IU 1 24 19 1 23 (HS xC (s7 .eql 3 15 xC) (kH 2 24) (pJ (mM 12 15) (eW 12 15) (tC 3 15 16 21 22 24) (oI (fU 14) (eW 12 15) (fU 14) (tC 3 15 16 21 22 24) (w7 2 xI (eW 12 15) (rI 2 25 164 25 25 (ig 26 26 ajl))))))))
def ajn:ak:=
 (.loop (j2 aY m9 (BX F0 oZ)) ajm)
def ajo:ak:=
 (jr dx 17 1 5 1 1 5 17 (F6 18 16 17 (Ce 93 (fj 18) 16 17 (il 19 19 (eA 3 17)))) dZ)
def ajp:ak:=
 (jr (ik 14) 15 1 4 1 1 4 15 (F6 17 13 15 (Ce 93 mR 13 15 (il 18 18 (iQ 2 15 16)))) (Ci 1 5 Ja (BW 5) Ja (xw 5 ajo)))
def ajq:ak:=
 (iJ (iP 33 (j2 m9 rP (MF rP tK tK aY)) (gi 14 (aaK 7 aY) (gh xC (F3 xC) (FZ 7 (F3 xC) ajn)))) (Ci 1 4 (fO 13) xB (fO 13) (xw 4 ajp)))
def ajr:ak:=
 (jr (wD aY 1 0 (BX pz zw)) 9 1 3 1 1 3 9 (dY 14 (zC 160 (j2 m9 rP (j2 rP tK (yQ tK aY rP))) 12 xI (dY 15 (I_ 24 13 mQ (qX xI (rV 12 xI (tC 1 9 10 11 17 16))))))) ajq)
def ajs:ak:=
 (uh (j2 aY xG (lz 5)) (sD 3 6 F_) (zG (mM 8 6) (eW 8 6) xF (vU 0 6 7 8)) (FF 1 1 kK ajr))
def ajt:ak:=
 (iJ (zu 4 ajk) (oF xG .neq xG bT (zu 5 ajs)))
def OL:ak:=
 (uh (nC 11 12) (zq .gtr 3 13) (gh (mM 14 13) vT (.aV (AU 1 14 vT) (rD 240 (eW 14 13) (KT 1 14 vT 0) (.nt mQ (gh vT vT (gh (AU 1 14 vT) (mM 14 13) (rF 14 13 (F9 1 (.var 14) xz (KT 1 14 vT 0) (.aV (AU 1 16 vT) (F9 1 (.var 16) vT (eW 14 13) (Mx 5 3 13 1 17))))))) (iQ 4 11 14))))) (iQ 4 11 14))
def OM:ak:=
 (zD (ko eB 9) 11 9 OL (kH 3 12))
def YR:ak:=
 (iJ OM (kH 0 11))
def YS:ak:=
 (.loop .an (rB (Cg .sub (fO 9)) .leq (Cg .sub (fO 9)) 12 YR (mU F7 aY I4 I4)))
def ON:ak:=
 (zD mN 8 7 (rF 7 8 (rV 9 (eW 7 8) (ew 8 10))) (gh (fO 9) (xR (fO 9)) (kI 202 (xR (fO 9)) 10 YS)))
def OO:ak:=
 (qE dx 30 29 1 (fj 29) 30 31 (.bind (.ok (.rw (.get 3 (.var 25) (fj 31) oX))) (pG (.var 32) (RE 4 24 25 26 (lz 27)) (eA 5 30))) (rF 26 24 (F9 1 (.var 26) (.var 24) lA (xE 24 1 8 27 1 24 (RE 4 24 25 31 (lz 32))))))
def OP:ak:=
 (qE (tq aY 20 (lz 25)) 31 30 1 (fj 30) 31 34 (Ck 3 (.var 33) (fj 34) lA (vU 5 31 32 35)) (tC 3 19 32 33 26 28))
def OQ:ak:=
 (jr (tq aY 21 (B_ 22 oZ)) 24 4 3 3 4 3 24 (qo 3 28 (mM 26 24) (pG (eW 26 24) (iP 230 (fe 28 28 28) (ig 29 29 OO)) (RE 4 24 25 26 (lz 27)))) (IU 1 24 23 1 27 (HS (fO 15) (s7 .eql 3 19 (fO 15)) (kH 2 28) (pJ (mM 15 19) (eW 15 19) (tC 3 19 20 25 26 28) (oI (fU 17) (eW 15 19) (fU 17) (tC 3 19 20 25 26 28) (w7 2 mR (eW 15 19) (rI 2 29 164 29 29 (ig 30 30 OP))))))))
def OS:ak:=
 (.loop (wD aY 4 0 (rC F0 18 oZ)) (qy 4 3 OQ))
def OT:ak:=
 (jr dx 20 1 5 1 1 5 20 (F6 21 19 20 (Ce 93 (fj 21) 19 20 (il 22 22 (eA 3 20)))) dZ)
def OU:ak:=
 (jr (ik 17) 18 1 4 1 1 4 18 (F6 20 16 18 (Ce 93 (fj 20) 16 18 (il 21 21 (iQ 2 18 19)))) (Ci 1 5 (fO 19) (BW 5) (fO 19) (xw 5 OT)))
def OV:ak:=
 (iJ (iP 33 (d_ 4 4 4 4 4 4) (gi 17 (mc 4 3) (.bind (.dec 10 (mc 4 3) oX) (gh (fO 15) (F3 (fO 15)) (FZ 7 (F3 (fO 15)) OS))))) (Ci 1 4 Ja xB Ja (xw 4 OU)))
def OW:ak:=
 (jr (wD aY 1 0 (BX pz zw)) 12 1 3 1 1 3 12 (dY 17 (zC 160 (KN 4 0 4 1 4 2 4 3 (aax 4 4 4 5 bV)) 15 mR (dY 18 (I_ 24 16 (fj 18) (qX mR (rV 15 mR (tC 1 12 13 14 20 19))))))) OV)
def OX:ak:=
 (uh (j2 aY (fO 8) (lz 8)) (sD 3 9 rH) (zG (mM 11 9) (eW 11 9) (.var 9) (vU 0 9 10 11)) (FF 1 1 kK OW))
def OY:ak:=
 (iJ (zu 7 ON) (gh (fO 8) ek (ME (fO 8) ek (zu 8 OX))))
def af3:ak:=
 (nI 2 6 (kI 87 ij 2 (eL 86 cE (fe 1 1 1) (il 3 3 (xO .lss 1 0 (FF 1 1 (.rws rL) (Dn 1 8 zw rL ajf)) (oI gv pA gv (FF 1 1 (.rws rL) (Dn 1 8 zw rL ajt)) (zB 6 1 (fm 6 4 (zB 6 1 (qD 6 5 33 5 5 5 5 5 5 (gi 6 (HV 1 1) (.aV (.rws rL) (Dn 1 8 zw rL OY)))))))))))))
theorem awg:aE ayu (ahB [⟨1,32068,4,[(1,(17,0))],[],[(1,14),(1,13),(1,12),(1,11),(1,10)],[]⟩,⟨1,32062,4,[(1,(17,0))],[(20,0),(19,0),(17,0)],[(1,14),(1,13),(1,12),(1,11),(1,10)],[]⟩,⟨2,32057041,6,[(2,(9,0))],[(19,3),(20,0),(18,0),(19,0),(17,0)],[(2,23),(2,22),(2,21),(2,20),(2,19),(2,18),(2,17),(2,16),(2,15),(2,14),(2,13)],[]⟩,⟨2,32057041,8,[(2,(10,0)),(2,(29,0))],[(21,0),(19,3),(19,0),(18,3),(18,0)],[(2,26),(2,23),(2,22),(2,21),(2,20),(2,19),(2,18),(2,17),(2,16),(2,15),(2,14),(2,13)],[]⟩,⟨3,32057041068,2,[(3,(22,0))],[(18,0),(17,0)],[(2,65),(3,19),(3,18),(3,17),(3,16),(3,15),(3,14),(3,13),(3,12),(3,11),(3,10),(3,9),(3,8)],[]⟩,⟨1,32057,1000040,[],[(20,0),(19,0),(17,0)],[],[]⟩,⟨1,32057,4,[(1,(19,0))],[(16,3),(16,0),(14,1),(14,0),(13,4),(13,1),(13,0),(12,4)],[(1,16),(1,15),(1,14),(1,13),(1,12),(1,11)],[]⟩,⟨3,32034008011,1000027,[],[(9,0)],[],[]⟩,⟨0,32,8,[(0,(41,0)),(0,(42,0))],[(9,0)],[(0,39),(0,38),(0,37),(0,36),(0,35),(0,34),(0,33),(0,32),(0,31),(0,30),(0,29),(0,28),(0,27),(0,26),(0,25),(0,6),(0,24),(0,23),(0,17),(0,22),(0,21),(0,20),(0,19),(0,18),(0,16),(0,15),(0,14),(0,13),(0,12),(0,11)],[]⟩,⟨0,32,1000033,[],[(9,0)],[],[]⟩,⟨4,32034008011028,1,[(4,(6,0))],[(9,0)],[(4,9),(4,8)],[]⟩,⟨3,32057041043,2,[(3,(10,0))],[],[(2,36),(3,7)],[]⟩,⟨4,32034008011028,4,[(4,(7,0))],[(9,0)],[(4,15),(4,12),(4,11),(4,10),(4,9),(4,8)],[]⟩,⟨5,32034006005804000,1,[(5,(7,0))],[(9,0),(7,0)],[],[]⟩]) 400 af 32=af3:=by kernel_rfl
def ahD:ak:=
 (xr 7 (rE .geq bo aY (qy 0 6 (xA .lss bo (BS 6))) bT))
theorem ar1:aE ayu (cB []) 400 af 203=ahD:=by kernel_rfl
def ahE:ak:=
 (jQ (iP 266 bZ (.nt cE (xN 266 bo 3 3 dZ (xA .lss bZ bo)) (xA .lss bZ bo))))
theorem ar2:aE ayu (cB []) 400 af 240=ahE:=by kernel_rfl
def ant:ak:=
 (FY 3 1 (eL 156 bZ (fe 1 1 1) (tQ (xA .geq cE aY))))
theorem awh:aE ayu (cB []) 400 af 86=ant:=by kernel_rfl
section
def Ii(r:Rl)(hs:List At):IV:=.agg [iS r.name,dr r.aq,dr r.av,iX r.aw,iX r.aI,iI r.vars,dr hs]
theorem QV(r:Rl)(hs:List At):Pure (Ii r hs):=.agg _ ax
theorem aa9(r:Rl)(hs:List At)(v:Int):CC 203 af [Ii r hs,iI v] (iB (decide (0<=v/\v<hs.length))):=by
 refine CC.dJ ar1 kr (λ_=>kr) (by intro x hx;rcases ayN.1 hx with rfl|hx;exact QV r hs;obtain rfl:=ayQ.1 hx;simp) (by rfl) ?_;simp[ahD,Ii,SE.den,ao];by_cases h:0<=v
 .simp[h]
 .right;refine⟨by omega,?_⟩;simp[h]
section
variable{Q:IV->Prop}{k0 k1:List IV->Prop}{x0 x1 x2 x3 x5 x6 x7:IV}
theorem anu(i:Nat)(hi:i<1000)(ks l:List Int)(hl:Sm l)(hk:∀q,(∀v,v∈q↔v∈ks\/v∈l)->k0 [iI (i+1:Nat),iM q]):Og.sat ayu CC Q [k0] [x0,x1,x2,iI i,iM ks,x5,x6,x7,iL l]:=by
 have gD:=aD hi ai;unfold Og;refine az l.length (λj (q:List Int)=>[iI j,iM q]) (λj q=>∀v,v∈q↔v∈ks\/v∈l.take j) ks ?_ ax λj q hj hI=>?_
 .simp[SE.den]
 by_cases aj:j<l.length
 .have hw:=aD aj hl;have uy:=OG (G:=[iM q,iI l[j]]) (m:=.var 0) (key:=.var 1) (ks:=q) (k:=l[j]) rfl rfl;simp[SE.den]at uy;simp only[iI]at uy;simp[SE.den,aj,hw,eF aj];refine⟨_,uy,.mk _ rfl ai λv=>?_⟩;rw[CN,hI,ayE aj,ayS,ayQ,or_assoc]
 .simp[SE.den,aj,gD];rw[ayF ai]at hI;exact hk q hI
theorem anv(ks vs l:List Int)(eh:∀v,v∈ks↔v∈vs)(hl:Sm l)(i:Nat)(hi:i<1000)(out:List Int)(ho:out.length<=i)(x8:IV)
 (hy:(∀v∈l,v∈vs)->k1 [iI (i+1:Nat),iL (out++[(i:Int)])])(hn:(¬∀v∈l,v∈vs)->k1 [iI (i+1:Nat),iL out]):
 Oh.sat ayu CC Q [k0,k1] [x0,x1,x2,x3,iM ks,x5,iI i,iL out,x8,iL l]:=by
 have gD:=aD hi ai;unfold Oh;refine az l.length (λj (_:Unit)=>[iI j]) (λj _=>∀v∈l.take j,v∈vs) () ?_ ax λj _ hj hI=>?_
 .simp[SE.den]
 by_cases aj:j<l.length
 .have hw:=aD aj hl;have pM:=OI (G:=[iM ks,iI l[j]]) (m:=.var 0) (key:=.var 1) (ks:=ks) (k:=l[j]) rfl rfl;have A8:=OH (G:=[iM ks,iI l[j]]) (m:=.var 0) (key:=.var 1) (ks:=ks) (k:=l[j]) rfl rfl;simp[SE.den]at pM A8;simp only[iI]at pM A8;obtain⟨hq,qV,yw⟩:=A8;simp[SE.den,aj,hw,gD,eF aj,ao];refine⟨⟨_,pM⟩,iB (decide (l[j]∈ks)),⟨hq,qV,by rw[yw]⟩,?_⟩;by_cases z:l[j]∈ks
  .simp[z];exact .mk () rfl ai (aO aj hI ((eh _).1 z))
  .simp[z];exact hn λh=>z ((eh _).2 (h _ (ayy aj)))
 .have cb:=aU aj hI;simp[SE.den,aj,gD,aF,cellsOf,mI (show out.length<=100000000 by omega)];exact hy cb
theorem anw(x0:IV)(a:At)(fF:a.ts.length<=8)(hn:∀t∈a.ts,ou t)(hf:∀t∈a.ts,dA t)(vs ks:List Int)(eh:∀v,v∈ks↔v∈vs)(hQ:Q (iL (sI vs a.ts 0))):
 Oi.sat ayu CC Q [k0] [x0,x1,x2,x3,iM ks,.agg [iS a.s,iT a.ts]]:=by
 unfold Oi;refine az a.ts.length (λi (out:List Int)=>[iI i,iL out]) (λi out=>out++sI vs (a.ts.drop i) i=sI vs a.ts 0/\out.length<=i) [] ?_ ax λi out hi hI=>?_
 .simp[SE.den]
 obtain⟨hI,pV⟩:=hI;by_cases aj:i<a.ts.length
 .have h88:=c88 af a.ts[i] (hn _ (ayy aj)) (hf _ (ayy aj));have hl:=(gR λt ht=>by rw[ayQ.1 ht];exact hf _ (ayy aj):Vr (varsOf [a.ts[i]])).len;rw[YL aj]at hI;rw[bp]at h88;simp[SE.den,aj,ku aj,bp,ao];refine⟨_,h88,?_⟩;simp;refine anv ks vs _ eh (by unfold Sm;omega) i ai out pV _ (λhm=>?_) λhm=>?_
  .rw[VK,if_pos hm]at hI;exact .mk (out++[(i:Int)]) rfl ai ⟨by rw[<-hI];simp,by simp;omega⟩
  .rw[VK,if_neg hm]at hI;exact .mk out rfl ai ⟨by rw[<-hI];simp,by omega⟩
 .rw[ay3 ai,sI,ayO]at hI;simp[SE.den,aj,hI];exact hQ
end
theorem adL:adJ=RJ:=by rfl
theorem anx(r:Rl)(hs:List At)(hl:hs.length<=3)(fF:∀a∈hs,a.ts.length<=8)(gB:∀a∈hs,s9 a)(hf:∀a∈hs,∀t∈a.ts,WF t)(done:List Int)(hd:done.length<=100)(n:Nat)(a:At)(ha:hs[n]?=aa a):
 RJ.sat ayu CC (w9 (·=lM hs done a.ts)) [] [Ii r hs,iL done,iI n]:=by
 have dt:=ayM ha;obtain⟨hn,zf⟩:=ayw.1 ha;have hAn:=gK hn;rw[zf]at hAn;have Vs:=aa9 r hs;simp only[Ii]at*
 simp[RJ,SE.den,ao];unfold X4;refine az done.length (λi (q:List Int)=>[iI i,iM q]) (λi q=>∀v,v∈q↔v∈eP (kL hs (done.take i))) [] ?_ (by simp[kL,eP]) λi q hi hI=>?_
 .simp[SE.den]
 by_cases aj:i<done.length
 .have hw:=aD aj ai;have bI:=zL (hs:=hs) aj;simp[SE.den,aj,hw,eF aj,ao];refine⟨_,Vs _,?_⟩;by_cases z:0<=done[i]/\done[i]<hs.length
  rotate_left
  .rw[decide_eq_false z];simp;refine .mk q rfl ai λv=>?_;rw[hI,bI]
   have:gw hs done[i]=[]:=by
    unfold gw;split
    .rw[azU ai]
    .rfl
   rw[this,ayO]
  rw[decide_eq_true z];have jv:done[i]=((done[i].toNat:Nat):Int):=ai;have bJ:done[i].toNat<hs.length:=ai;have hA:=gK bJ;rw[<-jv]at hA;have hm:=ayy bJ;have JZ:=c46 af hs[done[i].toNat] (gB _ hm) (λt ht=>(hf _ hm t ht).2)
  have ya:Sm (varsOf hs[done[i].toNat].ts):=by
   have:=(gR λt ht=>(hf _ hm t ht).2).len;unfold Sm;omega
  have qV:gw hs done[i]=hs[done[i].toNat].ts:=by
   simp only[gw,if_pos z.1];rw[ayv bJ]
  simp[hA];refine⟨_,JZ,?_⟩;simp;refine anu i ai q _ ya λq' GN=>.mk q' rfl ai λv=>?_;rw[GN,hI,bI,mf,ayS,qV,jt]
 .rw[ayF ai]at hI;simp[SE.den,aj,hAn,ao];refine anw _ a (fF a dt) (gB a dt).2.2 (λt ht=>(hf a dt t ht).2) (varsOf (kL hs done)) q (λv=>by rw[hI,jt]) ?_;rw[w_,lM]
theorem awi(new:Bool)(r:Rl)(hs:List At)(hl:hs.length<=3)(fF:∀a∈hs,a.ts.length<=8)(gB:∀a∈hs,s9 a)(hf:∀a∈hs,∀t∈a.ts,WF t)(done:List Int)(hd:done.length<=100)(n:Nat)(a:At)(ha:hs[n]?=aa a):
 CC 160 new [Ii r hs,iL done,iI n] (iL (lM hs done a.ts)):=by
 have hp:∀x∈[Ii r hs,iL done,iI n],Pure x:=by
  intro x hx;rcases ayN.1 hx with rfl|hx
  .exact QV r hs
  rcases ayN.1 hx with rfl|hx
  .simp
  obtain rfl:=ayQ.1 hx;simp
 cases new with
 |false=>exact CC.tS aqI kr (λ_=>kr) hp (by rfl) (anx r hs hl fF gB hf done hd n a ha)
 |true=>exact CC.tS ana kr (λ_=>kr) hp (by rfl) (adL▸anx r hs hl fF gB hf done hd n a ha)
end
section
def Ij(k:Int):IV:=.aL [iI k,iB ab]
abbrev zg(ks:List Int):IV:=.aL (ks.map Ij)
theorem QW:∀ks:List Int,qQ (ks.map Ij)=aa (ks.map (aAc .i64))
 |[]=>rfl
 |k::ks=>by simp[qQ,Ij,Ev.keyOf,QW ks]
theorem Gr(ks:List Int)(k:Int):(k∈ks->∃i,jl ayu 3 (ks.map Ij) (iI k)=aa (aa i)/\ks[i]?=aa k)/\(k∉ks->jl ayu 3 (ks.map Ij) (iI k)=aa ah):=by
 have h:jl ayu 3 (ks.map Ij) (iI k)=nowAt (.int .i64) (.int .i64 k) (ks.map (aAc .i64)) 0:=by
  unfold jl;rw[QW];simp[Ea,Ev.keyOf]
 rw[h];have:=Lg k ks 0;simpa using this
theorem af4{G:List IV}{m key:SE}{ks:List Int}{k:Int}(h1:m.den ayu G=aa (zg ks))(h2:key.den ayu G=aa (iI k)):(SE.ins 3 m key (.b ab)).den ayu G=aa (zg (Ig ks k)):=by
 simp only[SE.den,h1,h2,ayx];by_cases hm:k∈ks
 .obtain⟨i,g1,g2⟩:=(Gr ks k).1 hm;rw[g1];simp only[Ig,if_pos hm];rw[VG];rw[ayR,g2];rfl
 .rw[(Gr ks k).2 hm];simp[Ig,if_neg hm,Ij]
theorem af5{G:List IV}{m key:SE}{ks:List Int}{k:Int}(h1:m.den ayu G=aa (zg ks))(h2:key.den ayu G=aa (iI k)):(SE.get 3 m key (.b af)).den ayu G=aa (iB (decide (k∈ks))):=by
 simp only[SE.den,h1,h2,ayx];by_cases hm:k∈ks
 .obtain⟨i,g1,g2⟩:=(Gr ks k).1 hm;rw[g1];simp[g2,Ij,hm]
 .rw[(Gr ks k).2 hm];simp[hm]
abbrev CP(l:List Bool):IV:=.tree 1 (l.map iB)
theorem anz{l:List Bool}{i:Nat}(h:i<l.length):cz 1 (CP l) (iI (i:Nat))=aa (iB l[i]):=ef (by simp[h]) rfl
theorem ar3{l:List Bool}{i:Nat}(b:Bool)(h:i<l.length):AK 1 (CP l) (iI (i:Nat)) (iB b)=aa (CP (l.set i b)):=by
 simp[AK,ie,h,cellsOf,aDU]
def wg(hs:List At)(done:List Int)(k:Nat)(g:Gl):Bool:=fH hs (done.take k) g
def uz(hs:List At)(done:List Int)(k:Nat)(g:Gl):Bool:=if k=0 then af else wg hs done (k- 1) g
def A9(hs:List At)(done:List Int)(k:Nat)(g:Gl):Bool:=wg hs done k g&& !uz hs done k g
theorem abc{hs:List At}{done:List Int}{j k:Nat}(h:j<=k):∀v∈varsOf (kL hs (done.take j)),v∈varsOf (kL hs (done.take k)):=by
 intro v hv;rw[jt]at*
 have:done.take k=done.take j++(done.take k).drop j:=by
  have:=azE j (done.take k);rw[List.take_take,aBx h]at this;exact this.symm
 rw[this];unfold kL at*
 rw[aA3,mf,ayS];exact .inl hv
theorem aju{hs:List At}{done:List Int}{k:Nat}{g:Gl}(h:uz hs done k g=ab):wg hs done k g=ab:=by
 unfold uz at h;split at h
 .cases h
 .unfold wg fH at*
  rw[decide_eq_true_eq]at*
  exactλv hv=>abc ai v (h v hv)
theorem adM{hs:List At}{gs:List Gl}{done:List Int}{k:Nat}(h:k<(eQ hs gs done).length):(eQ hs gs done)[k]=gM (A9 hs done k) gs 0:=by
 cases k with
 |zero=>
  show gM (fH hs []) gs 0=_
  congr 1
  funext g;simp[A9,uz,wg]
 |succ k=>simp[eQ];rfl
def A_(f g:Gl->Bool)(gs:List Gl)(i:Nat):List Bool:=(gs.take i).map f++(gs.drop i).map g
theorem YT(f g:Gl->Bool)(gs:List Gl)(i:Nat):(A_ f g gs i).length=gs.length:=by
 simp[A_];omega
theorem anA{f g:Gl->Bool}{gs:List Gl}{i:Nat}(h:i<gs.length):(A_ f g gs i)[i]'(by rw[YT];exact h)=g gs[i]:=by
 unfold A_;rw[List.getElem_append_right (by simp;omega)];simp[aBx (aD0 h)]
theorem ajv{f g:Gl->Bool}{gs:List Gl}{i:Nat}(h:i<gs.length):(A_ f g gs i).set i (f gs[i])=A_ f g gs (i+1):=by
 unfold A_;have hz:i-((gs.take i).map f).length=0:=by rw[aAq,azq];omega
 rw[ay5 h,ayE h,azs,aAx,aBq _ _ (by rw[aAq,azq];omega),hz,List.set_cons_zero];simp only[azs,aCb,ayJ,aCC]
theorem af6{f g:Gl->Bool}{gs:List Gl}{i:Nat}(h:i<gs.length)(he:f gs[i]=g gs[i]):A_ f g gs i=A_ f g gs (i+1):=by
 unfold A_;rw[ay5 h,ayE h,azs,aAx];simp only[azs,aCb,ayJ,aCC,he]
def abd(ks vs:List Int):Bool:=decide (∀v∈vs,v∈ks)
theorem anB{ks vs:List Int}(h:∀v∈vs,v∈ks):abd ks vs=ab:=decide_eq_true h
theorem anC{ks vs:List Int}(h:¬∀v∈vs,v∈ks):abd ks vs=af:=decide_eq_false h
theorem ajw{hs:List At}{done:List Int}{k:Nat}{g:Gl}{ks:List Int}(eh:∀v,v∈ks↔v∈varsOf (kL hs (done.take k))):wg hs done k g=abd ks (varsOf g.ts):=by
 unfold wg fH abd;rw[decide_eq_decide];exact⟨λh v hv=>(eh v).2 (h v hv),λh v hv=>(eh v).1 (h v hv)⟩
section
variable{Q:IV->Prop}{k0 k1 k2 k3 k4:List IV->Prop}{x0 x1 x2 x3 x4 x5 x6 x7 x8 x9 bN bW cT cG cV gp dP eT g_ gj iZ ow wG wF Vq x25 YE x27 x28 x29:IV}
theorem anD(i:Nat)(hi:i<1000)(ks vs:List Int)(db:Sm vs)(pl:List Bool)(ir:i<pl.length)(now:List Int)(ays:now.length<=1000)
 (hy:(∀v∈vs,v∈ks)->k4 [iI (i+1:Nat),zg ks,CP (pl.set i ab),iL (now++[(i:Int)])])
 (hn:(¬∀v∈vs,v∈ks)->k4 [iI (i+1:Nat),zg ks,CP pl,iL now]):
 OO.sat ayu CC Q [k0,k1,k2,k3,k4] [x0,x1,x2,x3,x4,x5,x6,x7,x8,x9,bN,bW,cT,cG,cV,gp,dP,eT,g_,gj,iZ,ow,wG,wF,iI i,zg ks,CP pl,iL now,x28,iL vs]:=by
 have gD:=aD hi ai;unfold OO;refine az vs.length (λj (_:Unit)=>[iI j]) (λj _=>∀v∈vs.take j,v∈ks) () ?_ ax λj _ hj hI=>?_
 .simp[SE.den]
 by_cases aj:j<vs.length
 .have hw:=aD aj db;have pM:=af5 (G:=[zg ks,iI vs[j]]) (m:=.var 0) (key:=.var 1) (ks:=ks) (k:=vs[j]) rfl rfl;simp[SE.den]at pM;simp only[iI]at pM;simp[SE.den,aj,hw,gD,eF aj];rw[pM];refine⟨iB (decide (vs[j]∈ks)),rfl,?_⟩;by_cases z:vs[j]∈ks
  .simp[z];exact .mk () rfl ai (aO aj hI z)
  .simp[z];exact hn λh=>z (h _ (ayy aj))
 .have cb:=aU aj hI;simp[SE.den,aj,gD,aF,cellsOf,mI (show now.length<=100000000 by omega),anz ir,ar3 ab ir];exact hy cb
theorem anE(k:Nat)(hk:k<1000)(ks vs:List Int)(db:Sm vs)(hc:∀q,(∀v,v∈q↔v∈ks\/v∈vs)->k3 [iI (k+1:Nat),iZ,zg q,YE,x28]):
 OP.sat ayu CC Q [k0,k1,k2,k3,k4] [x0,x1,x2,x3,x4,x5,x6,x7,x8,x9,bN,bW,cT,cG,cV,gp,dP,eT,g_,iI k,iZ,ow,wG,wF,Vq,zg ks,YE,x27,x28,x29,iL vs]:=by
 have MZ:=aD hk ai;unfold OP;refine az vs.length (λj (q:List Int)=>[iI j,iZ,zg q]) (λj q=>∀v,v∈q↔v∈ks\/v∈vs.take j) ks ?_ ax λj q hj hI=>?_
 .simp[SE.den]
 by_cases aj:j<vs.length
 .have hw:=aD aj db;have uy:=af4 (G:=[zg q,iI vs[j]]) (m:=.var 0) (key:=.var 1) (ks:=q) (k:=vs[j]) rfl rfl;simp[SE.den]at uy;simp only[iI]at uy;simp[SE.den,aj,hw,eF aj];refine⟨_,uy,.mk _ rfl ai λv=>?_⟩;rw[CN,hI,ayE aj,ayS,ayQ,or_assoc]
 .simp[SE.den,aj,MZ];rw[ayF ai]at hI;exact hc q hI
theorem anF(r:Rl)(h:iY r)(gB:qG r)(hf:fY r)(hs:List At)(QE:hs=r.aq++r.av)(done:List Int)(hd:done.length<=100)(k:Nat)(hk:k<=done.length)(ks:List Int)(eh:∀v,v∈ks↔v∈varsOf (kL hs (done.take k)))(out:List (List Int))(pV:out.length<=1000)
 (ar4:k=done.length->k2 [bg (out++[gM (A9 hs done k) r.aw 0])])
 (abe:k<done.length->∀q,(∀v,v∈q↔v∈varsOf (kL hs (done.take (k+1))))->k3 [iI (k+1:Nat),iZ,zg q,CP (r.aw.map (wg hs done k)),bg (out++[gM (A9 hs done k) r.aw 0])]):
 OQ.sat ayu CC Q [k0,k1,k2,k3] [x0,x1,x2,x3,bP r,x5,x6,x7,x8,x9,bN,bW,cT,cG,cV,iL done,dP,dr hs,g_,iI k,iZ,zg ks,CP (r.aw.map (uz hs done k)),bg out]:=by
 have hg6:=h.g;have MZ:=aD (show k<1000 by omega) ai;have hgG:∀g∈r.aw,s_ g/\∀t∈g.ts,WF t:=λg hg=>⟨gB.gs g (ay9 _ hg),(hf.gs g (ay9 _ hg)).2⟩;have hhA:∀a∈hs,s9 a/\∀t∈a.ts,WF t:=λa ha=>⟨gB.hs a (QE▸ha),hf.hs a (QE▸ha)⟩;rw[bx];unfold OQ;refine az r.aw.length (λi (now:List Int)=>[iI i,zg ks,CP (A_ (wg hs done k) (uz hs done k) r.aw i),iL now]) (λi now=>now++gM (A9 hs done k) (r.aw.drop i) i=gM (A9 hs done k) r.aw 0/\now.length<=i) [] ?_ ax λi now hi hI=>?_
 .simp[SE.den,A_]
 obtain⟨hI,GF⟩:=hI;by_cases aj:i<r.aw.length
 .have hw:=aD aj ai;have ir:i<(A_ (wg hs done k) (uz hs done k) r.aw i).length:=by rw[YT];exact aj
  have wq:=anz ir;rw[anA aj]at wq;have Dh:=ajv (f:=wg hs done k) (g:=uz hs done k) aj;have By:=af6 (f:=wg hs done k) (g:=uz hs done k) aj;obtain⟨hgn,hgw⟩:=hgG _ (ayy aj);rw[OJ aj]at hI;simp[SE.den,aj,hw,gJ aj,ao,wq,cellsOf];cases hb:uz hs done k r.aw[i]with
  |true=>
   have hr:=aju hb;right;rw[A9,hb,hr]at hI;simp[yR]at hI;refine⟨by simp,.mk now ?_ ai ⟨hI,by omega⟩⟩;rw[By (by rw[hb,hr])];rfl
  |false=>
   left;have J0:=c87 af r.aw[i] hgn (λt ht=>(hgw t ht).2);have ya:=(gR λt ht=>(hgw t ht).2:Vr (varsOf r.aw[i].ts)).len;have fg:=ajw (g:=r.aw[i]) eh;refine⟨by simp,_,J0,?_⟩;simp;refine anD i ai ks _ (by unfold Sm;omega) _ ir now ai (λhm=>?_) λhm=>?_
   .rw[anB hm]at fg;rw[A9,hb,fg]at hI;rw[fg]at Dh;rw[Dh];simp[yR]at hI;exact .mk (now++[(i:Int)]) rfl ai ⟨by rw[<-hI];simp,by simp;omega⟩
   .rw[anC hm]at fg;rw[A9,hb,fg]at hI;simp[yR]at hI;refine .mk now ?_ ai ⟨hI,by omega⟩;rw[By (by rw[hb,fg])]
 .have sN:i=r.aw.length:=ai;rw[ay3 ai,gM,ayO]at hI
  have hpd:A_ (wg hs done k) (uz hs done k) r.aw i=r.aw.map (wg hs done k):=by
   unfold A_;rw[sN];simp
  rw[hpd];subst hI;have hc:=Ah (a:=out) (v:=gM (A9 hs done k) r.aw 0) ai;simp[SE.den,aj,hc,ao,cellsOf];by_cases qw:k=done.length
  .left;exact⟨by omega,ar4 qw⟩
  right;have lH:k<done.length:=ai;have bI:=zL (hs:=hs) lH;refine⟨by omega,?_⟩;simp[eF lH,MZ];by_cases z0:done[k]<0
  .left;refine⟨z0,abe lH ks λv=>?_⟩;rw[eh,bI];have:gw hs done[k]=[]:=by unfold gw;rw[if_neg ai]
   rw[this,ayO]
  right;refine⟨by omega,?_⟩;by_cases z1:(hs.length:Int)<=done[k]
  .left;refine⟨z1,abe lH ks λv=>?_⟩;rw[eh,bI]
   have:gw hs done[k]=[]:=by
    unfold gw;rw[if_pos ai,azU ai]
   rw[this,ayO]
  right;refine⟨by omega,?_⟩;have jv:done[k]=((done[k].toNat:Nat):Int):=ai;have bJ:done[k].toNat<hs.length:=ai;have hA:=gK bJ;rw[<-jv]at hA;obtain⟨qV,yw⟩:=hhA _ (ayy bJ);have JZ:=c46 af hs[done[k].toNat] qV (λt ht=>(yw t ht).2);have ya:=(gR λt ht=>(yw t ht).2:Vr (varsOf hs[done[k].toNat].ts)).len
  have JI:gw hs done[k]=hs[done[k].toNat].ts:=by
   simp only[gw,if_pos (show 0<=done[k] by omega)];rw[ayv bJ]
  simp[hA];refine⟨_,JZ,?_⟩;simp;refine anE k ai ks _ (by unfold Sm;omega) λq hq=>abe lH q λv=>?_;rw[hq,eh,bI,jt,jt,jt,JI,mf,ayS]
theorem anG(r:Rl)(h:iY r)(gB:qG r)(hf:fY r)(hs:List At)(QE:hs=r.aq++r.av)(done:List Int)(hd:done.length<=100)(mq:k2 [bg (eQ hs r.aw done)]):
 OS.sat ayu CC Q [k0,k1,k2] [x0,x1,x2,x3,bP r,x5,x6,x7,x8,x9,bN,bW,cT,cG,cV,iL done,dP,dr hs,CP (r.aw.map λ_=>af)]:=by
 unfold OS;refine eM (λ(a:Nat×List Int)=>[iI a.1,iS r.name,zg a.2,CP (r.aw.map (uz hs done a.1)),bg ((eQ hs r.aw done).take a.1)]) (λa=>a.1<=done.length/\∀v,v∈a.2↔v∈varsOf (kL hs (done.take a.1))) (λa=>done.length- a.1) (0,[]) ?_ ⟨by omega,by simp[kL,jt,eP]⟩ λa ha=>?_
 .simp[SE.den,bx,uz]
 obtain⟨k,ks⟩:=a;obtain⟨qV,yw⟩:=ha;simp only at qV yw;have hl:k<(eQ hs r.aw done).length:=by rw[pN];omega
 have bI:=adM hl
 have SL:(eQ hs r.aw done).take k++[gM (A9 hs done k) r.aw 0]=(eQ hs r.aw done).take (k+1):=by
  rw[ayE hl,bI]
 have hw:=anF (Q:=Q) (k0:=k0) (k1:=k1) (k2:=k2) (k3:=UI (λ(a:Nat×List Int)=>[iI a.1,iS r.name,zg a.2,CP (r.aw.map (uz hs done a.1)),bg ((eQ hs r.aw done).take a.1)]) (λa=>a.1<=done.length/\∀v,v∈a.2↔v∈varsOf (kL hs (done.take a.1))) (λa=>done.length- a.1) (k,ks))
  (x0:=x0) (x1:=x1) (x2:=x2) (x3:=x3) (x5:=x5) (x6:=x6) (x7:=x7) (x8:=x8) (x9:=x9) (bN:=bN) (bW:=bW) (cT:=cT) (cG:=cG) (cV:=cV) (dP:=dP) (g_:=CP (r.aw.map λ_=>af)) (iZ:=iS r.name)
  r h gB hf hs QE done hd k qV ks yw ((eQ hs r.aw done).take k) (by simp[pN];omega) (λqw=>by
    rw[SL,ayF (by rw[pN];omega)];exact mq) (λlH q hq=>.mk (k+1,q) (by
    rw[SL];simp[uz]) ⟨by simp;omega,hq⟩ (by simp;omega))
 rw[bx]at*
 simp[SE.den];exact hw
end
end
def ar5:List Nat:=[203,160,216,175,240,266,11,31,24,25,7,69,8,13,14,257,72,26,71,137,70,139,210,225,145,183,75,76,111,65,112,136,186,140,184,248,224,211,170,138,249,185,9,28,27,143,77,142,141,74,144,73,146,78,18,39,16,82,44,150,188,189,29,79,80,149,187,147,10,148,30,38,104,83,84,81,168,103,62,108,42,169,107,106,45,64,63,135,110,46,66,21,12,20,23,105,40,43,41,113,171,215,174,161,48,98,97,116,115,268,192,154,227,87,33,51,212,94,47,114,32,85,155,233,199,101,50,49,164,230,194,166,204,202,99,86,95,93,156,162,280]
def awj:List Nat:=[34,35,36,37,89,100,151,190,234]
def awk:List Nat:=[235,236,237,238,239,241,242]
def awl:List Nat:=[185,247,209,173000151,500195,500196,500040,500041,500043,500082,500140]
def ahF(l:List Hint):eS:=⟨ar5,awj,awk,l++[⟨999997,0,0,[],[],[],[]⟩,⟨999999,0,0,[],[],[],[]⟩],awl⟩
def ahG:ak:=
 (dY 0 (xA .neq bZ bZ))
theorem ar6:aE ayu (ahF []) 400 af 266=ahG:=by kernel_rfl
def YU:ak:=
 (Cn 2 3 2 (RD 3 3 28 (fe 1 1 1) (fe 3 3 3) vV lX) xx)
def ahH:ak:=
 (FY 3 1 (Cc YU))
theorem ar7:aE ayu (ahF [⟨0,156,2,[(0,(8,0))],[],[],[]⟩]) 400 af 156=ahH:=by kernel_rfl
end Go.Proofs.YtabefplkfkfdfaaGreat
namespace Go.Ev
open Go.RowKit
section
variable{P:Program}
end
section
variable{P:Program}
def abf:Value->Value->Bool
 |.int k n,.int k' n'=>decide (k=k')&&decide (n=n')
 |.bool a,.bool b=>a==b
 |.string a,.string b=>decide (a=b)
 |_,_=>af
theorem af7{a b:Value}(h:abf a b=ab):a=b:=by
 unfold abf at h;split at h
 .simp only[ayz,decide_eq_true_eq]at h;rw[h.1,h.2]
 .rw[beq_iff_eq]at h;rw[h]
 .rw[decide_eq_true_eq]at h;rw[h]
 .cases h
def Ik(p:IV->IV->Bool):List IV->List IV->Bool
 |[],[]=>ab
 |a::a_,b::bs=>p a b&&Ik p a_ bs
 |_,_=>af
theorem zM{p:IV->IV->Bool}:∀{a_ bs:List IV},Ik p a_ bs=ab->a_.length=bs.length/\∀(i:Nat) a b,a_[i]?=aa a->bs[i]?=aa b->p a b=ab
 |[],[],_=>⟨rfl,λi a b h=>by simp at h⟩
 |a::a_,b::bs,h=>by
  simp only[Ik,ayz]at h;obtain⟨h1,h2⟩:=zM h.2;refine⟨by simp[h1],λi=>?_⟩;cases i with
  |zero=>intro a' b' e1 e2;simp at e1 e2;subst e1 e2;exact h.1
  |succ i=>intro a' b' e1 e2;simp at e1 e2;exact h2 i a' b' e1 e2
 |[],_::_,h=>by simp[Ik]at h
 |_::_,[],h=>by simp[Ik]at h
def Il(Y:St):Nat->IV->IV->Bool
 |0,_,_=>af
 |f+1,x,z=>
  match z with
  |.raw u=>match x with
   |.raw v=>abf v u
   |_=>af
  |.agg ds=>match x with
   |.agg cs=>Ik (Il Y f) cs ds
   |_=>af
  |.aL ds=>match x with
   |.aL cs=>Ik (Il Y f) cs ds
   |_=>af
  |.tree s es=>match x with
   |.raw (.slice ah l c)=>es.isEmpty&&Nat.blt 0 s&&ayI l 0&&ayI c 0
   |.emp=>es.isEmpty&&Nat.blt 0 s
   |.tree s' aQ=>es.isEmpty&&aQ.isEmpty&&ayI s s'
   |.sl id off len _ ep s'=>match Y.at id with
    |some (.cells cs aB mn)=>azD mn ep&&azD ep aB&&ayI es.length len&&azD (off+len*s) cs.length&&ayI s s'&&
      es.zipIdx.all λ(e,i)=>ayI (cellsOf e).length s&&(cellsOf e).zipIdx.all λ(d,j)=>match cs[off+i*s+j]? with
       |some c=>Il Y f c d
       |none=>ab
    |_=>af
   |_=>af
  |_=>af
theorem wh{fr:Bool}{Y:St}:∀{f:Nat} {x z:IV},Il Y f x z=ab->Can fr Y x z
 |0,_,_,h=>by simp[Il]at h
 |f+1,x,z,h=>by
  unfold Il at h;split at h
  .split at h
   .rw[af7 h];exact .raw _
   .cases h
  .split at h
   .obtain⟨h1,h2⟩:=zM h;exact .agg _ _ h1 λi c d e1 e2=>wh (h2 i c d e1 e2)
   .cases h
  .split at h
   .obtain⟨h1,h2⟩:=zM h;exact .aL _ _ h1 λi c d e1 e2=>wh (h2 i c d e1 e2)
   .cases h
  .split at h
   .rename_i es _ l c;simp only[ayz,az8,aCq,azc]at h;obtain⟨⟨⟨h1,h2⟩,h3⟩,h4⟩:=h;subst h1 h3 h4;exact .nil _ h2
   .simp only[ayz,az8,aCq]at h;obtain⟨h1,h2⟩:=h;subst h1;exact .emp _ h2
   .simp only[ayz,az8,azc]at h;obtain⟨⟨h1,h2⟩,h3⟩:=h;subst h1 h2 h3;exact .eu _
   .split at h
    .rename_i aK;simp only[ayz,azc,Nat.ble_eq,List.all_eq_true]at h;obtain⟨⟨⟨⟨⟨h1,h2⟩,h3⟩,h4⟩,h5⟩,h6⟩:=h;subst h5;refine .sl _ _ _ _ _ _ _ _ _ _ aK h1 h2 h3 h4 (λe he=>?_) λi e j c d e1 e2 e3=>?_
     .obtain⟨i,hi,rfl⟩:=List.getElem_of_mem he;exact(h6 (_,i) (az6.2 (ayv hi))).1
     .have:=(h6 (e,i) (az6.2 e1)).2 (d,j) (az6.2 e2);simp only[e3]at this;exact wh this
    .cases h
   .cases h
  .cases h
abbrev Hk:=FuncId->List (List IV×IV)
def hit(Y:St)(args:List IV):List (List IV×IV)->Option IV
 |[]=>ah
 |(xs,z)::l=>if Ik (Il Y 40) args xs then aa z else hit Y args l
theorem QX{Y:St}{args:List IV}{z:IV}:∀{l:List (List IV×IV)},hit Y args l=aa z->∃xs,(xs,z)∈l/\Ns ab Y args xs
 |[],h=>by cases h
 |(xs,y)::l,h=>by
  rw[hit]at h;split at h
  .rename_i ha;cases h;obtain⟨h1,h2⟩:=zM ha;exact⟨xs,.head _,h1,λi c d e1 e2=>wh (h2 i c d e1 e2)⟩
  .obtain⟨yd,h1,h2⟩:=QX h;exact⟨yd,.tail _ h1,h2⟩
def VP(H:Hk)(S:Self):Self:=⟨S.code,λro f args Y=>match hit Y args (H f)with
 |some z=>aa (z,Y)
 |none=>S.call ro f args Y,S.cw,S.yS⟩
def VQ(P:Program)(H:Hk)(n:Nat):Self:=Nat.rec Self.none (λ_ S=>VP H (nf P S)) n
theorem adN{H:Hk}{S:Self}(hH:∀f xs z,(xs,z)∈H f->dX P af ab f xs z)(hC:ff P S):ff P (VP H S) where
 call:=by
  intro N ro f args Y v al h hN Z us w hi hr;simp only[VP]at h;split at h
  .rename_i z hz;cases h;obtain⟨xs,h1,h2⟩:=QX hz;exact((hH f xs _ h1).Rc (ro:=ro) h2).2 N hN Z us w hi hr
  .exact hC.call N ro f args Y v al h hN Z us w hi hr
 cw:=hC.cw
 yS:=hC.yS
 DT:=hC.DT
theorem adO{H:Hk}{S:Self}(hk:bS S):bS (VP H S) where
 call:=by
  intro ro f args Y v al h;simp only[VP]at h;split at h
  .cases h;exact ayA _
  .exact hk.call ro f args Y v al h
 cw:=hk.cw
 yS:=hk.yS
theorem adP(e_:P.follows .mixedOrders=ab){H:Hk}(hH:∀f xs z,(xs,z)∈H f->dX P af ab f xs z):∀n,iv P (VQ P H n) n/\ff P (VQ P H n)/\cu (VQ P H n)/\bS (VQ P H n)
 |0=>agm (λ_ _ h1 h2 h3 h4=>W0 e_ h1 h2 h3 h4) 0
 |n+1=>by
  obtain⟨h1,h2,h3,h4⟩:=adP e_ hH n;exact⟨WT h1 h2 h3 h4 (W0 e_ h1 h2 h3 h4),adN hH (Nl h1 h2 h3 h4),Py h3 h4,adO (G9 h3 h4)⟩
def comes(r:Option (IV×St))(z:IV):Bool:=
 match r with
 |some (v,Y)=>Il Y 40 v z
 |none=>af
theorem dX.run(e_:P.follows .mixedOrders=ab){H:Hk}(hH:∀f xs z,(xs,z)∈H f->dX P af ab f xs z){n:Nat}{new:Bool}{f:FuncId}{xs:List IV}{z:IV}(h:comes ((VQ P H n).call 0 f xs ⟨0,.lf⟩) z=ab):dX P af new f xs z:=by
 unfold comes at h;split at h
 .rename_i v Y hc;obtain⟨_,h2,_,h4⟩:=adP e_ hH n;exact dX.of ⟨h4.call _ _ _ _ _ _ hc,λN hN Z us w hi hr=>h2.call N 0 f xs _ _ _ hc hN Z us w hi hr⟩ (wh h)
 .cases h
end
end Go.Ev
namespace Go.Proofs.YtabefplkfkfdfaaGreat
open Go Go.Ev
section
theorem awm(a:Int):CC 266 af [iI a] (iB af):=by
 refine CC.dJ ar6 kr (λ_=>kr) ax (by rfl) ?_;simp[ahG,SE.den]
theorem awn(a b:Int):CC 240 af [iI a,iI b] (iB (decide (a<b))):=by
 refine CC.dJ ar2 kr (λ_=>kr) ax (by rfl) ?_;simp[ahE,SE.den];exact⟨_,awm a,by simp⟩
theorem awo(l:List Oc)(o:Oc)(hl:l.length<=1000):CC 156 af [qH l,fG o] (iI (match l.findIdx? (·==o)with
 |some i=>(i:Int)
 |none=> -1)):=by
 refine CC.VD ar7 kr (λ_=>kr) (by intro x hx;rcases ayN.1 hx with rfl|hx;exact U4 l;obtain rfl:=ayQ.1 hx;exact uY o) (by rfl) ?_;simp[ahH,fG,SE.den,ao];unfold YU;refine az l.length (λi (_:Unit)=>[iI i]) (λi _=>∀x∈l.take i,x≠o) () ?_ ax λi _ hi hI=>?_
 .simp[SE.den]
 by_cases aj:i<l.length
 .have hw:=aD aj ai;simp[SE.den,aj,hw,afF aj,ao];by_cases h1:l[i]=o
  .left;refine⟨by rw[h1];simp,?_⟩
   have:l.findIdx? (·==o)=aa i:=by
    rw[aBR];refine⟨aj,by simp[h1],λj hj=>?_⟩;have:=hI l[j] (List.mem_take_iff_getElem.2 ⟨j,by omega,rfl⟩);simpa using this
   rw[this]
  .right;refine⟨?_,.mk () rfl ai (aO aj hI h1)⟩;intro e1 e2;refineλe3=>h1 ?_;cases Xx:l[i];cases o
   simp_all
 .have h2:=aU aj hI
  have:l.findIdx? (·==o)=ah:=by
   rw[aCj];intro x hx;simpa using h2 x hx
  simp[SE.den,aj,this]
theorem k86(l:List Oc)(o:Oc)(hl:l.length<=1000):CC 86 af [qH l,fG o] (iB (decide (o∈l))):=by
 refine CC.dJ awh kr (λ_=>kr) (by intro x hx;rcases ayN.1 hx with rfl|hx;exact U4 l;obtain rfl:=ayQ.1 hx;exact uY o) (by rfl) ?_;have h:=awo l o hl;have hO:fG o=.agg [iI o.r,iI o.h,iB o.k]:=rfl;rw[hO]at*
 simp[ant,SE.den,ao];refine⟨_,h,?_⟩;simp;cases hf:l.findIdx? (·==o)with
 |none=>
  rw[aCj]at hf;simp;intro hm;have:=hf o hm;simp at this
 |some i=>
  rw[aBR]at hf;obtain⟨h1,h2,_⟩:=hf;simp at h2;simp;exact h2▸ayy h1
theorem cvx(n:Int):Fb ayu 3 33 (iI n)=aa (.raw (.int .u64 (aBn.wrap n))):=by kernel_rfl
theorem cvy(n:Int):Fb ayu 33 3 (.raw (.int .u64 n))=aa (.raw (.int .i64 (ay1.wrap n))):=by kernel_rfl
theorem ar8{n:Int}(h:0<=n/\n<=9223372036854775807):aBn.wrap n=n:=by
 simp[IntKind.wrap,IntKind.signed,IntKind.bits];omega
theorem anH{n:Nat}(h:n<=1000):Fb ayu 3 33 (iI (n:Nat))=aa (.raw (.int .u64 (n:Nat))):=by
 rw[cvx,ar8 ai]
theorem awp(n:Nat)(h:n<=12):∃m,CC 202 af [.raw (.int .u64 (n:Nat))] (iI m):=by
 have hr:∀(m:Int) (n:Int),comes ((VQ ayu (λ_=>[]) 300).call 0 202 [.raw (.int .u64 n)] ⟨0,.lf⟩) (iI m)=ab->∃m,CC 202 af [.raw (.int .u64 n)] (iI m):=λm n h=>⟨m,CC.plain (s8 rfl) (dX.run mixed (λ_ _ _ h=>by cases h) h) ax kr⟩;rcases n with _|_|_|_|_|_|_|_|_|_|_|_|_|n
 .exact hr 0 0 (by as_aux_lemma=>kernel_rfl)
 .exact hr 1 1 (by as_aux_lemma=>kernel_rfl)
 .exact hr 2 2 (by as_aux_lemma=>kernel_rfl)
 .exact hr 2 3 (by as_aux_lemma=>kernel_rfl)
 .exact hr 3 4 (by as_aux_lemma=>kernel_rfl)
 .exact hr 3 5 (by as_aux_lemma=>kernel_rfl)
 .exact hr 3 6 (by as_aux_lemma=>kernel_rfl)
 .exact hr 3 7 (by as_aux_lemma=>kernel_rfl)
 .exact hr 4 8 (by as_aux_lemma=>kernel_rfl)
 .exact hr 4 9 (by as_aux_lemma=>kernel_rfl)
 .exact hr 4 10 (by as_aux_lemma=>kernel_rfl)
 .exact hr 4 11 (by as_aux_lemma=>kernel_rfl)
 .exact hr 4 12 (by as_aux_lemma=>kernel_rfl)
 .omega
theorem ahI{l:List Int}{i:Nat}(v:Int)(h:i<l.length):AK 1 (iL l) (iI (i:Nat)) (iI v)=aa (iL (l.set i v)):=by
 simp[AK,ie,h,cellsOf,aDU]
theorem swp(A B:List Int)(x y:Int):((A++y::x::B).set (A.length+1) y).set A.length x=A++x::y::B:=by
 rw[aBq _ _ ai,aBq _ _ ai];simp[show A.length+1- A.length=1 by omega]
section
variable{Q:IV->Prop}{k0 k1 k2 k3 k4:List IV->Prop}{x0 x1 x2 x3 x4 x5 x6 x7 x8 x9 bN:IV}
theorem anI(i:Nat)(hi:i<900)(P rest:List Int)(x:Int)(hP:P.length=i)(hs:P.Pairwise (·<=·))(hk:∀P':List Int,P'.Perm (x::P)->P'.Pairwise (·<=·)->k4 [iI (i+1:Nat),iL (P'++rest)]):
 OL.sat ayu CC Q [k0,k1,k2,k3,k4] [x0,x1,x2,x3,x4,x5,x6,x7,x8,x9,bN,iI i,iL (P++x::rest)]:=by
 have gD:=aD (show i<1000 by omega) ai
 have Da:∀j,j<=i->(∀c∈P.drop j,x<=c)->(∀c∈P.take j,c<=x)->k4 [iI (i+1:Nat),iL (P.take j++x::(P.drop j++rest))]:=λj hj h1 h2=>by
  have:=hk (P.take j++x::P.drop j) (by
   have:=aDj (a:=x) (l₁:=P.take j) (l₂:=P.drop j);rwa[azE]at this) (by
   rw[aCJ];have br:=hs;rw[<-azE j P,aCJ]at br;refine⟨br.1,List.pairwise_cons.2 ⟨h1,br.2.1⟩,λa ha b hb=>?_⟩;rcases ayN.1 hb with rfl|hb
   .exact h2 a ha
   .exact br.2.2 a ha b hb)
  rw[ayJ,azv]at this;exact this
 unfold OL;refine eM (λ(j:Nat)=>[iI j,iL (P.take j++x::(P.drop j++rest))]) (λj=>j<=i/\∀c∈P.drop j,x<=c) (λj=>j) i ?_ ⟨ayA _,by rw[ay3 ai];simp⟩ λj hj=>?_
 .have t1:P.take i=P:=ayF ai;have t2:P.drop i=[]:=ay3 ai;rw[t1,t2];simp[SE.den]
 obtain⟨J2,hjc⟩:=hj;rcases j with _|q
 .have:=Da 0 ai hjc ax;simp[SE.den,gD]at this⊢;exact this
 have hqP:q<P.length:=ai
 have hl:P.take (q+1)++x::(P.drop (q+1)++rest)=P.take q++P[q]::x::(P.drop (q+1)++rest):=by
  rw[ayE hqP,ayJ];rfl
 have hlen:(P.take q).length=q:=by rw[azq];omega
 have hsw:=swp (P.take q) (P.drop (q+1)++rest) x P[q];rw[hlen]at hsw;have G6:P.take q++x::(P.drop q++rest)=P.take q++x::P[q]::(P.drop (q+1)++rest):=by rw[ay5 hqP];rfl
 rw[<-G6]at hsw;rw[<-hl]at hsw
 have e1:(P.take (q+1)++x::(P.drop (q+1)++rest))[q+1]?=aa x:=by
  rw[hl,ay0 ai,hlen];simp[show q+1- q=1 by omega]
 have e0:(P.take (q+1)++x::(P.drop (q+1)++rest))[q]?=aa P[q]:=by
  rw[hl,ay0 ai,hlen];simp
 have hfq:=λh2=>Da (q+1) J2 hjc h2;generalize hL:P.take (q+1)++x::(P.drop (q+1)++rest)=L at*
 have i1:cz 1 (iL L) (iI ((q:Int)+1))=aa (iI x):=MJ e1;have i0:=MJ e0;have Bi:q+1<L.length:=(ayw.1 e1).1;have s1:AK 1 (iL L) (iI ((q:Int)+1)) (iI P[q])=aa (iL (L.set (q+1) P[q])):=ahI P[q] Bi;have Jn:q<(L.set (q+1) P[q]).length:=by rw[List.length_set];omega
 have s2:=ahI x Jn;have i2:=MJ (l:=L.set (q+1) P[q]) (i:=q) (x:=(L.set (q+1) P[q])[q]) (ayv Jn);rw[hsw]at s2;have awq:=(awn x P[q]).CM (s8 rfl);have hws:ay1.wrap (q:Int)=q:=dD ai ai;simp[SE.den,cellsOf,hws,i1,i0];refine⟨_,awq,?_⟩;by_cases aj:x<P[q]
 .simp[aj,s1,s2,i2];refine .mk q rfl ⟨by omega,λc hc=>?_⟩ ai;rw[ay5 hqP]at hc;rcases ayN.1 hc with rfl|hc
  .omega
  .exact hjc c hc
 .simp[aj,gD];refine hfq λc hc=>?_;obtain⟨m,hm,rfl⟩:=List.mem_iff_getElem.1 hc;rw[azq]at hm;rw[List.getElem_take];by_cases hmq:m=q
  .subst hmq;omega
  .have:=List.pairwise_iff_getElem.1 hs m q ai hqP ai;omega
theorem anJ(l:List Int)(iW:l≠[])(hl:l.length<=800)(hk:∀L:List Int,L.Perm l->L.Pairwise (·<=·)->k3 [iL L]):
 OM.sat ayu CC Q [k0,k1,k2,k3] [x0,x1,x2,x3,x4,x5,x6,x7,x8,iL l,bN]:=by
 unfold OM;refine eM (λ(a:Nat×List Int)=>[iI a.1,iL (a.2++l.drop a.1)]) (λa=>a.1<=l.length/\a.2.Perm (l.take a.1)/\a.2.Pairwise (·<=·)) (λa=>l.length- a.1) (1,l.take 1) ?_ ?_ λa ha=>?_
 .simp only[azE];simp[SE.den]
 .cases l with
  |nil=>exact absurd rfl iW
  |cons h t=>simp
 obtain⟨i,P⟩:=a;obtain⟨h1,h2,h3⟩:=ha;simp only at h1 h2 h3;have hPl:P.length=i:=by rw[h2.length_eq,azq];omega
 by_cases aj:i<l.length
 .have hd:=ay5 aj
  have hw:=anI (Q:=Q) (k0:=k0) (k1:=k1) (k2:=k2) (k3:=k3) (k4:=UI (λ(a:Nat×List Int)=>[iI a.1,iL (a.2++l.drop a.1)]) (λa=>a.1<=l.length/\a.2.Perm (l.take a.1)/\a.2.Pairwise (·<=·)) (λa=>l.length- a.1) (i,P))
   (x0:=x0) (x1:=x1) (x2:=x2) (x3:=x3) (x4:=x4) (x5:=x5) (x6:=x6) (x7:=x7) (x8:=x8) (x9:=iL l) (bN:=bN) i ai P (l.drop (i+1)) l[i] hPl h3 λP' p1 p2=>
   .mk (i+1,P') rfl ⟨by simp;omega,by
    simp only;rw[ayE aj];exact p1.trans ((List.perm_append_singleton _ _).symm.trans (h2.append_right _)),p2⟩ (by simp;omega)
  rw[<-hd]at hw;simp[SE.den,aj];exact hw
 .have wz:i=l.length:=ai;rw[wz,List.take_length]at h2;have:=hk P h2 h3;simp[SE.den,wz];exact this
theorem anK(l:List Int)(iW:l≠[])(hl:l.length<=12)(hk:∀L:List Int,L.Perm l->L.Pairwise (·<=·)->k0 [iL L]):
 ON.sat ayu CC Q [k0] [x0,x1,x2,x3,x4,x5,x6,iL l]:=by
 unfold ON;refine az l.length (λi (q:List Int)=>[iI i,iL q]) (λi q=>q=l.take i) [] ?_ ax λi q hi hI=>?_
 .simp[SE.den]
 by_cases aj:i<l.length
 .have hw:=aD aj ai;have hc:=mI (a:=q) (v:=l[i]) (by rw[hI,azq];omega);simp[SE.den,aj,hw,eF aj,cellsOf,hc];exact .mk _ rfl ai (by rw[ayE aj,hI])
 .rw[ayF ai]at hI;subst hI;obtain⟨m,hm⟩:=awp q.length hl;have hcv:=anH (n:=q.length) ai;simp[SE.den,hcv];right;refine⟨by omega,_,hm,?_⟩;simp;unfold YS;refine az 1 (λ_ (_:Unit)=>[]) (λ_ _=>True) () rfl trivial λ_ _ _ _=>?_;have hwl:ay1.wrap (q.length:Int)=q.length:=dD ai ai;simp[SE.den,hwl,show(q.length:Int)<=12 by omega];unfold YR;refine fA (λvs=>∃L:List Int,vs=[iL L]/\L.Perm q/\L.Pairwise (·<=·)) ?_ λvs db=>?_
  .exact anJ q iW ai λL h1 h2=>⟨L,rfl,h1,h2⟩
  .obtain⟨L,rfl,h1,h2⟩:=db;refine⟨rfl,?_⟩;simp[SE.den];exact hk L h1 h2
end
theorem abg(n:Nat):(nj n).Pairwise (·<=·):=by
 unfold nj;refine aBQ _ (λa b cn=>?_) (List.pairwise_lt_range (n:=n));exact Int.ofNat_le.2 (aD0 cn)
theorem abh{n:Nat}{h:Int}(h0:0<=h/\h<n):(h::parts n h).Perm (nj n):=by
 rw[List.perm_ext_iff_of_nodup (aAC.2 ⟨λhm=>(u6.1 hm).2 rfl,Dy n h⟩) (QS n)];intro a;rw[ayN,u6,Et];constructor
 .rintro(rfl|h)
  .exact h0
  .exact h.1
 .intro ha;by_cases e:a=h
  .exact .inl e
  .exact .inr ⟨ha,e⟩
theorem VS:∀(a b:List Int),a.Nodup->(∀v∈a,v∈b)->b.length=a.length->b.Perm a
 |[],b,_,_,hl=>by rw[ayZ hl]
 |x::a,b,hn,hs,hl=>by
  obtain⟨b1,b2,rfl⟩:=aCT (hs x ax);have oO:=aAC.1 hn
  have ih:=VS a (b1++b2) oO.2 (λu hu=>by
   have:=hs u (azA _ hu);rw[ayS,ayN]at this;rw[ayS];rcases this with h|rfl|h
   .exact .inl h
   .exact absurd hu oO.1
   .exact .inr h) (by simp at hl⊢;omega)
  exact aDj.trans (ih.cons x)
theorem YV{n:Nat}{h:Int}{order L:List Int}(h0:0<=h/\h<n)(hp:L.Perm (h::order))(hs:L.Pairwise (·<=·)):L=nj n↔pO n h order=ab:=by
 have hpp:=abh h0;have hlen:=hpp.length_eq;rw[ay6,uZ]at hlen;unfold pO;rw[ayz,decide_eq_true_eq,decide_eq_true_eq];constructor
 .rintro rfl;have h1:=hp.length_eq;rw[uZ,ay6]at h1;refine⟨by omega,λv hv=>?_⟩;obtain⟨JN,hv2⟩:=u6.1 hv;have:=hp.mem_iff.1 (Et.2 JN);rcases ayN.1 this with e|e
  .exact absurd e hv2
  .exact e
 .rintro⟨h1,h2⟩;have:=VS (parts n h) order (Dy n h) h2 h1.symm;exact aEg (λa b _ _ h1 h2=>by omega) hs (abg n) (hp.trans ((this.cons h).trans hpp))
end
section
section
variable{Q:IV->Prop}{k0 k1 k2 k3 k4:List IV->Prop}{x0 x1 x2 x3 x4 x5 x6 x7 x8 x9 bN bW cT cG cV gp dP eT g_ gj:IV}
theorem anL(x:Pn)(hx:wE x)(te:List (List Int))(hlen:x.cj.length=te.length)(hQ:Q (iB (decide (x.cj=te)))):
 OT.sat ayu CC Q [k0,k1,k2] [x0,aZ x,x2,x3,x4,x5,x6,x7,x8,x9,bN,bW,cT,cG,cV,gp,dP,eT,g_,bg te]:=by
 have hN:aZ x=.agg [iI x.o.r,iI x.o.h,iB x.o.k,iL x.aH,bg x.cM,bg x.cj]:=rfl;have hs:=hx.t;have jZ:=hx.ts;rw[hN];generalize x.cj=ts at*
 unfold OT;refine az ts.length (λi (_:Unit)=>[iI i]) (λi _=>ts.take i=te.take i) () ?_ ax λi _ hi hI=>?_
 .simp[SE.den]
 by_cases aj:i<ts.length
 .have hw:=aD aj hs;have bJ:i<te.length:=ai;have VE:=afN ts[i] te[i] (jZ _ (ayy aj));simp[SE.den,aj,hw,mV aj,mV bJ,cellsOf];refine⟨_,VE,?_⟩;by_cases h1:ts[i]=te[i]
  .simp[h1];exact .mk () rfl ai (by rw[ayE aj,ayE bJ,hI,h1])
  .simp[h1];rw[decide_eq_false (λh=>h1 (by subst h;rfl))]at hQ;exact hQ
 .have:ts=te:=by
   rw[<-ayF (aBa aj),hI,ayF ai]
  rw[decide_eq_true this]at hQ;simp[SE.den,aj];exact hQ
theorem anM(x:Pn)(hx:wE x)(kn te:List (List Int))(hlen:x.cM.length=kn.length)(hQ:Q (iB (decide (x.cM=kn)&&decide (x.cj=te)))):
 OU.sat ayu CC Q [k0,k1] [x0,aZ x,x2,x3,x4,x5,x6,x7,x8,x9,bN,bW,cT,cG,cV,gp,bg kn,bg te]:=by
 have hN:aZ x=.agg [iI x.o.r,iI x.o.h,iB x.o.k,iL x.aH,bg x.cM,bg x.cj]:=rfl;have hs:=hx.k;have eh:=hx.ks;unfold OU;refine az x.cM.length (λi (_:Unit)=>[iI i,bg te]) (λi _=>x.cM.take i=kn.take i) () ?_ ax λi _ hi hI=>?_
 .simp[SE.den]
 by_cases aj:i<x.cM.length
 .have hw:=aD aj hs;have bJ:i<kn.length:=ai;have VE:=afN x.cM[i] kn[i] (eh _ (ayy aj));rw[hN];simp[SE.den,aj,hw,mV aj,mV bJ,cellsOf];refine⟨_,VE,?_⟩;by_cases h1:x.cM[i]=kn[i]
  .simp[h1];exact .mk () rfl ai (by rw[ayE aj,ayE bJ,hI,h1])
  .simp[h1];rw[decide_eq_false (λh=>h1 (by subst h;rfl)),aAf]at hQ;exact hQ
 .have:x.cM=kn:=by
   rw[<-ayF (aBa aj),hI,ayF ai]
  rw[decide_eq_true this,aAP]at hQ;by_cases e:x.cj.length=te.length
  .have hw:=anL (Q:=Q) (k0:=k0) (k1:=k1) (k2:=Qm x.cM.length (λi (_:Unit)=>[iI i,bg te]) (λi _=>x.cM.take i=kn.take i) i) (x0:=x0) (x2:=x2) (x3:=x3) (x4:=x4) (x5:=x5) (x6:=x6) (x7:=x7) (x8:=x8) (x9:=x9) (bN:=bN) (bW:=bW) (cT:=cT) (cG:=cG) (cV:=cV) (gp:=gp) (dP:=bg kn) (eT:=bg te) (g_:=iI i) x hx te e hQ;rw[hN]at*
   simp[SE.den,aj,e];exact hw
  .rw[decide_eq_false (λh=>e (by rw[h]))]at hQ;rw[hN];simp[SE.den,aj];left;exact⟨by omega,hQ⟩
theorem anN(x:Pn)(hx:wE x)(r:Rl)(h:iY r)(gB:qG r)(hf:fY r)(done:List Int)(hd:done.length<=100)(kn:List (List Int))
 (hQ:Q (iB (decide (x.cM=kn)&&decide (x.cj=eQ (r.aq++r.av) r.aw done)))):
 OV.sat ayu CC Q [k0,k1] [x0,aZ x,x2,x3,bP r,x5,x6,x7,x8,x9,bN,bW,cT,cG,cV,iL done,bg kn]:=by
 have hN:aZ x=.agg [iI x.o.r,iI x.o.h,iB x.o.k,iL x.aH,bg x.cM,bg x.cj]:=rfl;have Eo:=Yt r (by have:=h.h;omega);unfold OV;refine fA (λvs=>vs=[bg (eQ (r.aq++r.av) r.aw done)]) ?_ λvs db=>?_
 .have hw:=anG (Q:=Q) (k0:=k0) (k1:=k1) (k2:=AY λvs=>vs=[bg (eQ (r.aq++r.av) r.aw done)]) (x0:=x0) (x1:=aZ x) (x2:=x2) (x3:=x3) (x5:=x5) (x6:=x6) (x7:=x7) (x8:=x8) (x9:=x9) (bN:=bN) (bW:=bW) (cT:=cT) (cG:=cG) (cV:=cV) (dP:=bg kn) r h gB hf (r.aq++r.av) rfl done hd rfl
  have On:iO 10 (iI r.aw.length) (iB af)=aa (CP (r.aw.map λ_=>af)):=by
   have h6:=h.g;have h7:(r.aw.length:Int)<=1000000:=ai;simp[iO,cellsOf,h7];exact(List.map_const' ..).symm
  have ar9:iO 7 (iI (done.length+1)) (iB ab)=aa (iI (done.length+1)):=by
   simp[iO];omega
  have hwd:=aD (show done.length<1000 by omega) ai;have ayc:iO 7 (iI 0) (iB ab)=aa (iI 0):=by simp[iO]
  rw[bx]at*
  simp[SE.den];refine⟨_,Eo,?_⟩;simp[On,ar9,hwd];exact hw
 .subst db;refine⟨rfl,?_⟩;by_cases e:x.cM.length=kn.length
  .have hw:=anM (Q:=Q) (k0:=k0) (k1:=k1) (x0:=x0) (x2:=x2) (x3:=x3) (x4:=bP r) (x5:=x5) (x6:=x6) (x7:=x7) (x8:=x8) (x9:=x9) (bN:=bN) (bW:=bW) (cT:=cT) (cG:=cG) (cV:=cV) (gp:=iL done) x hx kn _ e hQ;rw[hN]at*
   simp[SE.den,e];exact hw
  .rw[decide_eq_false (λh=>e (by rw[h])),aAf]at hQ;rw[hN];simp[SE.den];left;exact⟨by omega,hQ⟩
theorem anO(x:Pn)(hx:wE x)(ho:x.aH.length<=50)(r:Rl)(h:iY r)(gB:qG r)(hf:fY r)(hv:rY (r.aq++r.av).length x.aH)(hQ:Q (iB (decide (x=iE r x.o x.aH)))):
 OW.sat ayu CC Q [k0] [x0,aZ x,x2,x3,bP r,x5,dr (r.aq++r.av),x7,x8,x9,bN,bW]:=by
 have hN:aZ x=.agg [iI x.o.r,iI x.o.h,iB x.o.k,iL x.aH,bg x.cM,bg x.cj]:=rfl;have PD:=h.h;rw[<-ayC]at PD;have Dt:=λdone (hd:done.length<=100) n a ha=>awi ab r (r.aq++r.av) PD h.hs gB.hs hf.hs done hd n a ha
 have WW:Q (iB (decide (x.cM=hZ (r.aq++r.av) [x.o.h] x.aH)&&decide (x.cj=eQ (r.aq++r.av) r.aw (x.o.h::x.aH)))):=by
  have:decide (x=iE r x.o x.aH)=(decide (x.cM=hZ (r.aq++r.av) [x.o.h] x.aH)&&decide (x.cj=eQ (r.aq++r.av) r.aw (x.o.h::x.aH))):=by
   rw[aAy,ayz,decide_eq_true_eq,decide_eq_true_eq,decide_eq_true_eq];constructor
   .intro h;rw[h];exact⟨rfl,rfl⟩
   .rintro⟨h1,h2⟩;obtain⟨o,od,kn,te⟩:=x;simp only at h1 h2;rw[h1,h2];rfl
  rwa[this]at hQ
 have awr:=λ(k1:List IV->Prop) (cT cG cV:IV) (done:List Int) (hd:done.length<=100) (kn:List (List Int))=>anN (Q:=Q) (k0:=k0) (k1:=k1) (x0:=x0) (x2:=x2) (x3:=x3) (x5:=x5) (x6:=dr (r.aq++r.av)) (x7:=x7) (x8:=x8) (x9:=x9) (bN:=bN) (bW:=bW) (cT:=cT) (cG:=cG) (cV:=cV) x hx r h gB hf done hd kn;simp only[Ii]at Dt;rw[hN,bx]at*
 generalize hO:x.aH=order at*
 generalize hS:r.aq++r.av=hs at*
 unfold OW;refine az order.length (λi (q:List (List Int))=>[iI i,iI x.o.r,iI x.o.h,iL (x.o.h::order.take i),bg q]) (λi q=>q++hZ hs (x.o.h::order.take i) (order.drop i)=hZ hs [x.o.h] order/\q.length<=i) [] ?_ ax λi q hi hI=>?_
 .simp[SE.den,cellsOf]
 obtain⟨hI,yC⟩:=hI;by_cases aj:i<order.length
 .have mE:=aD aj ai;obtain⟨hv0,JN⟩:=hv _ (ayy aj);have jv:order[i]=((order[i].toNat:Nat):Int):=ai;have bJ:order[i].toNat<hs.length:=ai;have sK:=Dt (x.o.h::order.take i) (by simp;omega) order[i].toNat _ (ayv bJ);rw[<-jv]at sK
  have qV:gw hs order[i]=hs[order[i].toNat].ts:=by
   simp only[gw,if_pos hv0];rw[ayv bJ]
  rw[ay5 aj,hZ,qV]at hI;have bI:x.o.h::order.take (i+1)=(x.o.h::order.take i)++[order[i]]:=by rw[ayE aj];rfl
  have cd:=mI (a:=x.o.h::order.take i) (v:=order[i]) (by simp;omega);have lE:=Ah (a:=q) (v:=lM hs (x.o.h::order.take i) hs[order[i].toNat].ts) ai;generalize hD:x.o.h::order.take i=D at*
  simp[SE.den,aj,mE,eF aj];refine⟨_,sK,?_⟩;simp[aF,cellsOf,cd,lE];refine .mk (q++[lM hs D hs[order[i].toNat].ts]) ?_ ai ⟨by rw[bI,<-hI];simp,by simp;omega⟩;rw[bI];rfl
 .rw[ay3 ai,hZ,ayO]at hI;subst hI;have:=awr (Qm order.length (λi (q:List (List Int))=>[iI i,iI x.o.r,iI x.o.h,iL (x.o.h::order.take i),bg q]) (λi q=>q++hZ hs (x.o.h::order.take i) (order.drop i)=hZ hs [x.o.h] order/\q.length<=i) i) (iI i) (iI x.o.r) (iI x.o.h) (x.o.h::order.take i) (by simp;omega) (hZ hs [x.o.h] order);rw[ayF ai]at*
  simp[SE.den,aj];exact this WW
theorem anP(x:Pn)(hx:wE x)(ho:x.aH.length<=50)(r:Rl)(h:iY r)(gB:qG r)(hf:fY r)(n:Nat)(hn:(r.aq++r.av).length=n)(m:Nat)(hxm:x.o.h=m)(hm:m<n)(L:List Int)(hp:L.Perm (x.o.h::x.aH))(hs:L.Pairwise (·<=·))(hL:L.length=n)
 (hQ:Q (iB (pO n m x.aH&&decide (x=iE r x.o x.aH)))):
 OX.sat ayu CC Q [] [x0,aZ x,x2,x3,bP r,x5,dr (r.aq++r.av),x7,iL L]:=by
 have lL:=YV (n:=n) (h:=(m:Int)) (order:=x.aH) (L:=L) ai (hxm▸hp) hs;have hN:aZ x=.agg [iI x.o.r,iI x.o.h,iB x.o.k,iL x.aH,bg x.cM,bg x.cj]:=rfl;have wv:=h.h;rw[<-ayC,hn]at wv;unfold OX;refine az n (λi (_:Unit)=>[iI i,iI n,iL L]) (λi _=>∀(j:Nat) (hj:j<L.length),j<i->L[j]=(j:Int)) () ?_ ax λi _ hi hI=>?_
 .simp[SE.den,hL]
 by_cases aj:i<n
 .have hw:=aD aj ai;have bJ:i<L.length:=ai;rw[hN];simp[SE.den,aj,hw,eF bJ,cellsOf];by_cases e:L[i]=(i:Int)
  .right;refine⟨e,.mk () rfl ai λj hj J2=>?_⟩;by_cases hje:j=i
   .subst hje;exact e
   .exact hI j hj ai
  .left;refine⟨e,?_⟩
   have:pO n m x.aH=af:=by
    rw[<-aA0,<-lL];rintro rfl;exact e (Vw n i (by simpa using bJ))
   rw[this,aAf]at hQ;exact hQ
 .have hr:L=nj n:=by
   apply List.ext_getElem
   .rw[uZ];exact hL
   .intro j h1 h2;rw[hI j h1 ai,Vw n j h2]
  have QU:=lL.1 hr;rw[QU,aAP]at hQ;have bu:=(OK QU).1;have:=anO (Q:=Q) (k0:=Qm n (λi (_:Unit)=>[iI i,iI n,iL L]) (λi _=>∀(j:Nat) (hj:j<L.length),j<i->L[j]=(j:Int)) i) (x0:=x0) (x2:=x2) (x3:=x3) (x5:=x5) (x7:=x7) (x8:=iL L) (x9:=iI i) (bN:=iI n) (bW:=iL L) x hx ho r h gB hf (hn▸bu) hQ;rw[hN]at*
  simp[SE.den,aj,aF,cellsOf];exact this
end
theorem k32(p:Pg)(hp:jG p)(hf:∀r∈p.bc,fY r)(x:Pn)(hx:wE x)(h6:x.aH.length<=6):CC 32 af [aW p,aZ x] (iB (nM p x)):=by
 refine CC.dJ awg kr (λ_=>kr) (YP p x) (by rfl) ?_;have J0:=k87 p hp;have pV:=xc p.bc hp.rs;have h86:=k86 (occs p.bc) x.o (by have:=hp.r;omega);have hN:aZ x=.agg [iI x.o.r,iI x.o.h,iB x.o.k,iL x.aH,bg x.cM,bg x.cj]:=rfl;have hP:aW p=.agg [dO p.eN,jF p.bc]:=rfl;have hO:fG x.o=.agg [iI x.o.r,iI x.o.h,iB x.o.k]:=rfl;by_cases hm:x.o∈occs p.bc
 rotate_left
 .have hr:nM p x=af:=by unfold nM;rw[decide_eq_false hm];rfl
  rw[decide_eq_false hm,hO]at h86;rw[hP]at J0;rw[hr,hN,hP];generalize occs p.bc=l at*
  simp[af3,SE.den,ao];refine⟨_,J0,?_⟩;simp;exact⟨_,h86,by simp⟩
 obtain⟨i,m,r,h⟩:=xg.1 hm;have gS:=h.ru;obtain⟨hi,gS⟩:=ayw.1 gS;have dt:r∈p.bc:=gS▸ayy hi;have lL:=hp.rs r dt;have hR:=q8 hi;rw[gS]at hR;rw[Ih h];rw[decide_eq_true hm,hO]at h86;have Eo:=Yt r (by have:=lL.h;omega);have vi:=yz (a:=[x.o.h]) (b:=x.aH) (by simp;omega);have vo:cz 6 (jF p.bc) (iI x.o.r)=aa (.agg [iS r.name,dr r.aq,dr r.av,iX r.aw,iX r.aI,iI r.vars]):=by rw[h.or];exact hR
 have PX:=h.or
 have aws:OY.sat ayu CC (Gc (·=(pO (r.aq++r.av).length m x.aH&&decide (x=iE r x.o x.aH)))) [] [aW p,aZ x,qH (occs p.bc),iB ab,bP r,bP r,dr (r.aq++r.av),iL (x.o.h::x.aH)]:=by
  unfold OY;refine fA (λvs=>∃L:List Int,vs=[iL L]/\L.Perm (x.o.h::x.aH)/\L.Pairwise (·<=·)) ?_ λvs db=>?_
  .have:=anK (Q:=Gc (·=(pO (r.aq++r.av).length m x.aH&&decide (x=iE r x.o x.aH)))) (k0:=AY λvs=>∃L:List Int,vs=[iL L]/\L.Perm (x.o.h::x.aH)/\L.Pairwise (·<=·)) (x0:=aW p) (x1:=aZ x) (x2:=qH (occs p.bc)) (x3:=iB ab) (x4:=bP r) (x5:=bP r) (x6:=dr (r.aq++r.av)) (x.o.h::x.aH) ax (by simp;omega) λL h1 h2=>⟨L,rfl,h1,h2⟩;generalize occs p.bc=l at*
   simp[SE.den]at this⊢;exact this
  .obtain⟨L,rfl,h1,h2⟩:=db;refine⟨rfl,?_⟩;have QK:=h1.length_eq;by_cases e:L.length=(r.aq++r.av).length
   .have:=anP (Q:=Gc (·=(pO (r.aq++r.av).length m x.aH&&decide (x=iE r x.o x.aH)))) (x0:=aW p) (x2:=qH (occs p.bc)) (x3:=iB ab) (x5:=bP r) (x7:=iL (x.o.h::x.aH)) x hx ai r lL (hp.rn r dt) (hf r dt) _ rfl m h.oh h.lt L h1 h2 e ax;generalize occs p.bc=l at*
    generalize r.aq++r.av=hs at*
    simp[SE.den,e];exact this
   .have hpf:pO (r.aq++r.av).length m x.aH=af:=by
     rw[<-aA0,<-YV (L:=L) (by have:=h.lt;omega) (h.oh▸h1) h2];rintro rfl;exact e (uZ _)
    rw[hpf];generalize occs p.bc=l at*
    generalize r.aq++r.av=hs at*
    simp[SE.den];omega
 generalize(pO (r.aq++r.av).length m x.aH&&decide (x=iE r x.o x.aH))=res at*
 rw[bx]at*
 rw[hN,hP]at*
 generalize occs p.bc=l at*
 generalize r.aq++r.av=hs at*
 simp[af3,SE.den,ao];refine⟨_,J0,?_⟩;simp;refine⟨_,h86,?_⟩;have z1:¬(x.o.r<0):=ai;have z2:¬((p.bc.length:Int)<=x.o.r):=ai;simp[z1,z2,vo];refine⟨by omega,by omega,_,Eo,?_⟩;simp[aF,cellsOf];exact⟨_,vi,aws⟩
end
structure In where
 op:Int
 a:Int
 b:Int
 g:Gl
 ts:List Tm
def jw:Gl:=⟨0,[],[]⟩
def qp(i:In):IV:=.agg [iI i.op,iI i.a,iI i.b,iI i.g.op,iS i.g.s,iT i.g.ts,iT i.ts]
abbrev bL(l:List In):IV:=.tree 7 (l.map qp)
theorem adQ(i:In):Pure (qp i):=.agg _ ax
@[simp] theorem awt(l:List In):Pure (bL l):=kV 7 qp (λa=>⟨_,rfl,by simp⟩) l
theorem ajx(x:In):∃cs,qp x=.agg cs/\cs.length=7/\cs.all ao=ab:=⟨_,rfl,rfl,rfl⟩
theorem Ji{a b:List In}(h:a.length+b.length<=1000000):dz 7 96 (bL a) (bL b)=aa (bL (a++b)):=by
 have h2:=zJ (s:=7) (enc:=qp) ajx b;simp[dz,h2];omega
theorem dQ{a:List In}{i:In}(h:a.length<=100000):dz 7 96 (bL a) (.tree 7 [.agg [iI i.op,iI i.a,iI i.b,iI i.g.op,iS i.g.s,iT i.g.ts,iT i.ts]])=aa (bL (a++[i])):=Ji (a:=a) (b:=[i]) (by simp;omega)
theorem yD(l:List In):∀e∈l.map qp,(cellsOf e).length=7:=λe he=>by obtain⟨x,_,rfl⟩:=azb.1 he;rfl
theorem Ew(l:List In):∀c∈flat (l.map qp),Pure c/\ao c=ab:=λc hc=>by
 unfold flat at hc;obtain⟨e,he,hc⟩:=azJ.1 hc;obtain⟨x,_,rfl⟩:=azb.1 he;simp only[qp,cellsOf,ayN,List.not_mem_nil,or_false]at hc;rcases hc with rfl|rfl|rfl|rfl|rfl|rfl|rfl<;>exact⟨by simp,rfl⟩
def bM(h:Int)(kn:List Int):List Tm->Nat->List In
 |[],_=>[]
 |t::ts,i=>(if(i:Int)∈kn then[]else[⟨1,h,i,jw,[t]⟩])++bM h kn ts (i+1)
theorem yE{h:Int}{kn:List Int}{ts:List Tm}{i:Nat}(hi:i<ts.length):bM h kn (ts.drop i) i=(if(i:Int)∈kn then[]else[⟨1,h,i,jw,[ts[i]]⟩])++bM h kn (ts.drop (i+1)) (i+1):=by
 rw[ay5 hi,bM]
theorem pP(h:Int)(kn:List Int):∀(ts:List Tm) (i:Nat),(bM h kn ts i).length<=ts.length
 |[],_=>by simp[bM]
 |t::ts,i=>by
  have:=pP h kn ts (i+1);rw[bM,ayC,ay6];split<;>simp<;>omega
def bA(gs:List Gl)(l:List Int):List In:=l.map λv=>⟨2,0,0,(gs[v.toNat]?).getD jw,[]⟩
def pQ(n:Nat)(l:List Int):Prop:=∀v∈l,0<=v/\v<n
theorem anQ:bY ayu 40=7:=by kernel_rfl
theorem anR:bY ayu 41=7:=by kernel_rfl
theorem anS:bY ayu 43=7:=by kernel_rfl
theorem awu(s:List UInt8)(ts:List Tm)(jZ:ts.length<=1000)(h:Int)(kn:List Int)(hk:Sm kn):aaO.sat ayu CC (·=bL (bM h kn ts 0)) [] [.agg [iS s,iT ts],iI h,iL kn]:=by
 simp[aaO,SE.den,ao];unfold XZ;refine az ts.length (λi (q:List In)=>[iI i,bL q]) (λi q=>q++bM h kn (ts.drop i) i=bM h kn ts 0/\q.length<=i) [] ?_ ax λi q hi hI=>?_
 .simp[SE.den]
 obtain⟨hI,yC⟩:=hI;by_cases aj:i<ts.length
 .have hw:=aD aj ai;have af8:=amr kn (i:Int) hk;rw[yE aj]at hI;have hc:=dQ (a:=q) (i:=⟨1,h,i,jw,[ts[i]]⟩) ai
  have hc:dz 7 96 (bL q) (.tree 7 [.agg [iI 1,iI h,iI i,iI 0,iS [],iT [],.tree 4 [.agg [iI ts[i].k,iI ts[i].n,iS ts[i].s,iT ts[i].ts]]]])=aa (bL (q++[⟨1,h,i,jw,[ts[i]]⟩])):=by
   rw[<-hc,<-bp];rfl
  simp[SE.den,aj,hw,ao];refine⟨_,af8,?_⟩;by_cases e:(i:Int)∈kn
  .rw[if_pos e,List.nil_append]at hI;simp[e];exact .mk q rfl ai ⟨hI,by omega⟩
  .rw[if_neg e]at hI;simp[e,ku aj,bp,cellsOf];exact⟨_,hc,.mk (q++[⟨1,h,i,jw,[ts[i]]⟩]) rfl ai ⟨by rw[<-hI];simp,by simp;omega⟩⟩
 .rw[ay3 ai,bM,ayO]at hI;simp[SE.den,aj,hI,ao]
theorem awv(s:List UInt8)(ts:List Tm)(jZ:ts.length<=1000)(h:Int)(kn:List Int)(hk:Sm kn)(h0:bM h kn ts 0=[]):aaP.sat ayu CC (·=bL []) [] [.agg [iS s,iT ts],iI h,iL kn]:=by
 have cb:∀(i:Nat),i<=ts.length->bM h kn (ts.drop i) i=[]:=by
  intro i;induction i with
  |zero=>intro _;exact h0
  |succ i ih=>
   intro hi;have:=ih ai;rw[yE ai,aCv]at this;exact this.2
 simp[aaP,SE.den,ao];unfold X0;refine az ts.length (λi (_:Unit)=>[iI i]) (λ_ _=>True) () ?_ trivial λi _ hi _=>?_
 .simp[SE.den]
 by_cases aj:i<ts.length
 .have hw:=aD aj ai;have af8:=amr kn (i:Int) hk
  have e:(i:Int)∈kn:=by
   have:=cb i hi;rw[yE aj,aCv]at this;by_cases e:(i:Int)∈kn
   .exact e
   .rw[if_neg e]at this;cases this.1
  simp[SE.den,aj,hw,ao];refine⟨_,af8,?_⟩;simp[e];exact .mk () rfl ai trivial
 .simp[SE.den,aj,ao]
theorem VT(s:List UInt8)(ts:List Tm)(h:Int)(kn:List Int):∀x∈[IV.agg [iS s,iT ts],iI h,iL kn],Pure x:=by
 intro x hx;rcases ayN.1 hx with rfl|hx
 .exact .agg _ ax
 rcases ayN.1 hx with rfl|hx
 .simp
 obtain rfl:=ayQ.1 hx;simp
theorem ahJ(new:Bool)(s:List UInt8)(ts:List Tm)(jZ:ts.length<=1000)(h:Int)(kn:List Int)(hk:Sm kn):CC 2182 new [.agg [iS s,iT ts],iI h,iL kn] (bL (bM h kn ts 0)):=by
 have h1:=anQ
 have hc:jY ayu (bY ayu 40) 40 [.agg [iS s,iT ts],iI h,iL kn] ((bM h kn ts 0).map qp):=by
  by_cases hp:bM h kn ts 0=[]
  .exact .acz (nm:=ab) mixed qZ aqE kr (VT s ts h kn) (by rw[h1];exact yD _) (Ew _) ax (by rw[h1,hp];exact awv s ts jZ h kn hk hp)
  .exact .lT (nm:=af) mixed qZ aqD kr (VT s ts h kn) (by rw[h1];exact yD _) (Ew _) (λ_=>by simpa using hp) (by rw[h1];exact awu s ts jZ h kn hk)
 have h2:=p_.Uf (new:=new) (s8 rfl) hc;rw[eE,anQ]at h2;unfold CC;rw[eE];exact h2
theorem zN{gs:List Gl}{l:List Int}{i:Nat}(h:i<l.length):bA gs (l.take (i+1))=bA gs (l.take i)++[⟨2,0,0,(gs[l[i].toNat]?).getD jw,[]⟩]:=by
 unfold bA;rw[ayE h,aAx];rfl
theorem aww(r:Rl)(l:List Int)(hl:l.length<=1000)(hv:pQ r.aw.length l):aaQ.sat ayu CC (·=bL (bA r.aw l)) [] [bP r,iL l]:=by
 rw[bx];simp[aaQ,SE.den,ao];unfold X1;refine az l.length (λi (q:List In)=>[iI i,bL q]) (λi q=>q=bA r.aw (l.take i)) [] ?_ (by simp[bA]) λi q hi hI=>?_
 .simp[SE.den]
 have yC:q.length=i:=by rw[hI];simp[bA];omega
 by_cases aj:i<l.length
 .have hw:=aD aj ai;obtain⟨v0,v1⟩:=hv _ (ayy aj);have jv:l[i]=((l[i].toNat:Nat):Int):=ai;have bJ:l[i].toNat<r.aw.length:=ai;have hG:=gJ bJ;rw[<-jv]at hG;have bI:=zN (gs:=r.aw) aj;rw[<-hI,ayv bJ,Option.getD_some]at bI;have hc:=dQ (a:=q) (i:=⟨2,0,0,r.aw[l[i].toNat],[]⟩) ai;simp only[]at hc;simp[SE.den,aj,hw,ao,eF aj,hG,cellsOf];exact⟨_,hc,.mk _ rfl ai (by rw[bI])⟩
 .rw[ayF ai]at hI;simp[SE.den,aj,hI,ao]
theorem awx(r:Rl)(l:List Int)(h0:l=[]):aaR.sat ayu CC (·=bL []) [] [bP r,iL l]:=by
 subst h0;rw[bx];simp[aaR,SE.den,ao];unfold X2;refine az 1 (λi (_:Unit)=>[iI 0]) (λ_ _=>True) () ?_ trivial λi _ hi _=>?_
 .simp[SE.den]
 simp[SE.den,ao]
theorem abi(new:Bool)(r:Rl)(l:List Int)(hl:l.length<=1000)(hv:pQ r.aw.length l):CC 2183 new [bP r,iL l] (bL (bA r.aw l)):=by
 have h1:=anR
 have hc:jY ayu (bY ayu 41) 41 [bP r,iL l] ((bA r.aw l).map qp):=by
  by_cases hp:l=[]
  .exact .acz (nm:=ab) mixed qZ aqG kr (Li r l) (by rw[h1];exact yD _) (Ew _) ax (by rw[h1,show bA r.aw l=[] by rw[hp];rfl];exact awx r l hp)
  .exact .lT (nm:=af) mixed qZ aqF kr (Li r l) (by rw[h1];exact yD _) (Ew _) (λ_=>by simpa[bA]using hp) (by rw[h1];exact aww r l hl hv)
 have h2:=p_.Uf (new:=new) (s8 rfl) hc;rw[eE,anR]at h2;unfold CC;rw[eE];exact h2
section
def ta(hs:List At)(h:Int)(a:At)(e:Int):List In:=match hs[e.toNat]? with
 |some b=>if b.s=a.s/\b.ts.length=a.ts.length then[⟨4,h,e,jw,[]⟩]else[]
 |none=>[]
def er(hs:List At)(h:Int)(a:At)(es:List Int):List In:=es.flatMap (ta hs h a)
theorem abj(hs:List At)(h:Int)(a:At)(e:Int):(ta hs h a e).length<=1:=by
 unfold ta;split
 .split<;>simp
 .simp
theorem pR(hs:List At)(h:Int)(a:At):∀es:List Int,(er hs h a es).length<=es.length
 |[]=>by simp[er]
 |e::es=>by
  have h1:=pR hs h a es;have h2:=abj hs h a e;unfold er at*
  rw[aAm,ayC,ay6];omega
theorem Dz{hs:List At}{h:Int}{a:At}{es:List Int}{i:Nat}(hi:i<es.length):er hs h a (es.take (i+1))=er hs h a (es.take i)++ta hs h a es[i]:=by
 unfold er;rw[ayE hi,aA3];simp
def jx(hs:List At)(gs:List Gl)(acc:List Ac)(x:Pn)(k:Nat)(n:Int)(a:At)(ps te:List Int):List In:=
 ⟨3,n,ux acc ⟨a.s,a.ts.length,ps⟩,jw,mH a.ts ps⟩::(er hs n a (x.o.h::x.aH.take k)++bM n ps a.ts 0++bA gs te)
structure CQ(p:Pg)(x:Pn)(k i n:Nat)(r:Rl)(a:At)(ps te:List Int):Prop where
 h:Part p x k i n r a ps
 t:x.cj[k+2]?=aa te
 pl:ps.length<=400
 tl:te.length<=1000
 tv:pQ r.aw.length te
 ov:rY (r.aq++r.av).length (x.o.h::x.aH)
 ol:x.aH.length<=50
section
variable{Q:IV->Prop}{k0:List IV->Prop}{p:Pg}{x:Pn}{k i n:Nat}{r:Rl}{a:At}{ps te:List Int}{x1 x8 x7 x9:IV}
theorem ar_(hp:jG p)(h:CQ p x k i n r a ps te)(acc:List Ac)(hQ:Q (bL (jx (r.aq++r.av) r.aw acc x k n a ps te))):
 Of.sat ayu CC Q [k0] [aW p,x1,aZ x,iI k,bP r,dr (r.aq++r.av),iI n,iI (ux acc ⟨a.s,a.ts.length,ps⟩),iT (mH a.ts ps),x9,iL (x.o.h::x.aH.take k)]:=by
 obtain⟨hi,gS⟩:=ayw.1 h.h.ru;obtain⟨hk,bu⟩:=ayw.1 h.h.od;obtain⟨hn,zf⟩:=ayw.1 h.h.hd;obtain⟨qu,y_⟩:=ayw.1 h.h.kn;obtain⟨oV,HQ⟩:=ayw.1 h.t;have lL:=hp.rs r (gS▸ayy hi);have fF:=lL.hs a (zf▸ayy hn);have JY:=h.ov;have pV:=h.ol;have hA:=gK hn;rw[zf]at hA;have hK:=mV qu;rw[y_]at hK;have hT:cz 1 (bg x.cj) (iI ((k:Int)+2))=aa (iL x.cj[k+2]):=mV oV;rw[HQ]at hT;have abk:=ahJ af a.s a.ts ai n ps (by have:=h.pl;unfold Sm;omega);have asa:=abi af r te h.tl h.tv;have VU:ay1.wrap ((k:Int)+2)=(k:Int)+2:=dD ai ai;have Bk:=pP n ps a.ts 0;have vN:(bA r.aw te).length=te.length:=by simp[bA]
 have ayt:=h.tl;have hN:aZ x=.agg [iI x.o.r,iI x.o.h,iB x.o.k,iL x.aH,bg x.cM,bg x.cj]:=rfl
 have jJ:∀v∈x.o.h::x.aH.take k,0<=v/\v<(r.aq++r.av).length:=λv hv=>JY v (by
  rcases ayN.1 hv with rfl|hv
  .simp
  .exact azA _ (List.mem_of_mem_take hv))
 have ot:(x.o.h::x.aH.take k).length<=60:=by simp;omega
 rw[hN];rw[bx]at*
 unfold jx at hQ;generalize x.o.h::x.aH.take k=es at*
 generalize r.aq++r.av=hs at*
 generalize hF:(⟨3,n,ux acc ⟨a.s,a.ts.length,ps⟩,jw,mH a.ts ps⟩:In)=F at*
 have Ss:qp F=.agg [iI 3,iI n,iI (ux acc ⟨a.s,a.ts.length,ps⟩),iI 0,iS [],iT [],iT (mH a.ts ps)]:=by rw[<-hF];rfl
 unfold Of;refine az es.length (λj (q:List In)=>[iI j,bL (F::q)]) (λj q=>q=er hs n a (es.take j)) [] ?_ (by simp[er]) λj q hj hI=>?_
 .simp[SE.den,Ss,cellsOf]
 have yC:=pR hs n a (es.take j);rw[<-hI,azq]at yC;by_cases aj:j<es.length
 .have hw:=aD aj ai;obtain⟨v0,v1⟩:=jJ _ (ayy aj);have jv:es[j]=((es[j].toNat:Nat):Int):=ai;have bJ:es[j].toNat<hs.length:=ai;have hB:=gK bJ;rw[<-jv]at hB;have bI:=Dz (hs:=hs) (h:=n) (a:=a) aj;rw[<-hI]at bI
  have YW:ta hs n a es[j]=if hs[es[j].toNat].s=a.s/\hs[es[j].toNat].ts.length=a.ts.length then[⟨4,n,es[j],jw,[]⟩]else[]:=by
   unfold ta;rw[ayv bJ]
  have hc:=dQ (a:=F::q) (i:=⟨4,n,es[j],jw,[]⟩) (by simp;omega);simp only[jw]at hc;simp[SE.den,aj,hw,ao,eF aj,hA,hB,cellsOf];by_cases e1:hs[es[j].toNat].s=a.s
  rotate_left
  .right;refine⟨e1,.mk q rfl ai ?_⟩;rw[bI,YW,if_neg (λh=>e1 h.1),ayO]
  left;refine⟨e1,?_⟩;by_cases e2:hs[es[j].toNat].ts.length=a.ts.length
  rotate_left
  .right;refine⟨by omega,.mk q rfl ai ?_⟩;rw[bI,YW,if_neg (λh=>e2 h.2),ayO]
  left;refine⟨by omega,?_⟩;rw[if_pos ⟨e1,e2⟩]at YW;simp[aF];refine⟨_,hc,.mk (q++[⟨4,n,es[j],jw,[]⟩]) rfl ai (by rw[bI,YW])⟩
 .rw[ayF ai]at hI;rw[<-hI]at hQ;have cd:=Ji (a:=F::q) (b:=bM n ps a.ts 0) (by simp;omega);have lE:=Ji (a:=F::q++bM n ps a.ts 0) (b:=bA r.aw te) (by simp;omega);simp[SE.den,aj,hA,hK,ao];refine⟨_,abk,_,cd,?_⟩;simp[VU,hT];refine⟨_,asa,_,lE,?_⟩;rw[azv,azv];exact hQ
theorem y43(hp:jG p)(h:CQ p x k i n r a ps te)(acc:List Ac)(hc:Eu acc):
 aaS.sat ayu CC (·=bL (jx (r.aq++r.av) r.aw acc x k n a ps te)) [] [aW p,fL acc,aZ x,iI k]:=by
 obtain⟨hi,gS⟩:=ayw.1 h.h.ru;obtain⟨hk,bu⟩:=ayw.1 h.h.od;have dt:r∈p.bc:=gS▸ayy hi;have lL:=hp.rs r dt;have GV:=Qp r (by have:=lL.h;omega);have h42:=k42 hp h.h acc hc;have awy:=av_ hp h.h h.pl;have hR:=q8 hi;rw[gS]at hR;have vo:cz 6 (jF p.bc) (iI x.o.r)=aa (.agg [iS r.name,dr r.aq,dr r.av,iX r.aw,iX r.aI,iI r.vars]):=by rw[h.h.oc];exact hR
 have hO:=eF hk;rw[bu]at hO;have pV:=h.ol;have hy:=λk0 x9=>ar_ (Q:=(·=bL (jx (r.aq++r.av) r.aw acc x k n a ps te))) (k0:=k0) (x1:=fL acc) (x9:=x9) hp h acc rfl;have hN:aZ x=.agg [iI x.o.r,iI x.o.h,iB x.o.k,iL x.aH,bg x.cM,bg x.cj]:=rfl;have hP:aW p=.agg [dO p.eN,jF p.bc]:=rfl;rw[bx]at*
 rw[hN,hP]at*
 generalize jx (r.aq++r.av) r.aw acc x k n a ps te=res at*
 generalize r.aq++r.av=hs at*
 simp[aaS,SE.den,ao,vo];refine⟨_,GV,?_⟩;simp[hO];refine⟨_,h42,?_⟩;simp;refine⟨_,awy,?_⟩;simp[aF];unfold X3;refine az k (λj (_:Unit)=>[iI j,iL (x.o.h::x.aH.take j)]) (λ_ _=>True) () ?_ trivial λj _ hj _=>?_
 .simp[SE.den,cellsOf]
 by_cases aj:j<k
 .have hw:=aD aj ai;have bJ:j<x.aH.length:=ai;have hc:=mI (a:=x.o.h::x.aH.take j) (v:=x.aH[j]) (by simp;omega);have bI:x.o.h::x.aH.take (j+1)=(x.o.h::x.aH.take j)++[x.aH[j]]:=by rw[ayE bJ];rfl
  rw[<-bI]at hc;generalize awz:x.o.h::x.aH.take (j+1)=gg at*
  generalize x.o.h::x.aH.take j=so at*
  simp[SE.den,aj,hw,eF bJ,aF,cellsOf];refine⟨_,hc,.mk () ?_ ai trivial⟩;rw[<-awz];rfl
 .have bB:j=k:=ai;subst bB;simp[SE.den];exact hy _ _
theorem asb(new:Bool)(hp:jG p)(h:CQ p x k i n r a ps te)(acc:List Ac)(hc:Eu acc):
 CC 2185 new [aW p,fL acc,aZ x,iI k] (bL (jx (r.aq++r.av) r.aw acc x k n a ps te)):=by
 have h1:=anS
 have hf:jY ayu (bY ayu 43) 43 [aW p,fL acc,aZ x,iI k] ((jx (r.aq++r.av) r.aw acc x k n a ps te).map qp):=
  .lT (nm:=af) mixed qZ aqH kr (Lf p acc x k) (by rw[h1];exact yD _) (Ew _) (λ_=>by simp[jx]) (by rw[h1];exact y43 hp h acc hc)
 have h2:=p_.Uf (new:=new) (s8 rfl) hf;rw[eE,anS]at h2;unfold CC;rw[eE];exact h2
end
end
section
section
variable{P:Program}{G:List IV}
def af9(j:Nat):IV->Option IV
 |.agg cs=>(cs[j]?).bind yr
 |_=>ah
def af_(n:Nat):IV->Option IV
 |.agg cs=>if cs.length=n/\cs.all ao then aa (.agg cs)else ah
 |_=>ah
def acF(x:IV):IV->Option IV
 |.agg cs=>aa (.agg (x::cs))
 |_=>ah
def trF(q:Nat):IV->Option IV
 |.agg cs=>if 0<q/\cs.all (λe=>(cellsOf e).length==q)then aa (.tree q cs)else ah
 |_=>ah
def tpF:IV->Option IV
 |.agg cs=>aa (.aL cs)
 |_=>ah
theorem oj{j:Nat}{cs:List IV}:af9 j (.agg cs)=(cs[j]?).bind yr:=by rw[af9]
theorem Ll{n:Nat}{cs:List IV}:af_ n (.agg cs)=if cs.length=n/\cs.all ao then aa (.agg cs)else ah:=by rw[af_]
theorem Jj{x:IV}{cs:List IV}:acF x (.agg cs)=aa (.agg (x::cs)):=by rw[acF]
theorem OZ{q:Nat}{cs:List IV}:trF q (.agg cs)=if 0<q/\cs.all (λe=>(cellsOf e).length==q)then aa (.tree q cs)else ah:=by rw[trF]
theorem ajy{cs:List IV}:tpF (.agg cs)=aa (.aL cs):=by rw[tpF]
theorem cI{O β:Type}{a:O}{f:O->Option β}:(aa a).bind f=f a:=by rw[ayx]
theorem gH{x:Nat}:(SE.var x).den P G=G[x]? :=by rw[SE.den]
theorem Gs{n:Int}:(SE.i n).den P G=aa (iI n):=by rw[SE.den]
theorem awA{t:Bool}:(SE.b t).den P G=aa (iB t):=by rw[SE.den]
theorem awB{l:List UInt8}:(SE.s l).den P G=aa (iS l):=by rw[SE.den]
theorem pS{e:SE}:(SE.ok e).den P G=(e.den P G).bind yr:=by rw[SE.den]
theorem adR{n:Nat}{e:SE}:(SE.uM n e).den P G=(e.den P G).bind (af_ n):=by rw[SE.den];rfl
theorem wi{e:SE}{j:Nat}:(SE.bC e j).den P G=(e.den P G).bind (af9 j):=by rw[SE.den];rfl
theorem yF{q:Nat}{e x:SE}:(SE.idx q e x).den P G=(e.den P G).bind λa1=>(x.den P G).bind λb1=>cz q a1 b1:=by rw[SE.den]
theorem o6{e:SE}:(SE.len e).den P G=(e.den P G).bind Hy:=by rw[SE.den]
theorem asc:SE.an.den P G=aa (.agg []):=by rw[SE.den]
theorem asd{q:Nat}{r:SE}:(SE.tr q r).den P G=(r.den P G).bind (trF q):=by rw[SE.den];rfl
theorem ase{a r:SE}:(SE.ac a r).den P G=(a.den P G).bind λx=>(r.den P G).bind (acF x):=by rw[SE.den];rfl
theorem asf{r:SE}:(SE.tp r).den P G=(r.den P G).bind tpF:=by rw[SE.den];rfl
theorem anT{q b:Nat}{e f:SE}:(SE.cat q b e f).den P G=(e.den P G).bind λa1=>(f.den P G).bind λb1=>dz q b a1 b1:=by rw[SE.den]
theorem yG{op:BinOp}{t:TypeId}{a b:SE}:(SE.bin op t a b).den P G=(a.den P G).bind λx1=>(b.den P G).bind λy1=>cO P op t x1 y1:=by rw[SE.den]
theorem ash{op:UnOp}{a:SE}:(SE.un op a).den P G=(a.den P G).bind (Rp P op):=by rw[SE.den]
theorem asi{e:SE}:(SE.rw e).den P G=(e.den P G).bind λz=>if aF z then aa z else ah:=by rw[SE.den]
theorem adS{q:Nat}{e lo hi:SE}:(SE.sub q e lo hi).den P G=(e.den P G).bind λa1=>(lo.den P G).bind λb1=>(hi.den P G).bind λc1=>p6 q a1 b1 c1:=by rw[SE.den]
end
def dC:=azL @cI<|azL @gH<|azL @Gs<|azL @awA<|azL @awB<|azL @pS<|azL @adR<|azL @wi<|azL @yF<|azL @o6<|azL @asd<|azL @ase<|azL @asc<|azL @asf<|azL @oj<|azL @Ll<|azL @Jj<|azL @OZ<|azL @ajy<|azL @anT<|azL @yG<|azL @ash<| @asi
end
def VW:ak:=
 (jr (oa (yP 7)) 8 7 1 4 7 1 8 (fm 4 10 (n_ 95 (ko oZ 8) (mD 11 11 (agG 9 eB 2 1 (Dq (.var 8) (sE 4 (iG 10 10 10 10))) (ew 8 12)) (ew 8 9)))) (kH 0 9))
def VX:ak:=
 (qE (ik 7) 9 8 1 jR 9 11 (qY 3 5 3 rM (tx 3 12 10 2 12 0 12 1 12 2 (ew 9 13))) (kH 0 10))
def VY:ak:=
 (qE (ik 9) 11 10 1 F7 11 13 (qY 3 5 3 (fj 13) (tx 3 14 12 2 14 0 14 1 14 2 (ew 11 15))) (kH 0 12))
def VZ:ak:=
 (iJ (lY bV mQ 24 (w7 2 bV tJ (pC 2 25 9 24 (eD 25) (pF 2 bV mQ 2 26 26 (pF 2 bV tJ 2 27 27 (.nx 3 (FL 26 1 (tM 27)) .an))) (.next 3 (qW oX))))) (.test (.var 24) (gh (.rw mQ) (.rw tJ) (qx 22 (j2 (.i 4) mQ (KU tJ)) (iQ 2 21 25))) (iQ 2 21 22)))
def V3:ak:=
 (jr (ik 22) 25 24 1 4 24 1 25 (fm 4 27 (n_ 95 (ko tJ 25) (mD 28 28 (qx 26 (j2 eB mQ (Dq (.var 25) (sE 4 (iG 27 27 27 27)))) (iQ 4 25 29)) (iQ 4 25 26)))) (kH 3 26))
def V4:ak:=
 (qE (ik 24) 26 25 1 (fj 25) 26 28 (qY 3 5 3 (fj 28) (tx 3 29 27 2 29 0 29 1 29 2 (iQ 4 26 30))) (kH 3 27))
def adT:ak:=
 (iJ (.aV (fU 25) V4) (.next 1 (ko (.i 13) 26)))
def V5:ak:=
 (iJ (pF 2 bV mQ 2 24 24 V3) (FW 12 2 (rN 1 2 5 (B9 12 2) 25 adT)))
def V6:ak:=
 (qE (ik 18) 21 20 1 (fj 20) 21 23 VZ (tG 1 (mY 2 4) 12 23 V5))
def anU:ak:=
 (iJ (lY bV mQ 24 (w7 2 bV tJ (pC 2 25 9 24 (eD 25) (pF 2 bV mQ 2 26 26 (pF 2 bV tJ 2 27 27 (.nx 3 (FL 26 1 (tM 27)) .an))) (.next 3 (qW oX))))) (.test (.var 24) (gh (.rw mQ) (.rw tJ) (qx 22 (j2 (.i 4) mQ (KU tJ)) (iQ 2 21 25))) (iQ 2 21 22)))
def ajz:ak:=
 (jr (ik 22) 25 24 1 4 24 1 25 (fm 4 27 (n_ 95 (ko tJ 25) (mD 28 28 (qx 26 (j2 eB mQ (Dq (.var 25) (sE 4 (iG 27 27 27 27)))) (iQ 4 25 29)) (iQ 4 25 26)))) (kH 3 26))
def ajA:ak:=
 (qE (ik 24) 26 25 1 (fj 25) 26 28 (qY 3 5 3 (fj 28) (tx 3 29 27 2 29 0 29 1 29 2 (iQ 4 26 30))) (kH 3 27))
def YX:ak:=
 (iJ (.aV (fU 25) ajA) (.next 1 (nC 13 26)))
def O0:ak:=
 (iJ (pF 2 bV mQ 2 24 24 ajz) (FW 12 2 (rN 1 2 5 (B9 12 2) 25 YX)))
def O1:ak:=
 (qE (ik 18) 21 20 1 (fj 20) 21 23 anU (tG 1 (mY 2 4) 12 23 O0))
def O2:ak:=
 (.BC (tG 1 (BZ 2) 12 15 (n_ 97 (j2 ij bo (ko nJ 12)) (pJ (fj 16) (fj 16) (n_ 98 (j2 ij nJ (lz 12)) (dY 17 (qx 14 (j2 (.i 3) mQ (Dq (fj 16) mR)) (qX xu (xD 1 (BZ 2) aY (.var 12) (Cm 99 (.tr 1 (ko MG 19)) (ig 20 20 V6))))))) (n_ 98 (j2 ij nJ (lz 12)) (dY 17 (qx 14 (j2 (.i 3) mQ (Dq (fj 16) mR)) (qX xu (xD 1 (BZ 2) aY (.var 12) (Cm 99 (.tr 1 (ko MG 19)) (ig 20 20 O1)))))))))) 2 (vU 0 12 15 16))
def ajB:ak:=
 (mT 20 21 3 5 4 21 (mS 3 23 22 9 23 0 23 1 23 2 3 3 21 1 24) 2 0 5 5 22 10 2 0 5 5 (rU 23))
def ajC:ak:=
 (mT 19 20 3 5 4 20 (mS 3 22 21 9 22 0 22 1 22 2 3 3 20 1 23) 2 0 5 5 21 10 2 0 5 5 (rU 22))
def ajD:ak:=
 (mT 19 20 3 5 4 20 (mS 3 22 21 9 22 0 22 1 22 2 3 3 20 1 23) 2 0 5 5 21 10 2 0 5 5 (rU 22))
def ajE:ak:=
 (mT 17 19 3 5 4 19 (mS 3 21 20 9 21 0 21 1 21 2 3 3 19 1 22) 2 0 5 5 20 10 2 0 5 5 (rU 21))
def ajF:ak:=
 (mT 18 19 3 5 4 19 (mS 3 21 20 9 21 0 21 1 21 2 3 3 19 1 22) 2 0 5 5 20 10 2 0 5 5 (rU 21))
def ajG:ak:=
 (mT 17 18 3 5 4 18 (mS 3 20 19 9 20 0 20 1 20 2 3 3 18 1 21) 2 0 5 5 19 10 2 0 5 5 (rU 20))
def O3:ak:=
 (zH (ko xL 15) ek 16 6 (MA 16 (qx 17 (tq v8 16 xy) (iQ 2 16 18))) (.test FO (xN 101 (d_ 5 5 5 5 5 5) 18 18 (Mu 17 (.i 7) xy (tz (pE 5 2) (BU 2 0 FT 19 8 2 0 ek (rG ajB)) ajC)) (tz (pE 5 2) (BU 2 0 FT 17 8 2 0 ek (rG ajD)) ajE)) (tz (pE 5 2) (BU 2 0 FT 17 8 2 0 ek (rG ajF)) ajG)))
def ajH:ak:=
 (My (rC BQ 19 (sE 7 (HU (.i 7) xy))) 20 3 5 4 20 (tx 3 23 21 9 23 0 23 1 23 2 (BV 3 3 20 1 (nC 24 22))) (FK 2 0 5 5 21 10 2 0 5 5 (rU 23)))
def ajI:ak:=
 (My (rC BQ 18 (sE 7 (HU (.i 7) xy))) 19 3 5 4 19 (tx 3 22 20 9 22 0 22 1 22 2 (BV 3 3 19 1 (nC 23 21))) (FK 2 0 5 5 20 10 2 0 5 5 (rU 22)))
def ajJ:ak:=
 (My (rC BQ 18 (sE 7 (wD v7 2 0 (KU ek)))) 19 3 5 4 19 (tx 3 22 20 9 22 0 22 1 22 2 (BV 3 3 19 1 (nC 23 21))) (FK 2 0 5 5 20 10 2 0 5 5 (rU 22)))
def ajK:ak:=
 (T8 (rC BQ 16 (mY 5 4)) (BR 18) 3 (.var 20) 18 (tx 3 21 19 9 21 0 21 1 21 2 (BV 3 3 18 1 (nC 22 20))) (FK 2 0 5 5 19 10 2 0 5 5 (rU 21)))
def ajL:ak:=
 (My (rC BQ 17 (sE 7 (wD v7 2 0 (KU ek)))) 18 3 5 4 18 (tx 3 21 19 9 21 0 21 1 21 2 (BV 3 3 18 1 (nC 22 20))) (FK 2 0 5 5 19 10 2 0 5 5 (rU 21)))
def ajM:ak:=
 (T8 (rC BQ 16 (mY 5 4)) (BR 17) 3 (.var 19) 17 (tx 3 20 18 9 20 0 20 1 20 2 (BV 3 3 17 1 (nC 21 19))) (FK 2 0 5 5 18 10 2 0 5 5 (rU 20)))
def O4:ak:=
 (zH (ko xL 14) ek 15 6 (MA 15 (qx 16 (tq v8 15 xy) (iQ 2 15 17))) (.test FO (xN 101 (d_ 5 5 5 5 5 5) 17 17 (Mu 16 (.i 7) xy (tz (pE 5 2) (BU 2 0 FT 18 8 2 0 ek (rG ajH)) ajI)) (tz (pE 5 2) (BU 2 0 FT 16 8 2 0 ek (rG ajJ)) ajK)) (tz (pE 5 2) (BU 2 0 FT 16 8 2 0 ek (rG ajL)) ajM)))
def O5:ak:=
 (iJ (lq 5 2 (pE 5 2) (.aV ek (.test (pE 5 2) (BU 2 0 FT 14 5 2 0 ek (qy 5 1 O3)) (qy 5 1 O4)))) (.nt (zq .neq 38 13) (aaw (ko (agH aY oX 7) 13)) (rO 15 15 200 7 6 2 0 2 1 15)))
def O6:ak:=
 (uh (HU aY (lz 11)) (BP 12 2 3) O2 O5)
def O7:ak:=
 (iJ (.aV (fU 10) VY) (qy 2 3 O6))
def O8:ak:=
 (iJ (.aV (fU 8) VX) (rN 1 2 5 eB 10 O7))
def O9:ak:=
 (iJ (pF 2 bV xu 2 7 7 VW) (rN 1 2 5 aY 8 O8))
def abl:ak:=
 (xQ (jq 6 2 31 ij (mD 3 3 (IS 7 2) (eL 32 ij nJ (mD 4 4 (IS 7 2) (tN 6 1 zx (qD 6 5 33 5 5 5 5 5 5 (dY 6 O9))))))))
theorem anV:aE ayu (cB [⟨1,11064,1000082,[],[(5,0)],[],[]⟩,⟨1,11064,1000074,[],[(5,0)],[],[]⟩,⟨0,11,1000051,[],[(5,0)],[],[]⟩,⟨0,11,1000045,[],[(5,0)],[],[]⟩,⟨0,11,1000039,[],[(5,0)],[],[]⟩,⟨0,11,1000066,[],[(5,0),(8,0)],[],[]⟩,⟨3,11067818000,1,[(3,(3,0))],[(5,3),(5,0),(4,10),(8,3),(8,0)],[],[]⟩,⟨1,11067,7,[(1,(4,0))],[(5,0),(4,10),(8,0)],[(1,36),(1,35),(1,34),(1,33),(1,32),(1,31),(1,30),(1,29),(1,28),(1,27),(1,26),(1,25),(1,24),(1,23),(1,22),(1,21),(1,20),(1,19),(1,18),(1,17),(1,16),(1,15),(1,14),(1,13),(1,12),(1,11),(1,10),(1,9),(1,8),(1,7)],[]⟩,⟨0,11,9,[(0,(55,0))],[(5,3),(5,0),(4,11),(4,10)],[(0,53),(0,52),(0,51),(0,50),(0,49),(0,48),(0,47),(0,46),(0,45),(0,44),(0,43),(0,42),(0,41),(0,40),(0,39),(0,38),(0,37),(0,36),(0,35),(0,34),(0,33),(0,32),(0,31),(0,30),(0,29),(0,28),(0,27),(0,26),(0,25),(0,24),(0,23),(0,22),(0,21),(0,19),(0,18),(0,17),(0,16),(0,15),(0,14),(0,13),(0,12),(0,11)],[]⟩,⟨0,11,1000063,[],[(5,0),(4,11),(8,0)],[],[]⟩,⟨2,11064083,1,[(2,(8,0))],[(5,0),(8,0)],[],[]⟩,⟨2,11064075,1,[(2,(17,0))],[(5,0),(8,0)],[(2,14),(2,13),(2,12),(2,11),(2,10),(2,9),(2,8)],[]⟩,⟨1,11064,7,[(1,(52,0))],[(5,0),(8,0)],[(1,49),(1,48),(1,47),(1,46),(1,45),(1,44),(1,43),(1,42),(1,41),(1,40),(1,39),(1,38),(1,37),(1,36),(1,35),(1,34),(1,33),(1,32),(1,31),(1,30),(1,29),(1,28),(1,27),(1,26),(1,25),(1,24),(1,23),(1,22),(1,21),(1,20),(1,19),(1,18),(1,17),(1,16),(1,15),(1,14)],[]⟩,⟨1,11052,1,[(1,(8,0))],[(5,3),(5,0),(4,10)],[],[]⟩,⟨1,11046,1,[(1,(8,0))],[(5,3),(5,0),(4,10)],[],[]⟩,⟨1,11040,1,[(1,(17,0))],[(5,3),(5,0),(4,10)],[(1,14),(1,13),(1,12),(1,11),(1,10),(1,9),(1,8)],[]⟩,⟨1,11064,1000059,[(1,(59,0))],[],[],[]⟩]) 400 af 11=abl:=by kernel_rfl
end Go.Proofs.YtabefplkfkfdfaaGreat
